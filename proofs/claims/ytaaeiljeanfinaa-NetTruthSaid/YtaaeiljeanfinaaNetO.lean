import Derived.Test.YtaaeiljeanfinaaNetN
namespace Go.Proofs.Ytaaeiljeanfinaa
open Go Go.RowKit
set_option linter.unusedVariables false
set_option linter.unusedSimpArgs false

theorem LoneF.take {B : Nat} {w0 w : World} {F : Nat → Prop} {g : Nat} {s s' : NetS} (h : LoneF B w0 w F g s) {id er : Int} {x : Letter} (he : s.take id = (s', x, er)) (hl : s.l.length ≤ 1000000) (hlp : s.parted.length ≤ 1000000) :
    Calls Try.prog 15 #[.pointer (some ⟨g, 0, none⟩), .int .i64 id] w fun e w' => e = .returned (.tuple #[.agg #[.int .i64 x.id, .int .i64 x.src, .int .i64 x.dst, .string x.body], .int .i64 er]) ∧ LoneF B w0 w' (grow F w w') g s' ∧ Kept w w' F := by
  refine (net_take F g s id w h.net (fun k hk => (h.foot k hk).2) hl hlp).mono ?_
  rw [he]
  rintro e w' ⟨rfl, hp⟩
  exact ⟨rfl, h.of hp, hp.1⟩
theorem LoneF.join {B : Nat} {w0 w : World} {F : Nat → Prop} {g : Nat} {s s' : NetS} (h : LoneF B w0 w F g s) {a b er : Int} (he : s.join a b = (s', er)) (hlp : s.parted.length ≤ 1000000) :
    Calls Try.prog 17 #[.pointer (some ⟨g, 0, none⟩), .int .i64 a, .int .i64 b] w fun e w' => e = .returned (.int .i64 er) ∧ LoneF B w0 w' (grow F w w') g s' ∧ Kept w w' F := by
  refine (net_join F g s a b w h.net (fun k hk => (h.foot k hk).2) hlp).mono ?_
  rw [he]
  rintro e w' ⟨rfl, hp⟩
  exact ⟨rfl, h.of hp, hp.1⟩

/-! Waits: the plain part. -/
structure WL (L : List Letter) (k : Nat) : Prop where
  each : ∀ x ∈ L, x.src = 0 ∧ x.dst = 1 ∧ x.id < k ∧ x.body.size ≤ 1000
  len : L.length ≤ k
def waitS (L : List Letter) (k : Nat) (p : List Pr) : NetS := ⟨3, k, L, p⟩
theorem waitS_send (L : List Letter) (k : Nat) (hk : k < 60) (hL : WL L k) (to : Int) (ht : to = 1 ∨ to = 2) (b : ByteArray) (hb : b.size ≤ 1000) : (waitS L k [mkPr 0 1]).send 0 to b = (waitS (L ++ [⟨k, 0, to, b⟩]) (k + 1) [mkPr 0 1], (k : Int), 0) := by
  have e1 : (waitS L k [mkPr 0 1]).has 0 = true := NetS.has_of (by simp [waitS])
  have e2 : (waitS L k [mkPr 0 1]).has to = true := NetS.has_of (by simp only [waitS]; omega)
  have e3 : ¬ (waitS L k [mkPr 0 1]).full b := by
    unfold NetS.full
    have := hL.len
    simp only [waitS]
    omega
  unfold NetS.send NetS.put
  rw [e1, e2, if_pos (show (true && true) = true from rfl), if_neg e3]
  simp only [NetS.add, waitS]
  simp
theorem waitS_take1 (L : List Letter) (k : Nat) (hL : WL L k) (b : ByteArray) : (waitS (L ++ [⟨k, 0, 1, b⟩]) (k + 1) [mkPr 0 1]).take k = (waitS (L ++ [⟨k, 0, 1, b⟩]) (k + 1) [mkPr 0 1], Letter.zero, 4) := by
  obtain ⟨i, hi, h1, h2, h3⟩ := (waitS (L ++ [⟨k, 0, 1, b⟩]) (k + 1) [mkPr 0 1]).pos_at k ⟨k, 0, 1, b⟩ (by simp [waitS]) rfl
  have hsd : (waitS (L ++ [⟨k, 0, 1, b⟩]) (k + 1) [mkPr 0 1]).l[i].src = 0 ∧ (waitS (L ++ [⟨k, 0, 1, b⟩]) (k + 1) [mkPr 0 1]).l[i].dst = 1 := by
    have hm : (waitS (L ++ [⟨k, 0, 1, b⟩]) (k + 1) [mkPr 0 1]).l[i] ∈ L ++ [⟨k, 0, 1, b⟩] := List.getElem_mem hi
    rcases List.mem_append.1 hm with hm | hm
    · have := hL.each _ hm; exact ⟨this.1, this.2.1⟩
    · rw [List.mem_singleton.1 hm]; exact ⟨rfl, rfl⟩
  unfold NetS.take
  rw [h1]
  simp only [NetS.getD _ i hi, hsd.1, hsd.2]
  rw [if_pos (show (waitS (L ++ [⟨k, 0, 1, b⟩]) (k + 1) [mkPr 0 1]).isParted 0 1 = true from rfl)]
theorem waitS_take2 (L : List Letter) (k : Nat) (hL : WL L k) (b : ByteArray) : (waitS (L ++ [⟨k, 0, 2, b⟩]) (k + 1) [mkPr 0 1]).take k = (waitS L (k + 1) [mkPr 0 1], ⟨k, 0, 2, b⟩, 0) := by
  obtain ⟨i, hi, h1, h2, h3⟩ := (waitS (L ++ [⟨k, 0, 2, b⟩]) (k + 1) [mkPr 0 1]).pos_at k ⟨k, 0, 2, b⟩ (by simp [waitS]) rfl
  have hil : i = L.length := by
    have hi' : i < (L ++ [(⟨k, 0, 2, b⟩ : Letter)]).length := hi
    rw [List.length_append, List.length_singleton] at hi'
    rcases Nat.lt_or_ge i L.length with h | h
    · exfalso
      have e : (waitS (L ++ [⟨k, 0, 2, b⟩]) (k + 1) [mkPr 0 1]).l[i] = L[i] := List.getElem_append_left h
      rw [e] at h3
      have := (hL.each _ (List.getElem_mem h)).2.2.1
      omega
    · omega
  subst hil
  have e : (waitS (L ++ [⟨k, 0, 2, b⟩]) (k + 1) [mkPr 0 1]).l[L.length] = ⟨k, 0, 2, b⟩ := by simp [waitS]
  unfold NetS.take
  rw [h1]
  simp only [NetS.getD _ _ hi, e]
  have hnp : (waitS (L ++ [⟨k, 0, 2, b⟩]) (k + 1) [mkPr 0 1]).isParted 0 2 = false := by show ((min 0 2 == (0 : Int) && max 0 2 == (1 : Int)) || false) = false; decide
  rw [hnp, if_neg (by decide)]
  simp [NetS.cut, waitS, List.eraseIdx_append_of_length_le]
theorem WL.more {L : List Letter} {k : Nat} (h : WL L k) : WL L (k + 1) := ⟨fun x hx => by have := h.each x hx; omega, by have := h.len; omega⟩
theorem WL.put {L : List Letter} {k : Nat} (h : WL L k) (b : ByteArray) (hb : b.size ≤ 1000) : WL (L ++ [⟨k, 0, 1, b⟩]) (k + 1) := by
  refine ⟨fun x hx => ?_, by rw [List.length_append]; have := h.len; simp; omega⟩
  rcases List.mem_append.1 hx with hx | hx
  · have := h.each x hx; omega
  · rw [List.mem_singleton.1 hx]; exact ⟨rfl, rfl, by show (k : Int) < ((k + 1 : Nat) : Int); omega, hb⟩
theorem waitS_join (L : List Letter) (k : Nat) : (waitS L k [mkPr 0 1]).join 1 0 = (waitS L k [], 0) := rfl
theorem waitS_take (x : Letter) (L : List Letter) (k : Nat) : (waitS (x :: L) k []).take x.id = (waitS L k [], x, 0) := by
  have h : (waitS (x :: L) k []).pos x.id = some 0 := by
    unfold NetS.pos NetS.find
    simp [waitS, idx]
  unfold NetS.take
  rw [h]
  rfl

set_option maxHeartbeats 8000000 in
set_option maxRecDepth 1000000 in
theorem waits_walk (A0 : Option Addr) (len0 cap0 : Nat) (rows0 : List (List Value)) (A1 : Option Addr) (len1 cap1 : Nat) (rows1 : List (List Value)) (w : World)
    (w0 : Open.Rows w [.str] A0 len0 cap0 rows0) (y0 : len0 * Try.prog.bytesOf 9 ≤ 140737488351232) (w1 : Open.Rows w [.int .i64] A1 len1 cap1 rows1) (y1 : len1 * Try.prog.bytesOf 3 ≤ 140737488351232) :
    Calls Try.prog 4 #[.slice A0 len0 cap0, .slice A1 len1 cap1] w fun e w' => e = .returned (.bool true) ∧ Below w.heap.size w w' := by
  obtain ⟨f, hF⟩ := args_of w0 (fun s : ByteArray => [.string s]) (fun s => s.size ≤ 140737488351232) 1 rfl (fun r h => by
    obtain ⟨hl, hk⟩ := h
    match r, hl with
    | [x], _ =>
      obtain ⟨a, rfl, h⟩ := hk 0 _ _ rfl rfl
      exact ⟨a, rfl, h⟩)
  obtain ⟨fw, hW⟩ := args_of w1 icells (fun _ => True) 1 rfl (fun r h => by
    obtain ⟨hl, hk⟩ := h
    match r, hl with
    | [x], _ =>
      obtain ⟨a, rfl, _⟩ := hk 0 _ _ rfl rfl
      exact ⟨a, rfl, trivial⟩)
  have hlen : len0 ≤ 9223372036854775807 := by have h1 := w0.2.1; have h2 := w0.2.2.1; unfold maxLen at h2; omega
  have hlen1 : len1 ≤ 9223372036854775807 := by have h1 := w1.2.1; have h2 := w1.2.2.1; unfold maxLen at h2; omega
  clear w0 y0 w1 y1
  have HF := Lib.hid hF
  have HW := Lib.hid hW
  clear hF hW
  have hpart := Lib.hid (show (⟨3, 0, [], []⟩ : NetS).part 0 1 = (waitS [] 0 [mkPr 0 1], 0) from rfl)
  go_enter Try.func4, Try.ntmps4
  go_wp2_with (fail)
  refine (Lone.new (w0 := w) 3 (by decide) (by decide) (Below.refl _ _)).mono ?_
  rintro e w2 ⟨rfl, h2⟩
  have H2 := Lib.hid h2
  clear h2
  go_wp2_with (fail)
  refine (works_true _).mono ?_
  rintro e w3 ⟨rfl, hb3⟩
  have H3 := Lib.hid (H2.out.below hb3)
  clear hb3
  go_wp2_with (fail)
  refine (H3.out.part hpart.out (by decide)).mono ?_
  rintro e w4 ⟨rfl, h4⟩
  have H4 := Lib.hid h4.told
  clear h4
  go_wp2_with (fail)
  go_loopg [7, 8] 60 (fun gg s7 s8 wr => ∃ (k : Nat) (F : Nat → Prop) (L : List Letter) (B : Option Addr) (m c : Nat), k ≤ len0 ∧ k ≤ 60 ∧ 60 - k ≤ gg ∧ s7 = .slice B m c ∧ m ≤ k ∧ s8 = .int .i64 k ∧ Hid (L.length = m) ∧ Hid (WL L k) ∧ Hid (LoneF w.heap.size w wr F w.heap.size (waitS L k [mkPr 0 1])) ∧ Hid (Row wr 3 1 icells (.slice B m c) (L.map (·.id))) ∧ Hid (∀ q, (Value.slice B m c).ownBlock = some q → w.heap.size ≤ q ∧ ¬ F q))
  case atStart =>
    obtain ⟨F, hF⟩ := H4.out
    exact ⟨0, F, [], none, 0, 0, Nat.zero_le _, by omega, by omega, rfl, Nat.le_refl _, rfl, Lib.hid rfl, Lib.hid ⟨by simp, by simp⟩, Lib.hid hF, Lib.hid (Row.nil_ ..), Lib.hid (by simp [Value.ownBlock])⟩
  case round =>
    obtain ⟨k, F, L, B, m, c, hk1, hk2, hg, rfl, hmk, rfl, HM, HWL, HL, HR, HO⟩ := hrel
    by_cases hlt : k < len0 ∧ k < 60
    · obtain ⟨hlt, h60⟩ := hlt
      have g1 : (k : Int) < (len0 : Int) := by omega
      have g2 : (k : Int) < 60 := by omega
      have g0 : (0 : Int) ≤ (k : Int) := by omega
      obtain ⟨ad, hA, hcell⟩ := (HF.out.below HL.out.back).2 (by omega)
      obtain rfl := hA
      have c0 := hcell k hlt 0 _ rfl
      clear hcell
      simp only [adr, Nat.mul_one] at c0
      have hadl := World.block_lt_of_cell? _ _ c0
      have HAD := Lib.hid (show (ad.add k).block < w.heap.size by
        obtain ⟨ad2, e2, hc2⟩ := HF.out.2 (by omega)
        obtain rfl : ad = ad2 := by injection e2
        have := World.block_lt_of_cell? _ _ (hc2 k hlt 0 _ rfl)
        simpa [adr] using this)
      generalize f k = b at c0
      by_cases hb : 1000 < b.size
      · have hbz : (1000 : Int) < (b.size : Int) := by omega
        clear hb
        go_wp2
        go_ret
        exact ⟨rfl, HL.out.back⟩
      · have hbz : (b.size : Int) ≤ 1000 := by omega
        have HBZ := Lib.hid (show b.size ≤ 1000 by omega)
        clear hb
        have hbb : (b.toList == b.toList) = true := by simp
        have hbe : (b == b) = true := by rw [beq_toListBytes]; exact hbb
        have HBB := Lib.hid (And.intro hbb hbe)
        clear hbb hbe
        by_cases hw : k < len1
        · have hwz : (k : Int) < (len1 : Int) := by omega
          obtain ⟨adw, hAw, hcw⟩ := (HW.out.below HL.out.back).2 (by omega)
          obtain rfl := hAw
          have cw := hcw k hw 0 _ rfl
          clear hcw
          simp only [adr, Nat.mul_one] at cw
          generalize fw k = x at cw
          have hto := amg_bounds x 2 (by decide) (by decide)
          go_wp2_with (fail)
          refine (among_calls x 2 _ (by decide)).mono ?_
          rintro e w5 ⟨rfl, hw5⟩
          obtain rfl := hw5.symm
          have hto2 : amg x 2 = 0 ∨ amg x 2 = 1 := by omega
          clear hto cw
          generalize amg x 2 = y at hto2 ⊢
          rcases hto2 with rfl | rfl
          · go_wp2_with (fail)
            refine (HL.out.send (waitS_send L k h60 HWL.out 1 (.inl rfl) b HBZ.out) g0 (by have := HBZ.out; omega)).mono ?_
            rintro e w6 ⟨rfl, h6, k6⟩
            have H6 := Lib.hid h6
            have K6 := Lib.hid k6
            clear h6 k6
            go_wp2_with (fail)
            refine (H6.out.take (waitS_take1 L k HWL.out b) (by have := HWL.out.len; simp [waitS]; omega) (show ([mkPr 0 1] : List Pr).length ≤ 1000000 by decide)).mono ?_
            rintro e w7 ⟨rfl, h7, k7⟩
            have H7 := Lib.hid h7
            have K7 := Lib.hid k7
            clear h7 k7
            have hz7 := Lib.hid H7.out.back.size
            have HR7 := Lib.hid (((HR.out.kept K6.out (fun q e => (HO.out q e).2)).kept K7.out (fun q e => grow_out (HR.out.lt e) (HO.out q e).2)).alloc (.cells #[.int .i64 Letter.zero.id, .int .i64 Letter.zero.src, .int .i64 Letter.zero.dst, .string Letter.zero.body] 38))
            have HO7 := Lib.hid (fun q (e : (Value.slice B m c).ownBlock = some q) => (⟨(HO.out q e).1, grow_out (Nat.lt_of_lt_of_le (HR.out.lt e) K6.out.size) (grow_out (HR.out.lt e) (HO.out q e).2)⟩ : w.heap.size ≤ q ∧ ¬ grow (grow F wr w6) w6 w7 q))
            have H8 := Lib.hid (H7.out.below ((Below.refl _ _).alloc (Nat.le_refl _) (.cells #[.int .i64 Letter.zero.id, .int .i64 Letter.zero.src, .int .i64 Letter.zero.dst, .string Letter.zero.body] 38)))
            go_wp2_with (fail)
            go_quiet (fail)
            have hle : ((L.map (·.id)).length + 1) * 8 ≤ 140737488355328 := by have := HM.out; rw [List.length_map]; omega
            have HLE := Lib.hid hle
            have h1 : Hid (∀ x : Int, ∀ u ∈ icells x, u.oneCell' = true) := Lib.hid (fun x u hu => by simp [icells] at hu; subst hu; rfl)
            clear hle
            go_wp2_with (at_builtin; refine Row.append_list (by rfl) (.tmp 105) (.tmp 107) 34 3 (.int .i64 0) 1 8 rfl Try.underlying34 info_ints rfl (by decide) (by decide) (.slice B m c) (L.map (·.id)) [(k : Int)] rfl ⟨w7.heap.size + 1, 0, none⟩ 1 1 rfl ((HR7.out.drewN _).alloc _) rfl (fun _ => rfl) (by simpa using news_lit icells ((w7.alloc _).drewN _) 3 (k : Int) #[.int .i64 k] rfl) h1.out HLE.out ?_)
            intro v1 w9 hR9 hG9 hO9
            have hl9 : (L.map (·.id) ++ [(k : Int)]).length = m + 1 := by rw [List.length_append, List.length_map, HM.out]; rfl
            obtain ⟨B1, c1, rfl⟩ := hR9.shape_n hl9
            have HR9 := Lib.hid hR9
            have HG9 := Lib.hid hG9
            have HO9 := Lib.hid hO9
            clear hR9 hG9 hO9 hl9
            have H9 := Lib.hid (((H8.out.drewN _).below ((Below.refl _ _).alloc (Nat.le_refl _) (.cells #[.int .i64 (k : Int)] 3))).kept (S := fun q => (Value.slice B m c).ownBlock = some q) ⟨HG9.out.os, HG9.out.tape, HG9.out.output, HG9.out.size, fun q hq hn => HG9.out.block q hq (fun e => hn e.symm)⟩ (fun q hf e => (HO7.out q e).2 hf) (fun q e => (HO7.out q e).1))
            have HO10 := Lib.hid (fun q (e : (Value.slice B1 (m + 1) c1).ownBlock = some q) => (show w.heap.size ≤ q ∧ ¬ grow (grow F wr w6) w6 w7 q from by
              rcases HO9.out with h | h
              · rw [h] at e; exact HO7.out q e
              · rw [h] at e
                injection e with e
                have hz := hz7.out
                refine ⟨by subst e; omega, fun hf => ?_⟩
                have := (H7.out.foot q hf).2
                subst e
                omega))
            go_wp2
            go_roundg (60 - (k + 1))
            case measure => omega
            case rel => exact ⟨k + 1, _, L ++ [⟨k, 0, 1, b⟩], B1, m + 1, c1, by omega, by omega, Nat.le_refl _, rfl, by omega, by go_num, Lib.hid (by rw [List.length_append, HM.out]; rfl), Lib.hid (HWL.out.put b HBZ.out), H9, Lib.hid (by rw [List.map_append]; exact HR9.out), HO10⟩
          · go_wp2_with (fail)
            refine (HL.out.send (waitS_send L k h60 HWL.out 2 (.inr rfl) b HBZ.out) g0 (by have := HBZ.out; omega)).mono ?_
            rintro e w6 ⟨rfl, h6, k6⟩
            have H6 := Lib.hid h6
            have K6 := Lib.hid k6
            clear h6 k6
            go_wp2_with (fail)
            refine (H6.out.take (waitS_take2 L k HWL.out b) (by have := HWL.out.len; simp [waitS]; omega) (show ([mkPr 0 1] : List Pr).length ≤ 1000000 by decide)).mono ?_
            rintro e w7 ⟨rfl, h7, k7⟩
            have H7 := Lib.hid h7
            have K7 := Lib.hid k7
            clear h7 k7
            have HR7 := Lib.hid (((HR.out.kept K6.out (fun q e => (HO.out q e).2)).kept K7.out (fun q e => grow_out (HR.out.lt e) (HO.out q e).2)).alloc (.cells #[.int .i64 (k : Int), .int .i64 0, .int .i64 2, .string b] 38))
            have HO7 := Lib.hid (fun q (e : (Value.slice B m c).ownBlock = some q) => (⟨(HO.out q e).1, grow_out (Nat.lt_of_lt_of_le (HR.out.lt e) K6.out.size) (grow_out (HR.out.lt e) (HO.out q e).2)⟩ : w.heap.size ≤ q ∧ ¬ grow (grow F wr w6) w6 w7 q))
            have H8 := Lib.hid (H7.out.below ((Below.refl _ _).alloc (Nat.le_refl _) (.cells #[.int .i64 (k : Int), .int .i64 0, .int .i64 2, .string b] 38)))
            have c7 : w7.cell? (ad.add k) = some (.string b) := (H7.out.back.cell (HAD.out)).trans ((HL.out.back.cell (HAD.out)).symm.trans c0)
            have had7 := World.block_lt_of_cell? _ _ c7
            have hbb := HBB.out.1
            go_wp2_with (fail)
            go_quiet (fail)
            go_wp2
            go_roundg (60 - (k + 1))
            case measure => omega
            case rel => exact ⟨k + 1, _, L, B, m, c, by omega, by omega, Nat.le_refl _, rfl, by omega, by go_num, HM, Lib.hid HWL.out.more, Lib.hid (H8.out.drewN _), Lib.hid (HR7.out.drewN _), HO7⟩
        · have hwz : ¬ ((k : Int) < (len1 : Int)) := by omega
          go_wp2_with (fail)
          refine (HL.out.send (waitS_send L k h60 HWL.out 1 (.inl rfl) b HBZ.out) g0 (by have := HBZ.out; omega)).mono ?_
          rintro e w6 ⟨rfl, h6, k6⟩
          have H6 := Lib.hid h6
          have K6 := Lib.hid k6
          clear h6 k6
          go_wp2_with (fail)
          refine (H6.out.take (waitS_take1 L k HWL.out b) (by have := HWL.out.len; simp [waitS]; omega) (show ([mkPr 0 1] : List Pr).length ≤ 1000000 by decide)).mono ?_
          rintro e w7 ⟨rfl, h7, k7⟩
          have H7 := Lib.hid h7
          have K7 := Lib.hid k7
          clear h7 k7
          have hz7 := Lib.hid H7.out.back.size
          have HR7 := Lib.hid (((HR.out.kept K6.out (fun q e => (HO.out q e).2)).kept K7.out (fun q e => grow_out (HR.out.lt e) (HO.out q e).2)).alloc (.cells #[.int .i64 Letter.zero.id, .int .i64 Letter.zero.src, .int .i64 Letter.zero.dst, .string Letter.zero.body] 38))
          have HO7 := Lib.hid (fun q (e : (Value.slice B m c).ownBlock = some q) => (⟨(HO.out q e).1, grow_out (Nat.lt_of_lt_of_le (HR.out.lt e) K6.out.size) (grow_out (HR.out.lt e) (HO.out q e).2)⟩ : w.heap.size ≤ q ∧ ¬ grow (grow F wr w6) w6 w7 q))
          have H8 := Lib.hid (H7.out.below ((Below.refl _ _).alloc (Nat.le_refl _) (.cells #[.int .i64 Letter.zero.id, .int .i64 Letter.zero.src, .int .i64 Letter.zero.dst, .string Letter.zero.body] 38)))
          go_wp2_with (fail)
          go_quiet (fail)
          have hle : ((L.map (·.id)).length + 1) * 8 ≤ 140737488355328 := by have := HM.out; rw [List.length_map]; omega
          have HLE := Lib.hid hle
          have h1 : Hid (∀ x : Int, ∀ u ∈ icells x, u.oneCell' = true) := Lib.hid (fun x u hu => by simp [icells] at hu; subst hu; rfl)
          clear hle
          go_wp2_with (at_builtin; refine Row.append_list (by rfl) (.tmp 105) (.tmp 107) 34 3 (.int .i64 0) 1 8 rfl Try.underlying34 info_ints rfl (by decide) (by decide) (.slice B m c) (L.map (·.id)) [(k : Int)] rfl ⟨w7.heap.size + 1, 0, none⟩ 1 1 rfl ((HR7.out.drewN _).alloc _) rfl (fun _ => rfl) (by simpa using news_lit icells ((w7.alloc _).drewN _) 3 (k : Int) #[.int .i64 k] rfl) h1.out HLE.out ?_)
          intro v1 w9 hR9 hG9 hO9
          have hl9 : (L.map (·.id) ++ [(k : Int)]).length = m + 1 := by rw [List.length_append, List.length_map, HM.out]; rfl
          obtain ⟨B1, c1, rfl⟩ := hR9.shape_n hl9
          have HR9 := Lib.hid hR9
          have HG9 := Lib.hid hG9
          have HO9 := Lib.hid hO9
          clear hR9 hG9 hO9 hl9
          have H9 := Lib.hid (((H8.out.drewN _).below ((Below.refl _ _).alloc (Nat.le_refl _) (.cells #[.int .i64 (k : Int)] 3))).kept (S := fun q => (Value.slice B m c).ownBlock = some q) ⟨HG9.out.os, HG9.out.tape, HG9.out.output, HG9.out.size, fun q hq hn => HG9.out.block q hq (fun e => hn e.symm)⟩ (fun q hf e => (HO7.out q e).2 hf) (fun q e => (HO7.out q e).1))
          have HO10 := Lib.hid (fun q (e : (Value.slice B1 (m + 1) c1).ownBlock = some q) => (show w.heap.size ≤ q ∧ ¬ grow (grow F wr w6) w6 w7 q from by
            rcases HO9.out with h | h
            · rw [h] at e; exact HO7.out q e
            · rw [h] at e
              injection e with e
              have hz := hz7.out
              refine ⟨by subst e; omega, fun hf => ?_⟩
              have := (H7.out.foot q hf).2
              subst e
              omega))
          go_wp2
          go_roundg (60 - (k + 1))
          case measure => omega
          case rel => exact ⟨k + 1, _, L ++ [⟨k, 0, 1, b⟩], B1, m + 1, c1, by omega, by omega, Nat.le_refl _, rfl, by omega, by go_num, Lib.hid (by rw [List.length_append, HM.out]; rfl), Lib.hid (HWL.out.put b HBZ.out), H9, Lib.hid (by rw [List.map_append]; exact HR9.out), HO10⟩
    · have g0 : (0 : Int) ≤ (k : Int) := by omega
      have g00 : ¬ ((k : Int) < (len0 : Int)) ∨ (k : Int) < (len0 : Int) ∧ ¬ ((k : Int) < 60) := by omega
      clear hlt
      rcases g00 with g1 | ⟨g1, g2⟩
      all_goals
        go_wp2_with (fail)
        refine (HL.out.lone.letters m HM.out (by show L.length ≤ 1000000; rw [HM.out]; omega)).mono ?_
        rintro e w6 ⟨A6, c6, rfl, hr6, hn6, hb6, h6⟩
        have H6 := Lib.hid (HL.out.below hb6)
        have HR6 := Lib.hid (HR.out.kept (Kept.of_below hb6 fun _ => False) (fun _ _ h => h))
        clear hr6 hn6 hb6 h6
        go_wp2_with (fail)
        refine (H6.out.join (waitS_join L k) (show ([mkPr 0 1] : List Pr).length ≤ 1000000 by decide)).mono ?_
        rintro e w7 ⟨rfl, h7, k7⟩
        have H7 := Lib.hid h7
        have HR7 := Lib.hid (HR6.out.kept k7 (fun q e => (HO.out q e).2))
        have HO7 := Lib.hid (fun q (e : (Value.slice B m c).ownBlock = some q) => (⟨(HO.out q e).1, grow_out (HR6.out.lt e) (HO.out q e).2⟩ : w.heap.size ≤ q ∧ ¬ grow F w6 w7 q))
        clear h7 k7
        go_wp2
        go_loopg [122] m (fun gg s122 wz => ∃ (j : Nat) (G : Nat → Prop), j ≤ m ∧ m - j ≤ gg ∧ s122 = .int .i64 j ∧ Hid (LoneF w.heap.size w wz G w.heap.size (waitS (L.drop j) k [])) ∧ Hid (Row wz 3 1 icells (.slice B m c) (L.map (·.id))) ∧ Hid (∀ q, (Value.slice B m c).ownBlock = some q → w.heap.size ≤ q ∧ ¬ G q))
        case atStart => exact ⟨0, _, Nat.zero_le _, by omega, rfl, H7, HR7, HO7⟩
        case round =>
          obtain ⟨j, G, hj, hgj, rfl, HLj, HRj, HOj⟩ := hrel
          by_cases hjm : j < m
          · have hjl : j < L.length := by rw [HM.out]; exact hjm
            have hjl2 : j < (L.map (·.id)).length := by rw [List.length_map]; exact hjl
            obtain ⟨b7, d7, hv7, hlt7, _⟩ := HRj.out.form (by omega)
            injection hv7 with ha7 hm7 hc7
            clear hm7
            subst ha7 hc7
            have c0 := HRj.out.cell (fun _ => rfl) j 0 hjl2 (by omega)
            have hdr := Lib.hid (List.drop_eq_getElem_cons hjl)
            have hsub := Lib.hid (HWL.out.len)
            have hl9 := Lib.hid (show (waitS (L.drop j) k []).l.length ≤ 1000000 by show (L.drop j).length ≤ 1000000; rw [List.length_drop, HM.out]; omega)
            rw [hdr.out] at HLj hl9
            rw [List.getElem_map] at c0
            generalize L[j] = x at c0 HLj hdr hl9
            simp only [icells, List.getElem?_cons_zero, Nat.add_zero, Nat.mul_one] at c0
            have j1 : (j : Int) < (m : Int) := by omega
            have j0 : (0 : Int) ≤ (j : Int) := by omega
            go_wp2_with (fail)
            refine (HLj.out.take (waitS_take x (L.drop (j + 1)) k) hl9.out (show ([] : List Pr).length ≤ 1000000 by decide)).mono ?_
            rintro e w9 ⟨rfl, h9, k9⟩
            have H9 := Lib.hid (h9.below ((Below.refl _ _).alloc (Nat.le_refl _) (.cells #[.int .i64 x.id, .int .i64 x.src, .int .i64 x.dst, .string x.body] 38)))
            have HR9 := Lib.hid ((HRj.out.kept k9 (fun q e => (HOj.out q e).2)).alloc (.cells #[.int .i64 x.id, .int .i64 x.src, .int .i64 x.dst, .string x.body] 38))
            have HO9 := Lib.hid (fun q (e : (Value.slice (some ⟨b7, 0, none⟩) m c).ownBlock = some q) => (⟨(HOj.out q e).1, grow_out (HRj.out.lt e) (HOj.out q e).2⟩ : w.heap.size ≤ q ∧ ¬ grow G wr w9 q))
            clear h9 k9
            go_wp2
            go_roundg (m - (j + 1))
            case measure => omega
            case rel => exact ⟨j + 1, _, by omega, Nat.le_refl _, by go_num, H9, HR9, HO9⟩
          · obtain rfl : j = m := by omega
            have j1 : ¬ ((j : Int) < (j : Int)) := by omega
            have hdz := Lib.hid (show L.drop j = [] from List.drop_of_length_le (by rw [HM.out]; omega))
            rw [hdz.out] at HLj
            go_wp2_with (fail)
            refine (HLj.out.lone.letters 0 rfl (by show ([] : List Letter).length ≤ 1000000; decide)).mono ?_
            rintro e w9 ⟨A9, c9, rfl, hr9, hn9, hb9, h9⟩
            have H9 := Lib.hid h9.back
            clear hr9 hn9 hb9 h9
            go_wp2
            go_ret
            exact ⟨rfl, H9.out⟩
end Go.Proofs.Ytaaeiljeanfinaa
