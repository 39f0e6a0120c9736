import Derived.Test.YtaghdopickgpgaaDoorDkR
namespace Go.Proofs.YtaghdopickgpgaaDoor
open Go Go.RowKit
set_option linter.unusedVariables false
set_option linter.unusedSimpArgs false

/-! Acts that came in. -/
open Shape in
abbrev actSK : List SK := [.int .i64, .str, .str, .int .i64, .row 3 [.int .i64]]
structure ActR where (kind : Int) (name to : ByteArray) (n : Int) (DA : Option Addr) (Dc : Nat) (D : List Int)
def ActR.cells (x : ActR) : List Value := [.int .i64 x.kind, .string x.name, .string x.to, .int .i64 x.n, .slice x.DA x.D.length x.Dc]
structure ActR.fits (w : World) (x : ActR) : Prop where
  name : x.name.size ≤ 140737488351232
  to : x.to.size ≤ 140737488351232
  n0 : -9223372036854775808 ≤ x.n
  n1 : x.n ≤ 9223372036854775807
  D : SegG w icell (.slice x.DA x.D.length x.Dc) x.D
  Dl : x.D.length * 8 ≤ 140737488351232
theorem wf_i64 {n : Int} (h : (Lit.int .i64 n).wf = true) : -9223372036854775808 ≤ n ∧ n ≤ 9223372036854775807 := by
  simpa [Lit.wf, IntKind.min, IntKind.max, IntKind.signed, IntKind.bits] using h
open Shape in
theorem open_act {w : World} (r : List Value) (h : SK.oks Tryd.prog w actSK r) : ∃ x : ActR, r = x.cells ∧ x.fits w := by
  have b2 : Tryd.prog.bytesOf 3 = 8 := by kernel_rfl
  obtain ⟨v1, r1, rfl, h1, h⟩ := oks_cons h
  obtain ⟨v2, r2, rfl, h2, h⟩ := oks_cons h
  obtain ⟨v3, r3, rfl, h3, h⟩ := oks_cons h
  obtain ⟨v4, r4, rfl, h4, h⟩ := oks_cons h
  obtain ⟨v5, r5, rfl, h5, h⟩ := oks_cons h
  obtain rfl := oks_nil h
  simp only [SK.ok] at h1 h2 h3 h4 h5
  obtain ⟨t1, rfl, _⟩ := h1
  obtain ⟨t2, rfl, y2⟩ := h2
  obtain ⟨t3, rfl, y3⟩ := h3
  obtain ⟨t4, rfl, y4⟩ := h4
  obtain ⟨MA, ml, mc, mr, rfl, m1, m2, m3, m4, m5, m7, m6⟩ := h5
  obtain ⟨M, hM, hMd⟩ := rows_map icell (fun _ => True) open_int1 mr m6
  have e2 : M.length = ml := by rw [← m4, hM, List.length_map]
  subst e2
  rw [b2] at m3
  exact ⟨⟨t1, t2, t3, t4, MA, mc, M⟩, rfl, y2, y3, (wf_i64 y4).1, (wf_i64 y4).2, segG_of_rows (sz := 1) (fun _ => rfl) (by decide) M hM m4 m1 m2 m5, m3⟩
open Shape in
theorem open_acts {w : World} {A : Option Addr} {len cap : Nat} (h : SK.oks Tryd.prog w [.row 45 actSK] [.slice A len cap]) : ∃ xs : List ActR, xs.length = len ∧ SegG w ActR.cells (.slice A len cap) xs ∧ ∀ x ∈ xs, x.fits w := by
  obtain ⟨v, vs, e, h, _⟩ := oks_cons h
  simp only [SK.ok] at h
  obtain ⟨A', len', cap', rows, hv, h1, h2, h3, h4, h5, h7, h6⟩ := h
  simp only [List.cons.injEq] at e
  rw [hv] at e
  simp only [Value.slice.injEq] at e
  obtain ⟨⟨rfl, rfl, rfl⟩, _⟩ := e
  obtain ⟨xs, hx, hd⟩ := rows_map ActR.cells (ActR.fits w) open_act rows h6
  exact ⟨xs, by rw [← h4, hx, List.length_map], segG_of_rows (sz := 5) (fun _ => rfl) (by decide) xs hx h4 h1 h2 h5, hd⟩

/-- One act of a disk that grows. -/
def DkS.gact (s : DkS) (kd : Int) (x : ActR) : DkS :=
  if kd = 0 then (s.append x.name x.to).1 else if kd = 1 then (s.cut x.name x.n).1 else if kd = 2 then s.sync.1 else if kd = 3 then (s.rename x.name x.to).1 else (s.remove x.name).1
def grownS (n : Int) (xs : List ActR) : DkS := (xs.take 100).foldl (fun s x => s.gact (amg x.kind 5) x) ⟨n, 0, [], false, false, 0⟩
theorem tick_free {s : DkS} (h : s.fused = false) : s.tick = s := by
  unfold DkS.tick
  rw [h]
  rfl
def DkS.free (s : DkS) : Prop := s.fused = false ∧ s.down = false
theorem set_free {s : DkS} (h : s.free) (k : ByteArray) (f : DF) : (s.set k f).free := h
theorem drop_free {s : DkS} (h : s.free) (k : ByteArray) : (s.drop k).free := h
theorem gact_free {s : DkS} (h : s.free) (kd : Int) (x : ActR) : (s.gact kd x).free := by
  have ht := tick_free h.1
  unfold DkS.gact DkS.append DkS.cut DkS.sync DkS.rename DkS.remove
  rw [ht]
  repeat' split
  all_goals exact h
theorem gact_room {s : DkS} (kd : Int) (x : ActR) : (s.gact kd x).room = s.room := by
  have ht := tick_room s
  unfold DkS.gact DkS.append DkS.cut DkS.sync DkS.rename DkS.remove
  repeat' split
  all_goals first | rfl | exact ht
theorem grown_free (n : Int) (xs : List ActR) : (grownS n xs).free := by
  unfold grownS
  generalize xs.take 100 = l
  have : ∀ s : DkS, s.free → (l.foldl (fun s x => s.gact (amg x.kind 5) x) s).free := by
    induction l with
    | nil => exact fun s h => h
    | cons x l ih => exact fun s h => ih _ (gact_free h _ _)
  exact this _ ⟨rfl, rfl⟩
theorem grown_room (n : Int) (xs : List ActR) : (grownS n xs).room = n := by
  unfold grownS
  generalize xs.take 100 = l
  have : ∀ s : DkS, (l.foldl (fun s x => s.gact (amg x.kind 5) x) s).room = s.room := by
    induction l with
    | nil => exact fun s => rfl
    | cons x l ih => exact fun s => (ih _).trans (gact_room _ _)
  exact this _
theorem foldl_take {α β : Type} (f : β → α → β) (b : β) (l : List α) (k : Nat) (h : k < l.length) : (l.take (k + 1)).foldl f b = f ((l.take k).foldl f b) l[k] := by
  rw [List.take_succ_eq_append_getElem h, List.foldl_append]
  rfl
set_option maxRecDepth 100000 in
set_option maxHeartbeats 8000000 in
theorem grown_calls (w0 w : World) (room : Int) (A : Option Addr) (len cap : Nat) (xs : List ActR) (hxl : xs.length = len) (hX : SegG w0 ActR.cells (.slice A len cap) xs) (hfit : ∀ x ∈ xs, x.fits w0) (hb : Below w0.heap.size w0 w) (hlm : len ≤ 140737488351232) :
    Calls Tryd.prog 23 #[.int .i64 room, .slice A len cap] w fun e w' => ∃ g F, e = .returned (.pointer (some ⟨g, 0, none⟩)) ∧ LoneK w0 w' F g (grownS (amg room 2000) xs) := by
  have HX := Lib.hid hX
  have HFIT := Lib.hid hfit
  have HXL := Lib.hid hxl
  have ham := among_calls room 2000 w (by decide) (by decide)
  have hrm := amg_bounds room 2000 (by decide) (by decide)
  unfold grownS
  generalize amg room 2000 = rm at *
  have hnew := LoneK.new (w0 := w0) (w := w) rm hb hrm.1 (by omega)
  clear hX hfit hxl hb
  go_enter Tryd.func23, Tryd.ntmps23
  go_wp2_with (fail)
  refine ham.mono ?_
  rintro e w1 ⟨rfl, rfl⟩
  clear ham
  go_wp2_with (fail)
  refine hnew.mono ?_
  rintro e w1 ⟨g, F, rfl, h, _⟩
  have H1 := Lib.hid h
  clear hnew h hrm
  go_wp2_with (fail)
  go_loopg [7, 8] 100 (fun gg s7 _ wr => ∃ (k : Nat), k ≤ len ∧ k ≤ 100 ∧ 100 - k ≤ gg ∧ s7 = .int .i64 k ∧ Hid (LoneK w0 wr F g ((xs.take k).foldl (fun s x => s.gact (amg x.kind 5) x) ⟨rm, 0, [], false, false, 0⟩)))
  case atStart => exact ⟨0, Nat.zero_le _, by omega, by omega, by go_num, H1⟩
  case round =>
    obtain ⟨k, hk1, hk2, hg, rfl, HL⟩ := hrel
    have hlm2 : (len : Int) ≤ 140737488351232 := by omega
    by_cases hlt : k < len ∧ k < 100
    · obtain ⟨hlt, h100⟩ := hlt
      have hkl : k < xs.length := by rw [HXL.out]; exact hlt
      have r := HX.out.kept0 (Kept.of_below HL.out.back fun _ => False) (fun _ _ _ h => h)
      obtain ⟨ad, c', hv, _⟩ := r.form (by omega)
      injection hv with hA hnn hc
      clear hnn
      subst hA hc
      have c0 := r.cell (sz := 5) (fun _ => rfl) k 0 hkl (by omega)
      have c1 := r.cell (sz := 5) (fun _ => rfl) k 1 hkl (by omega)
      have c2 := r.cell (sz := 5) (fun _ => rfl) k 2 hkl (by omega)
      have c3 := r.cell (sz := 5) (fun _ => rfl) k 3 hkl (by omega)
      have c4 := r.cell (sz := 5) (fun _ => rfl) k 4 hkl (by omega)
      have HF := Lib.hid (HFIT.out _ (List.getElem_mem hkl))
      have HT := Lib.hid (foldl_take (fun s x => DkS.gact s (amg x.kind 5) x) ⟨rm, 0, [], false, false, 0⟩ xs k hkl)
      clear r
      generalize (xs.take k).foldl (fun s x => DkS.gact s (amg x.kind 5) x) ⟨rm, 0, [], false, false, 0⟩ = s at *
      generalize xs[k] = x at c0 c1 c2 c3 c4 HF HT
      simp only [ActR.cells, adr, List.getElem?_cons_zero, List.getElem?_cons_succ, Nat.add_zero, Nat.zero_add, Nat.reduceAdd] at c0 c1 c2 c3 c4
      have g1 : (k : Int) < (len : Int) := by omega
      have g2 : (k : Int) < 100 := by omega
      have g0 : (0 : Int) ≤ (k : Int) := by omega
      have HB := Lib.hid (Blk.new wr 45 #[.int .i64 x.kind, .string x.name, .string x.to, .int .i64 x.n, .slice x.DA x.D.length x.Dc])
      have b0 := HB.out.cell 0
      have b1 := HB.out.cell 1
      have b2 := HB.out.cell 2
      have b3 := HB.out.cell 3
      have HL2 := Lib.hid (HL.out.below ((Below.refl _ wr).alloc (Nat.le_refl _) (.cells #[.int .i64 x.kind, .string x.name, .string x.to, .int .i64 x.n, .slice x.DA x.D.length x.Dc] 45)))
      have hbd := amg_bounds x.kind 5 (by decide) (by decide)
      have ham := among_calls x.kind 5 (wr.alloc (.cells #[.int .i64 x.kind, .string x.name, .string x.to, .int .i64 x.n, .slice x.DA x.D.length x.Dc] 45)) (by decide) (by decide)
      obtain ⟨kd, hkd⟩ : ∃ kd, amg x.kind 5 = kd := ⟨_, rfl⟩
      rw [hkd] at ham hbd HT
      clear hkd
      go_wp2_with (fail)
      refine ham.mono ?_
      rintro e w2 ⟨rfl, rfl⟩
      clear ham
      have hk5 : kd = 0 ∨ kd = 1 ∨ kd = 2 ∨ kd = 3 ∨ kd = 4 := by omega
      clear hbd HL c0 c1 c2 c3 c4
      have hfn : x.name.size ≤ maxLen := by have := HF.out.name; simp only [maxLen]; omega
      have hft : x.to.size ≤ maxLen := by have := HF.out.to; simp only [maxLen]; omega
      have hft2 := HF.out.to
      have HFN := Lib.hid hfn
      have HFT := Lib.hid hft
      have HFT2 := Lib.hid hft2
      clear hfn hft hft2
      generalize wr.alloc (.cells #[.int .i64 x.kind, .string x.name, .string x.to, .int .i64 x.n, .slice x.DA x.D.length x.Dc] 45) = wa at *
      rcases hk5 with rfl | rfl | rfl | rfl | rfl
      · have hc := HL2.out.append x.name x.to HFN.out HFT2.out
        obtain ⟨rs, hrs⟩ : ∃ rs, (s.append x.name x.to).2 = rs := ⟨_, rfl⟩
        rw [hrs] at hc
        clear hrs
        have HT2 := Lib.hid HT.out
        go_wp2_with (fail)
        refine hc.mono ?_
        rintro e w3 ⟨rfl, h3, _⟩
        have H3 := Lib.hid h3
        clear hc h3 b0 b1 b2 b3
        go_wp2
        go_roundg (100 - (k + 1))
        case measure => omega
        case rel => exact ⟨k + 1, by omega, by omega, Nat.le_refl _, by go_num, Lib.hid (by rw [HT2.out]; exact H3.out)⟩
      · have hc := HL2.out.cut x.name x.n HFN.out
        obtain ⟨rs, hrs⟩ : ∃ rs, (s.cut x.name x.n).2 = rs := ⟨_, rfl⟩
        rw [hrs] at hc
        clear hrs
        have HT2 := Lib.hid HT.out
        go_wp2_with (fail)
        refine hc.mono ?_
        rintro e w3 ⟨rfl, h3, _⟩
        have H3 := Lib.hid h3
        clear hc h3 b0 b1 b2 b3
        go_wp2
        go_roundg (100 - (k + 1))
        case measure => omega
        case rel => exact ⟨k + 1, by omega, by omega, Nat.le_refl _, by go_num, Lib.hid (by rw [HT2.out]; exact H3.out)⟩
      · have hc := HL2.out.sync
        obtain ⟨rs, hrs⟩ : ∃ rs, s.sync.2 = rs := ⟨_, rfl⟩
        rw [hrs] at hc
        clear hrs
        have HT2 := Lib.hid HT.out
        go_wp2_with (fail)
        refine hc.mono ?_
        rintro e w3 ⟨rfl, h3, _⟩
        have H3 := Lib.hid h3
        clear hc h3 b0 b1 b2 b3
        go_wp2
        go_roundg (100 - (k + 1))
        case measure => omega
        case rel => exact ⟨k + 1, by omega, by omega, Nat.le_refl _, by go_num, Lib.hid (by rw [HT2.out]; exact H3.out)⟩
      · have hc := HL2.out.rename x.name x.to HFN.out HFT.out
        obtain ⟨rs, hrs⟩ : ∃ rs, (s.rename x.name x.to).2 = rs := ⟨_, rfl⟩
        rw [hrs] at hc
        clear hrs
        have HT2 := Lib.hid HT.out
        go_wp2_with (fail)
        refine hc.mono ?_
        rintro e w3 ⟨rfl, h3, _⟩
        have H3 := Lib.hid h3
        clear hc h3 b0 b1 b2 b3
        go_wp2
        go_roundg (100 - (k + 1))
        case measure => omega
        case rel => exact ⟨k + 1, by omega, by omega, Nat.le_refl _, by go_num, Lib.hid (by rw [HT2.out]; exact H3.out)⟩
      · have hc := HL2.out.remove x.name HFN.out
        obtain ⟨rs, hrs⟩ : ∃ rs, (s.remove x.name).2 = rs := ⟨_, rfl⟩
        rw [hrs] at hc
        clear hrs
        have HT2 := Lib.hid HT.out
        go_wp2_with (fail)
        refine hc.mono ?_
        rintro e w3 ⟨rfl, h3, _⟩
        have H3 := Lib.hid h3
        clear hc h3 b0 b1 b2 b3
        go_wp2
        go_roundg (100 - (k + 1))
        case measure => omega
        case rel => exact ⟨k + 1, by omega, by omega, Nat.le_refl _, by go_num, Lib.hid (by rw [HT2.out]; exact H3.out)⟩
    · have hend : xs.take k = xs.take 100 := by
        have h1 := HXL.out
        rcases Nat.lt_or_ge k 100 with h2 | h2
        · rw [List.take_of_length_le (by omega), List.take_of_length_le (by omega)]
        · rw [show k = 100 by omega]
      have HE := Lib.hid hend
      clear hend
      have g00 : ¬ ((k : Int) < (len : Int)) ∨ (k : Int) < (len : Int) ∧ ¬ ((k : Int) < 100) := by omega
      clear hlt
      rcases g00 with g1 | ⟨g1, g2⟩
      all_goals
        go_wp2
        go_ret
        exact ⟨g, rfl, F, by have h := HL.out; rw [HE.out] at h; exact h⟩
end Go.Proofs.YtaghdopickgpgaaDoor
