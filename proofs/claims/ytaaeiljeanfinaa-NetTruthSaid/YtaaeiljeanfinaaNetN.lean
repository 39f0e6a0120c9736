import Derived.Test.YtaaeiljeanfinaaNetM
import Derived.Test.YtaaeiljeanfinaaOArgs
namespace Go.Proofs.Ytaaeiljeanfinaa
open Go Go.RowKit
set_option linter.unusedVariables false
set_option linter.unusedSimpArgs false

theorem among_calls (a b : Int) (w : World) (h : 0 < b) : Calls Try.prog 14 #[.int .i64 a, .int .i64 b] w fun e w' => e = .returned (.int .i64 (amg a b)) ∧ w' = w := by
  have h0 : (b == 0) = false := by simp; omega
  have hb : b ≠ 0 := by omega
  go_enter Try.func14, Try.ntmps14
  go_wp2
  go_ret
  exact ⟨rfl, rfl⟩

structure ActK where (kind a b i : Int) (body : ByteArray) (own : Bool)
deriving instance Inhabited for ActK
def ActK.cells (x : ActK) : List Value := [.int .i64 x.kind, .int .i64 x.a, .int .i64 x.b, .int .i64 x.i, .string x.body, .bool x.own]
def ActK.fits (x : ActK) : Prop := x.body.size ≤ 140737488351232
theorem actK_of (r : List Value) (h : Open.RowK [.int .i64, .int .i64, .int .i64, .int .i64, .str, .bool] r) : ∃ x : ActK, r = x.cells ∧ x.fits := by
  obtain ⟨hl, hk⟩ := h
  match r, hl with
  | [x1, x2, x3, x4, x5, x6], _ =>
    obtain ⟨a, rfl, _⟩ := hk 0 _ _ rfl rfl
    obtain ⟨b, rfl, _⟩ := hk 1 _ _ rfl rfl
    obtain ⟨c, rfl, _⟩ := hk 2 _ _ rfl rfl
    obtain ⟨d, rfl, _⟩ := hk 3 _ _ rfl rfl
    obtain ⟨s, rfl, hs⟩ := hk 4 _ _ rfl rfl
    obtain ⟨o, rfl⟩ := hk 5 _ _ rfl rfl
    exact ⟨⟨a, b, c, d, s, o⟩, rfl, hs⟩

/-- A net whose blocks are told. -/
structure LoneF (B : Nat) (w0 w : World) (F : Nat → Prop) (g : Nat) (s : NetS) : Prop where
  net : NetAt w F g s
  foot : ∀ k, F k → B ≤ k ∧ k < w.heap.size
  back : Below B w0 w
  base : B ≤ w0.heap.size
theorem LoneF.of {B : Nat} {w0 w w' : World} {g : Nat} {s s' : NetS} {F : Nat → Prop} (h : LoneF B w0 w F g s) (hp : NetPost w F g s' w') : LoneF B w0 w' (grow F w w') g s' := by
  have hz := h.back.size
  have hb := h.base
  refine ⟨hp.2, fun k hk => ?_, h.back.trans (hp.1.below (by omega) (fun k hk hf => by have := (h.foot k hf).1; omega)), h.base⟩
  rcases hk with hk | hk
  · exact ⟨(h.foot k hk).1, Nat.lt_of_lt_of_le (h.foot k hk).2 hp.1.size⟩
  · exact ⟨by omega, hk.2⟩
theorem LoneF.below {B : Nat} {w0 w w' : World} {g : Nat} {s : NetS} {F : Nat → Prop} (h : LoneF B w0 w F g s) (hb : Below w.heap.size w w') : LoneF B w0 w' F g s := by
  have hz := h.back.size
  have hB := h.base
  exact ⟨h.net.below hb, fun k hk => ⟨(h.foot k hk).1, Nat.lt_of_lt_of_le (h.foot k hk).2 hb.size⟩, h.back.trans (hb.mono (by omega)), h.base⟩
/-- Something else of the call's own has turned. -/
theorem LoneF.kept {B : Nat} {w0 w w' : World} {g : Nat} {s : NetS} {F S : Nat → Prop} (h : LoneF B w0 w F g s) (hk : Kept w w' S) (hn : ∀ k, F k → ¬ S k) (hS : ∀ k, S k → B ≤ k) : LoneF B w0 w' F g s := by
  have hz := h.back.size
  have hB := h.base
  exact ⟨h.net.kept hk (fun k _ hf => hn k hf), fun k hf => ⟨(h.foot k hf).1, Nat.lt_of_lt_of_le (h.foot k hf).2 hk.size⟩, h.back.trans (hk.below (by omega) (fun k hk' hs => by have := hS k hs; omega)), h.base⟩
theorem Lone.told {B : Nat} {w0 w : World} {g : Nat} {s : NetS} (h : Lone B w0 w g s) : ∃ F, LoneF B w0 w F g s := by
  obtain ⟨F, h1, h2, h3, h4⟩ := h
  exact ⟨F, h1, h2, h3, h4⟩
theorem LoneF.lone {B : Nat} {w0 w : World} {g : Nat} {s : NetS} {F : Nat → Prop} (h : LoneF B w0 w F g s) : Lone B w0 w g s := ⟨F, h.net, h.foot, h.back, h.base⟩
/-- What lies outside of the net, ahead of its call and behind it. -/
theorem grow_out {F : Nat → Prop} {w w' : World} {k : Nat} (hk : k < w.heap.size) (hn : ¬ F k) : ¬ grow F w w' k := fun h => h.elim hn (fun h => by omega)
section
variable {B : Nat} {w0 w : World} {F : Nat → Prop} {g : Nat} {s s' : NetS}
theorem LoneF.send (h : LoneF B w0 w F g s) {a b x er : Int} {body : ByteArray} (he : s.send a b body = (s', x, er)) (hn : 0 ≤ s.next) (hs : body.size ≤ 140737488355328) :
    Calls Try.prog 10 #[.pointer (some ⟨g, 0, none⟩), .int .i64 a, .int .i64 b, .string body] w fun e w' => e = .returned (.tuple #[.int .i64 x, .int .i64 er]) ∧ LoneF B w0 w' (grow F w w') g s' ∧ Kept w w' F := by
  refine (net_send F g s a b body w h.net hn hs).mono ?_
  rw [he]
  rintro e w' ⟨rfl, hp⟩
  exact ⟨rfl, h.of hp, hp.1⟩
theorem LoneF.drop (h : LoneF B w0 w F g s) {nd x er : Int} (he : s.drop nd = (s', x, er)) (hl : s.l.length ≤ 1000000) :
    Calls Try.prog 19 #[.pointer (some ⟨g, 0, none⟩), .int .i64 nd] w fun e w' => e = .returned (.tuple #[.int .i64 x, .int .i64 er]) ∧ LoneF B w0 w' (grow F w w') g s' ∧ Kept w w' F := by
  refine (net_drop F g s nd w h.net (fun k hk => (h.foot k hk).2) hl).mono ?_
  rw [he]
  rintro e w' ⟨rfl, hp⟩
  exact ⟨rfl, h.of hp, hp.1⟩
end

theorem NetS.has_of {s : NetS} {x : Int} (h : 0 ≤ x ∧ x < s.nodes) : s.has x = true := by
  unfold NetS.has
  rw [Bool.not_eq_true', decide_eq_false_iff_not]
  omega
theorem LoneF.drewN {B : Nat} {w0 w : World} {g : Nat} {s : NetS} {F : Nat → Prop} (h : LoneF B w0 w F g s) (n : Nat) : LoneF B w0 (w.drewN n) F g s := ⟨h.net, h.foot, pw_drewN h.back n, h.base⟩
theorem info_ints : (Try.prog.info? 3).map (fun i => (i.zero, i.size, i.bytes)) = some (some (.int .i64 0), 1, 8) := by kernel_rfl
/-! Drops: the plain part. -/
def sentBy (f : Nat → Int × Int) (k : Nat) : List Letter := (List.range k).map fun j : Nat => ⟨(j : Int), (f j).1, (f j).2, ⟨#[120]⟩⟩
def dropS (f : Nat → Int × Int) (k : Nat) : NetS := ⟨4, k, sentBy f k, []⟩
def stays (nd : Int) (x : Letter) : Bool := !(x.src == nd || x.dst == nd)
def leftIds (f : Nat → Int × Int) (nd : Int) (k : Nat) : List Int := ((sentBy f k).filter (stays nd)).map (·.id)
theorem sentBy_len (f : Nat → Int × Int) (k : Nat) : (sentBy f k).length = k := by simp [sentBy]
theorem sentBy_succ (f : Nat → Int × Int) (k : Nat) : sentBy f (k + 1) = sentBy f k ++ [⟨(k : Int), (f k).1, (f k).2, ⟨#[120]⟩⟩] := by simp [sentBy, List.range_succ]
theorem dropS_send (f : Nat → Int × Int) (k : Nat) (hk : k < 100) (h1 : 0 ≤ (f k).1 ∧ (f k).1 < 4) (h2 : 0 ≤ (f k).2 ∧ (f k).2 < 4) : (dropS f k).send (f k).1 (f k).2 ⟨#[120]⟩ = (dropS f (k + 1), (k : Int), 0) := by
  have e1 : (dropS f k).has (f k).1 = true := NetS.has_of h1
  have e2 : (dropS f k).has (f k).2 = true := NetS.has_of h2
  have e3 : ¬ (dropS f k).full ⟨#[120]⟩ := by
    unfold NetS.full
    show ¬ (65536 < (1 : Nat) ∨ 4096 ≤ (sentBy f k).length ∨ (1099511627776 : Int) ≤ (k : Int))
    rw [sentBy_len]
    omega
  unfold NetS.send NetS.put
  rw [e1, e2, if_pos (show (true && true) = true from rfl), if_neg e3]
  simp only [NetS.add, dropS, sentBy_succ]
  simp
theorem leftIds_get (f : Nat → Int × Int) (nd : Int) (k j : Nat) (h : j < (leftIds f nd k).length) (h2 : j < ((sentBy f k).filter (stays nd)).length) : (leftIds f nd k)[j] = ((sentBy f k).filter (stays nd))[j].id := by simp [leftIds]
theorem leftIds_succ (f : Nat → Int × Int) (nd : Int) (k : Nat) : leftIds f nd (k + 1) = leftIds f nd k ++ if ((f k).1 == nd || (f k).2 == nd) = true then [] else [(k : Int)] := by
  unfold leftIds
  rw [sentBy_succ, List.filter_append, List.map_append]
  congr 1
  cases h : ((f k).1 == nd || (f k).2 == nd)
  · rw [List.filter_cons_of_pos (by simp [stays, h])]
    simp
  · rw [List.filter_cons_of_neg (by simp [stays, h])]
    simp
theorem dropS_drop (f : Nat → Int × Int) (nd : Int) (k : Nat) (h : 0 ≤ nd ∧ nd < 4) : (dropS f k).drop nd = (⟨4, k, (sentBy f k).filter (stays nd), []⟩, (k : Int) - (leftIds f nd k).length, 0) := by
  have e : (dropS f k).has nd = true := NetS.has_of h
  unfold NetS.drop
  rw [e, if_pos rfl]
  simp only [dropS, sentBy_len, leftIds, List.length_map]
  rfl

set_option maxHeartbeats 4000000 in
set_option maxRecDepth 1000000 in
theorem drops_walk (A0 : Option Addr) (len0 cap0 : Nat) (rows0 : List (List Value)) (a1 : Int) (w : World) (w0 : Open.Rows w [.int .i64, .int .i64, .int .i64, .int .i64, .str, .bool] A0 len0 cap0 rows0) (y0 : len0 * Try.prog.bytesOf 48 ≤ 140737488351232) (w1 : (Lit.int .i64 a1).wf = true) :
    Calls Try.prog 6 #[.slice A0 len0 cap0, .int .i64 a1] w fun e w' => e = .returned (.bool true) ∧ Below w.heap.size w w' := by
  obtain ⟨f, hF⟩ := args_of w0 ActK.cells ActK.fits 6 rfl actK_of
  have hlen : len0 ≤ 9223372036854775807 := by have h1 := w0.2.1; have h2 := w0.2.2.1; unfold maxLen at h2; omega
  clear w0 y0 w1
  have HF := Lib.hid hF
  clear hF
  obtain ⟨ft, HFT⟩ : ∃ ft : Nat → Int × Int, Hid (ft = fun k => (amg (f k).a 4, amg (f k).b 4)) := ⟨_, Lib.hid rfl⟩
  obtain ⟨nd, hnd⟩ : ∃ nd, nd = amg a1 4 := ⟨_, rfl⟩
  have hndb := Lib.hid (show 0 ≤ nd ∧ nd < 4 by rw [hnd]; exact amg_bounds a1 4 (by decide) (by decide))
  have HND := Lib.hid hnd
  clear hnd
  go_enter Try.func6, Try.ntmps6
  go_wp2_with (fail)
  refine (Lone.new (w0 := w) 4 (by decide) (by decide) (Below.refl _ _)).mono ?_
  rintro e w2 ⟨rfl, h2⟩
  have H2 := Lib.hid h2
  clear h2
  go_wp2_with (fail)
  refine (works_true _).mono ?_
  rintro e w3 ⟨rfl, hb3⟩
  have H3 := Lib.hid (H2.out.below hb3).told
  clear hb3
  go_wp2_with (fail)
  refine (among_calls a1 4 _ (by decide)).mono ?_
  rintro e w4 ⟨rfl, rfl⟩
  rw [← HND.out]
  go_wp2_with (fail)
  go_loopg [7, 8, 9] 100 (fun gg s7 s8 s9 wr => ∃ (k : Nat) (F : Nat → Prop) (B : Option Addr) (m c : Nat), k ≤ len0 ∧ k ≤ 100 ∧ 100 - k ≤ gg ∧ s7 = .slice B m c ∧ s8 = .int .i64 ((k : Int) - m) ∧ m ≤ k ∧ s9 = .int .i64 k ∧ Hid (m = (leftIds ft nd k).length) ∧ Hid (LoneF w.heap.size w wr F w.heap.size (dropS ft k)) ∧ Hid (Row wr 3 1 icells (.slice B m c) (leftIds ft nd k)) ∧ Hid (∀ q, (Value.slice B m c).ownBlock = some q → w.heap.size ≤ q ∧ ¬ F q))
  case atStart =>
    obtain ⟨F, hF⟩ := H3.out
    exact ⟨0, F, none, 0, 0, Nat.zero_le _, by omega, by omega, rfl, rfl, Nat.le_refl _, rfl, Lib.hid rfl, Lib.hid hF, Lib.hid (Row.nil_ ..), Lib.hid (by simp [Value.ownBlock])⟩
  case round =>
    obtain ⟨k, F, B, m, c, hk1, hk2, hg, rfl, rfl, hmk, rfl, HM, HL, HR, HO⟩ := hrel
    by_cases hlt : k < len0 ∧ k < 100
    · obtain ⟨hlt, h100⟩ := hlt
      have g1 : (k : Int) < (len0 : Int) := by omega
      have g2 : (k : Int) < 100 := by omega
      have g0 : (0 : Int) ≤ (k : Int) := by omega
      obtain ⟨ad, hA, hcell⟩ := (HF.out.below HL.out.back).2 (by omega)
      obtain rfl := hA
      have c1 := hcell k hlt 1 _ rfl
      have c2 := hcell k hlt 2 _ rfl
      clear hcell
      simp only [adr] at c1 c2
      go_wp2_with (fail)
      go_quiet ((go_at_call 14; exact Calls.quiet_of_same (among_calls _ _ _ (by decide))))
      have e1 : amg (f k).a 4 = (ft k).1 := by rw [HFT.out]
      have e2 : amg (f k).b 4 = (ft k).2 := by rw [HFT.out]
      have hb1 := Lib.hid (show 0 ≤ (ft k).1 ∧ (ft k).1 < 4 by rw [← e1]; exact amg_bounds _ 4 (by decide) (by decide))
      have hb2 := Lib.hid (show 0 ≤ (ft k).2 ∧ (ft k).2 < 4 by rw [← e2]; exact amg_bounds _ 4 (by decide) (by decide))
      rw [e1, e2]
      clear e1 e2 c1 c2
      have hsend := Lib.hid (dropS_send ft k h100 hb1.out hb2.out)
      have hsucc := Lib.hid (leftIds_succ ft nd k)
      generalize (ft k).1 = x1 at hb1 hb2 hsend hsucc ⊢
      generalize (ft k).2 = x2 at hb1 hb2 hsend hsucc ⊢
      go_wp2_with (fail)
      refine ((HL.out.drewN _).send hsend.out g0 (by decide)).mono ?_
      rintro e w5 ⟨rfl, h5, k5⟩
      have H5 := Lib.hid h5
      have HR5 := Lib.hid ((HR.out.drewN _).kept k5 (fun q e => (HO.out q e).2))
      have HO5 := Lib.hid (fun q (e : (Value.slice B m c).ownBlock = some q) => (⟨(HO.out q e).1, grow_out (HR.out.lt e) (HO.out q e).2⟩ : w.heap.size ≤ q ∧ ¬ grow F _ w5 q))
      clear h5 k5
      have i1 : (0 : Int) ≤ (k : Int) - (m : Int) := by omega
      have i2 : (k : Int) - (m : Int) ≤ 100 := by omega
      cases hq : (x1 == nd || x2 == nd) with
      | true =>
        have hs2 := hsucc.out
        rw [hq, if_pos rfl, List.append_nil] at hs2
        have HS2 := Lib.hid hs2
        clear hs2
        have hq' : (x1 == nd) = true ∨ (x1 == nd) = false ∧ (x2 == nd) = true := by
          cases h : (x1 == nd)
          · right; rw [h] at hq; exact ⟨rfl, by simpa using hq⟩
          · left; rfl
        clear hq
        rcases hq' with hq' | ⟨hq1, hq2⟩
        all_goals
          go_wp2
          go_roundg (100 - (k + 1))
          case measure => omega
          case rel => exact ⟨k + 1, _, B, m, c, by omega, by omega, Nat.le_refl _, rfl, by congr 1; push_cast; omega, by omega, by go_num, Lib.hid (by rw [HS2.out]; exact HM.out), H5, Lib.hid (by rw [HS2.out]; exact HR5.out), HO5⟩
      | false =>
        have hs2 := hsucc.out
        rw [hq, if_neg (by decide)] at hs2
        have HS2 := Lib.hid hs2
        have hq1 := (Bool.or_eq_false_iff.1 hq).1
        have hq2 := (Bool.or_eq_false_iff.1 hq).2
        have hle : ((leftIds ft nd k).length + 1) * 8 ≤ 140737488355328 := by have := HM.out; omega
        have HLE := Lib.hid hle
        have h1 : Hid (∀ x : Int, ∀ u ∈ icells x, u.oneCell' = true) := Lib.hid (fun x u hu => by simp [icells] at hu; subst hu; rfl)
        have hz5 := Lib.hid H5.out.back.size
        clear hs2 hq hle
        go_wp2_with (at_builtin; refine Row.append_list (by rfl) (.tmp 76) (.tmp 78) 34 3 (.int .i64 0) 1 8 rfl Try.underlying34 info_ints rfl (by decide) (by decide) (.slice B m c) (leftIds ft nd k) [(k : Int)] rfl ⟨w5.heap.size, 0, none⟩ 1 1 rfl (HR5.out.alloc _) rfl (fun _ => rfl) (news_lit icells w5 3 (k : Int) #[.int .i64 k] rfl) h1.out HLE.out ?_)
        intro v1 w6 hR6 hG6 hO6
        have hl6 : (leftIds ft nd k ++ [(k : Int)]).length = m + 1 := by rw [List.length_append, ← HM.out]; rfl
        obtain ⟨B1, c1, rfl⟩ := hR6.shape_n hl6
        have HL6 := Lib.hid hl6
        have HR6 := Lib.hid hR6
        have HG6 := Lib.hid hG6
        have HO6 := Lib.hid hO6
        clear hR6 hG6 hO6 hl6
        have H6 := Lib.hid ((H5.out.below ((Below.refl _ _).alloc (Nat.le_refl _) (.cells #[.int .i64 (k : Int)] 3))).kept (S := fun q => (Value.slice B m c).ownBlock = some q) ⟨HG6.out.os, HG6.out.tape, HG6.out.output, HG6.out.size, fun q hq hn => HG6.out.block q hq (fun e => hn e.symm)⟩ (fun q hf e => (HO5.out q e).2 hf) (fun q e => (HO5.out q e).1))
        have HO7 := Lib.hid (fun q (e : (Value.slice B1 (m + 1) c1).ownBlock = some q) => (show w.heap.size ≤ q ∧ ¬ grow F _ w5 q from by
          rcases HO6.out with h | h
          · rw [h] at e; exact HO5.out q e
          · rw [h] at e
            injection e with e
            have hz := hz5.out
            refine ⟨by subst e; omega, fun hf => ?_⟩
            have := (H5.out.foot q hf).2
            subst e
            omega))
        go_wp2
        go_roundg (100 - (k + 1))
        case measure => omega
        case rel => exact ⟨k + 1, _, B1, m + 1, c1, by omega, by omega, Nat.le_refl _, rfl, by congr 1; push_cast; omega, by omega, by go_num, Lib.hid (by rw [HS2.out]; exact HL6.out.symm), H6, Lib.hid (by rw [HS2.out]; exact HR6.out), HO7⟩
    · have hdrop := Lib.hid (dropS_drop ft nd k hndb.out)
      rw [← HM.out] at hdrop
      have HNX := Lib.hid (show ((sentBy ft k).filter (stays nd)).length = m by have := HM.out; unfold leftIds at this; rw [List.length_map] at this; exact this.symm)
      have hle : ∀ k, (dropS ft k).l.length = k := fun k => sentBy_len ft k
      have HLE := Lib.hid (show (dropS ft k).l.length ≤ 1000000 by rw [hle]; omega)
      clear hle
      have g0 : (0 : Int) ≤ (k : Int) := by omega
      have g00 : ¬ ((k : Int) < (len0 : Int)) ∨ (k : Int) < (len0 : Int) ∧ ¬ ((k : Int) < 100) := by omega
      clear hlt
      rcases g00 with g1 | ⟨g1, g2⟩
      all_goals
        go_wp2_with (fail)
        refine (HL.out.drop hdrop.out HLE.out).mono ?_
        rintro e w5 ⟨rfl, h5, k5⟩
        have H5 := Lib.hid h5
        have HR5 := Lib.hid (HR.out.kept k5 (fun q e => (HO.out q e).2))
        clear h5 k5
        have hkm : (k : Int) - (m : Int) ≤ 100 := by omega
        go_wp2_with (fail)
        refine (H5.out.lone.letters m HNX.out (by show ((sentBy ft k).filter (stays nd)).length ≤ 1000000; rw [HNX.out]; omega)).mono ?_
        rintro e w6 ⟨A6, c6, rfl, hr6, hn6, hb6, h6⟩
        have HR6 := Lib.hid hr6
        have HX6 := Lib.hid (HR5.out.kept (Kept.of_below hb6 fun _ => False) (fun _ _ h => h))
        have HB6 := Lib.hid h6.back
        clear hr6 hn6 hb6 h6
        go_wp2
        go_loopg [102] m (fun gg s102 wr => ∃ (j : Nat), j ≤ m ∧ m - j ≤ gg ∧ s102 = .int .i64 j ∧ Hid (Below w6.heap.size w6 wr))
        case atStart => exact ⟨0, Nat.zero_le _, by omega, rfl, Lib.hid (Below.refl _ _)⟩
        case round =>
          obtain ⟨j, hj, hgj, rfl, HBj⟩ := hrel
          by_cases hjm : j < m
          · have hjl : j < ((sentBy ft k).filter (stays nd)).length := by rw [HNX.out]; exact hjm
            have hjl2 : j < (leftIds ft nd k).length := by rw [← HM.out]; exact hjm
            obtain ⟨b6, d6, hv6, hlt6, _⟩ := HR6.out.form (by show 0 < ((sentBy ft k).filter (stays nd)).length; omega)
            obtain ⟨b7, d7, hv7, hlt7, _⟩ := HX6.out.form (by omega)
            injection hv6 with ha6 _ hc6
            injection hv7 with ha7 _ hc7
            subst ha6 hc6 ha7 hc7
            have r6 := HR6.out.kept (S := fun _ => False) (Kept.of_below HBj.out _) (fun _ _ h => h)
            have r7 := HX6.out.kept (S := fun _ => False) (Kept.of_below HBj.out _) (fun _ _ h => h)
            have c0 := r6.cell (fun _ => rfl) j 0 hjl (by omega)
            have c1 := r6.cell (fun _ => rfl) j 1 hjl (by omega)
            have c2 := r6.cell (fun _ => rfl) j 2 hjl (by omega)
            have c3 := r6.cell (fun _ => rfl) j 3 hjl (by omega)
            have d0 := r7.cell (fun _ => rfl) j 0 hjl2 (by omega)
            have he := Lib.hid (show (leftIds ft nd k)[j] = ((sentBy ft k).filter (stays nd))[j].id from leftIds_get ft nd k j hjl2 hjl)
            rw [he.out] at d0
            generalize ((sentBy ft k).filter (stays nd))[j] = x at c0 c1 c2 c3 d0
            simp only [Letter.cells, icells, List.getElem?_cons_zero, List.getElem?_cons_succ, Nat.add_zero, Nat.mul_one] at c0 c1 c2 c3 d0
            have j1 : (j : Int) < (m : Int) := by omega
            have j0 : (0 : Int) ≤ (j : Int) := by omega
            have hb7 : b7 < wr.heap.size := lt_of_cell d0
            clear r6 r7 he
            go_wp2_with (fail)
            go_quiet (fail)
            go_wp2
            go_roundg (m - (j + 1))
            case measure => omega
            case rel => exact ⟨j + 1, by omega, Nat.le_refl _, by go_num, Lib.hid (pw_drewN (HBj.out.alloc HBj.out.size _) _)⟩
          · obtain rfl : j = m := by omega
            have j1 : ¬ ((j : Int) < (j : Int)) := by omega
            go_wp2
            go_ret
            exact ⟨rfl, HB6.out.trans (HBj.out.mono (by have := HB6.out.size; omega))⟩
end Go.Proofs.Ytaaeiljeanfinaa
