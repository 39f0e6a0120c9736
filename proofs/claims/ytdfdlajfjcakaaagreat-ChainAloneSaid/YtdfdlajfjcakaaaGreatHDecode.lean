-- written by a program of ours (wip/printx: the kit's print, changed in a few places)
import Derived.Test.YtdfdlajfjcakaaaGreatPAllx0
import Derived.Test.YtdfdlajfjcakaaaGreatPAllx1069
import Derived.Test.YtdfdlajfjcakaaaGreatHCheckAll
import Derived.Test.YtdfdlajfjcakaaaGreatHOpen
import Derived.Test.YtdfdlajfjcakaaaGreatHReader
import Derived.Test.YtdfdlajfjcakaaaGreatHWriter
namespace Go.Proofs.YtdfdlajfjcakaaaGreat.PAll
open Go.RowKit Go.Proofs.YtdfdlajfjcakaaaGreat.Extra Go.Proofs.YtdfdlajfjcakaaaGreatW.PrintWords Go.Proofs.YtdfdlajfjcakaaaGreatW.PrintLast Go.Proofs.YtdfdlajfjcakaaaGreatW.PrintMore
attribute [local go_sem] max2_int min2_int max_two min_two max_three min_three max_four min_four   -- for this text's walks alone
set_option linter.unusedVariables false
set_option linter.unusedSimpArgs false

/-- An operation that is read. -/
def rop (s : List S136 × Bool) : S85 × (List S136 × Bool) :=
  (⟨(rnum s).1, (rtxt (rnum s).2).1, (rtxt (rtxt (rnum s).2).2).1, (rnum (rtxt (rtxt (rnum s).2).2).2).1, (rnum (rnum (rtxt (rtxt (rnum s).2).2).2).2).1, (rnum (rnum (rnum (rtxt (rtxt (rnum s).2).2).2).2).2).1⟩, (rnum (rnum (rnum (rtxt (rtxt (rnum s).2).2).2).2).2).2)
/-- So many of them, as long as there are. -/
def op_Decode.l0 : Nat → Int → Int → List S136 × Bool → List S85 → Option (List S85 × (List S136 × Bool))
  | 0, _, _, _, _ => none
  | k + 1, n, i, s, acc => if i < n then (if s.2 = true then (if acc.length < 2199023255552 then op_Decode.l0 k n (i + 1) (rop s).2 (acc ++ [(rop s).1]) else none) else some (acc, s)) else some (acc, s)
def op_Decode.f (k : Nat) (a0 : ByteArray) : Option (Int × Int × List (S85) × Int) :=
  (code_Decode.f k a0).bind fun d =>
    if 262144 < a0.size then some (0, 0, [], 2)
    else if ¬ (d.2.1 = 0 ∧ d.2.2 = 0) then some (0, 0, [], 80)
    else (op_Decode.l0 k (rnum (rnum (rnum (d.1, true)).2).2).1 0 (rnum (rnum (rnum (d.1, true)).2).2).2 []).bind fun r =>
      if rwhole r.2 = true then (op_CheckAll.f k (rnum (d.1, true)).1 (rnum (rnum (d.1, true)).2).1 r.1).bind fun e => if e = 0 then some ((rnum (d.1, true)).1, (rnum (rnum (d.1, true)).2).1, r.1, 0) else some (0, 0, [], 80)
      else some (0, 0, [], 80)
theorem op_Decode.mono_l : ∀ k n i s acc, LeO (op_Decode.l0 k n i s acc) (op_Decode.l0 (k + 1) n i s acc)
  | 0, _, _, _, _ => fun r h => by simp [op_Decode.l0] at h
  | k + 1, n, i, s, acc => by
    unfold op_Decode.l0
    exact LeO.ite (LeO.ite (LeO.ite (op_Decode.mono_l k _ _ _ _) (LeO.refl _)) (LeO.refl _)) (LeO.refl _)
theorem op_Decode.mono : ∀ a0 k, LeO (op_Decode.f k a0) (op_Decode.f (k + 1) a0) := by
  intro a0 k
  unfold op_Decode.f
  refine LeO.bind (code_Decode.mono _ _) (fun d => LeO.ite (LeO.refl _) (LeO.ite (LeO.refl _) (LeO.bind (op_Decode.mono_l _ _ _ _ _) (fun r => LeO.ite (LeO.bind (op_CheckAll.mono _ _ _ _) (fun e => LeO.refl _)) (LeO.refl _)))))
theorem rnum_range (s : List S136 × Bool) : 0 ≤ (rnum s).1 ∧ (rnum s).1 ≤ 1099511627776 := by
  obtain ⟨l, ok⟩ := s
  cases l with
  | nil => exact ⟨Int.le_refl _, by show (0 : Int) ≤ _; omega⟩
  | cons x l =>
    show 0 ≤ (rdX false (x :: l)).f1 ∧ (rdX false (x :: l)).f1 ≤ 1099511627776
    have e : rdX false (x :: l) = if fldOk false x = true then x else ⟨false, 0, ⟨#[]⟩⟩ := rfl
    rw [e]
    by_cases h : fldOk false x = true
    · rw [if_pos h]
      unfold fldOk at h
      rw [Bool.and_eq_true] at h
      exact of_decide_eq_true h.2
    · rw [if_neg h]
      exact ⟨Int.le_refl _, by show (0 : Int) ≤ _; omega⟩
theorem rd_blk {w0 w : World} {g : Nat} {l : List S136} {ok : Bool} (h : Rd w0 w g l ok) : ∃ cells, w.heap[g]? = some (.cells cells 166 (0, 0)) := by
  obtain ⟨A, c, h1, _⟩ := h
  exact ⟨_, h1⟩
theorem own_keep {W w1 : World} {b g : Nat} {v : Value} {xs : List S85} (h : Kd.R k85 85 W b (fun _ => True) v xs) (hg : ∃ cells, W.heap[g]? = some (.cells cells 166 (0, 0))) (hk : KeepBut W w1 g none) : Kd.R k85 85 w1 b (fun _ => True) v xs := by
  obtain ⟨cells, hg⟩ := hg
  refine Kd.R_mono (Kd.R_keep (Kd.R_types h hg ?_) hk (fun _ h => h.2)) (fun _ _ => trivial)
  intro q hq
  simp [k85, Kd.iso, Kd.pair, Kd.int, Kd.string, Kd.scalar] at hq
  subst hq
  decide
theorem rd_grown {w0 W w1 : World} {g b : Nat} {l : List S136} {ok : Bool} {v : Value} {xs : List S85} (h : Rd w0 W g l ok) (ho : Kd.R k85 85 W b (fun _ => True) v xs) (hg : W.grownBy w1 v.ownBlock) : Rd w0 w1 g l ok := by
  obtain ⟨A, c, h1, h2⟩ := h
  exact ⟨A, c, blk_grown h1 hg (Kd.R_ne ho h1 (by decide)), h2⟩
theorem op_CheckAll.zero {k : Nat} {a b : Int} {l : List S85} {e : Int} (h : op_CheckAll.f k a b l = some e) : e = 0 ∨ e = 80 := by
  unfold op_CheckAll.f at h
  split at h
  · obtain ⟨t, _, h⟩ := Option.bind_eq_some_iff.1 h
    injection h with h
    subst h
    cases t <;> simp
  · injection h with h
    exact .inr h.symm
theorem own_st3 {W : World} {b g : Nat} {v u0 u1 u2 : Value} {xs : List S85} (h : Kd.R k85 85 W b (fun _ => True) v xs) (hg : W.heap[g]? = some (.cells #[u0, u1, u2] 39 (0, 0))) (v0 v1 v2 : Value) :
    Kd.R k85 85 (((W.setCell ⟨g, 0, none⟩ v0).setCell ⟨g, 1, none⟩ v1).setCell ⟨g, 2, none⟩ v2) b (fun _ => True) v xs := by
  have ht : ∀ q, q ∈ 85 :: k85.E → q ≠ 39 := by
    intro q hq
    simp [k85, Kd.iso, Kd.pair, Kd.int, Kd.string, Kd.scalar] at hq
    subst hq
    decide
  exact Kd.R_set (Kd.R_set (Kd.R_set h hg ht 0 v0) (blk_set hg 0 v0) ht 1 v1) (blk_set (blk_set hg 0 v0) 1 v1) ht 2 v2
set_option maxHeartbeats 16000000 in
set_option maxRecDepth 100000 in
theorem op_Decode.calls (k : Nat) (a0 : ByteArray) (r1 : Int) (r2 : Int) (r3 : List (S85)) (r4 : Int) (w : World) (h : op_Decode.f k a0 = some (r1, r2, r3, r4)) :
    Calls Tryz.prog 70 #[.string a0] w fun e w' => ∃ v2_ : Value, e = .returned (.tuple #[.agg #[.int .i64 r1, .int .i64 r2, v2_], .int .i64 r4]) ∧ Kd.R k85 85 w' w.heap.size (fun _ => True) v2_ r3 ∧ Below w.heap.size w w' := by
  have hu31 := Tryz.underlying39
  have hu27 := Tryz.underlying85
  have hu90 := Tryz.underlying166
  unfold op_Decode.f at h
  obtain ⟨⟨l, fa, fc⟩, h1, h2⟩ := Option.bind_eq_some_iff.1 h
  dsimp only at h2
  clear h
  have HA := Aside0.mk ((Below.refl w.heap.size w).alloc (Nat.le_refl _) (.cells #[.int .i64 0, .int .i64 0, .slice none 0 0] 39))
  by_cases hbad : 262144 < a0.size ∨ ¬ (fa = 0 ∧ fc = 0)
  · obtain ⟨c, hc, hr⟩ : ∃ c : Int, ((262144 < a0.size ∧ c = 2) ∨ (a0.size ≤ 262144 ∧ ¬ (fa = 0 ∧ fc = 0) ∧ c = 80)) ∧ ((0 : Int), (0 : Int), ([] : List S85), c) = (r1, r2, r3, r4) := by
      by_cases h3 : 262144 < a0.size
      · rw [if_pos h3] at h2
        exact ⟨2, .inl ⟨h3, rfl⟩, Option.some.inj h2⟩
      · rw [if_neg h3, if_pos (hbad.resolve_left h3)] at h2
        exact ⟨80, .inr ⟨by omega, hbad.resolve_left h3, rfl⟩, Option.some.inj h2⟩
    injection hr with e1 hr
    injection hr with e2 hr
    injection hr with e3 e4
    subst e1 e2 e3 e4
    have HP := Aside0.mk (fun (W : World) => op_open.bad k a0 l fa fc W h1 c hc)
    have hcn : (c != 0) = true := by rcases hc with ⟨_, rfl⟩ | ⟨_, _, rfl⟩ <;> rfl
    clear h1 h2 hbad hc
    go_enter Tryz.func70, Tryz.ntmps70
    go_wp2_with (fail)
    refine (HP.out _).mono ?_
    rintro e w1 ⟨rfl, hB⟩
    have hblk : w1.heap[w.heap.size]? = some (.cells #[.int .i64 0, .int .i64 0, .slice none 0 0] 39 (0, 0)) := (hB.block _ (by simp)).trans (alloc_at rfl)
    have HB := Aside0.mk (Below.trans HA.out (hB.mono (by simp)))
    have c0 : w1.cell? ⟨w.heap.size, 0, none⟩ = some (.int .i64 0) := blk_cell hblk 0
    have c1 : w1.cell? ⟨w.heap.size, 1, none⟩ = some (.int .i64 0) := blk_cell hblk 1
    have c2 : w1.cell? ⟨w.heap.size, 2, none⟩ = some (.slice none 0 0) := blk_cell hblk 2
    have f0 := blk_frozen hblk 0
    have f1 := blk_frozen hblk 1
    have f2 := blk_frozen hblk 2
    have HBK := Aside0.mk hblk
    clear hB hblk
    go_wp2_with (fail)
    have z := st3_blk HBK.out (.int .i64 0) (.int .i64 0) (.slice none 0 0)
    have zB := ((HB.out.setCell (p := ⟨w.heap.size, 0, none⟩) (Nat.le_refl _) (.int .i64 0)).setCell (p := ⟨w.heap.size, 1, none⟩) (Nat.le_refl _) (.int .i64 0)).setCell (p := ⟨w.heap.size, 2, none⟩) (Nat.le_refl _) (.slice none 0 0)
    generalize ((w1.setCell ⟨w.heap.size, 0, none⟩ (.int .i64 0)).setCell ⟨w.heap.size, 1, none⟩ (.int .i64 0)).setCell ⟨w.heap.size, 2, none⟩ (.slice none 0 0) = wz at *
    have d0 : wz.cell? ⟨w.heap.size, 0, none⟩ = some (.int .i64 0) := blk_cell z 0
    have d1 : wz.cell? ⟨w.heap.size, 1, none⟩ = some (.int .i64 0) := blk_cell z 1
    have d2 : wz.cell? ⟨w.heap.size, 2, none⟩ = some (.slice none 0 0) := blk_cell z 2
    refine bodyPost_ret (v := .tuple #[.agg #[.int .i64 0, .int .i64 0, .slice none 0 0], .int .i64 c]) (by simp [results, Tryz.results70, go_sem, d0, d1, d2]) rfl ⟨_, rfl, Kd.R_nil _ _ _ _ _, zB⟩
  · have hsz : ¬ 262144 < a0.size := fun h => hbad (.inl h)
    have hz : fa = 0 ∧ fc = 0 := Decidable.not_not.1 (fun h => hbad (.inr h))
    obtain ⟨rfl, rfl⟩ := hz
    rw [if_neg hsz, if_neg (by simp)] at h2
    obtain ⟨⟨ops, s4⟩, h3, h4⟩ := Option.bind_eq_some_iff.1 h2
    dsimp only at h4
    have HP := Aside0.mk (fun (W : World) => op_open.good k a0 l W h1 (by omega))
    have HL := Aside0.mk h3
    have HE := Aside0.mk h4
    clear h1 h2 h3 h4 hbad hsz
    go_enter Tryz.func70, Tryz.ntmps70
    go_wp2_with (fail)
    refine (HP.out _).mono ?_
    rintro e w1 ⟨g, w0, rfl, hR, hB0, hBw⟩
    have HZ : Aside0 (w0.heap[w.heap.size]? = some (.cells #[.int .i64 0, .int .i64 0, .slice none 0 0] 39 (0, 0))) := Aside0.mk ((hBw.block _ (by simp)).trans (alloc_at rfl))
    have HW := Aside0.mk (Below.trans HA.out (hBw.mono (by simp)))
    have hw0 : w.heap.size < w0.heap.size := blk_lt HZ.out
    have hg0 : w0.heap.size ≤ g := hR.ge
    have HR := Aside0.mk hR
    have HB := Aside0.mk hB0
    clear hR hB0 hBw HP HA
    go_wp2_with (fail)
    refine (op_reader_num.calls g (l, true) w0 w1 HR.out HB.out).mono ?_
    rintro e w2 ⟨rfl, hR, hK, hB⟩
    have HR2 := Aside0.mk hR
    have HB2 := Aside0.mk hB
    clear hR hK hB HR HB
    go_wp2_with (fail)
    refine (op_reader_num.calls g (rnum (l, true)).2 w0 w2 HR2.out HB2.out).mono ?_
    rintro e w3 ⟨rfl, hR, hK, hB⟩
    have HR3 := Aside0.mk hR
    have HB3 := Aside0.mk hB
    clear hR hK hB HR2 HB2
    obtain ⟨cl, ecl⟩ : ∃ c, (rnum (l, true)).1 = c := ⟨_, rfl⟩
    obtain ⟨sq, esq⟩ : ∃ c, (rnum (rnum (l, true)).2).1 = c := ⟨_, rfl⟩
    obtain ⟨s2, es2⟩ : ∃ c, (rnum (rnum (l, true)).2).2 = c := ⟨_, rfl⟩
    rw [ecl] at HE ⊢
    rw [esq] at HE ⊢
    rw [es2] at HR3 HL
    clear ecl esq es2
    go_wp2_with (fail)
    have hg3 : g < w3.heap.size := HR3.out.lt
    have hxg : w3.heap.size ≠ g := by omega
    have BX := Aside0.mk (alloc_at (w := w3) (o := .cells #[.int .i64 cl, .int .i64 sq, .slice none 0 0] 39) rfl)
    refine (op_reader_num.calls g s2 w0 _ (HR3.out.keep (Below.heap_alloc w3 _ g hg3)) (HB3.out.alloc HB3.out.size _)).mono ?_
    rintro e w4 ⟨rfl, hR, hK, hB⟩
    have HR4 := Aside0.mk hR
    have HB4 := Aside0.mk hB
    have BX4 := Aside0.mk (KeepBut.blk hK BX.out hxg (by simp))
    clear hR hK hB HR3 HB3 BX
    have hn := rnum_range s2
    obtain ⟨n, en⟩ : ∃ c, (rnum s2).1 = c := ⟨_, rfl⟩
    obtain ⟨s3, es3⟩ : ∃ c, (rnum s2).2 = c := ⟨_, rfl⟩
    rw [en] at HL hn ⊢
    rw [es3] at HR4 HL
    clear en es3
    obtain ⟨hn0, hn1⟩ := hn
    have hbx : w0.heap.size ≤ w3.heap.size := by omega
    obtain ⟨bx, ebx⟩ : ∃ b, w3.heap.size = b := ⟨_, rfl⟩
    rw [ebx] at BX4 hxg hbx ⊢
    clear ebx hg3
    go_wp2_with (fail)
    go_loopw [23] (fun v wr => ∃ (i : Int) (k' : Nat) (s : List S136 × Bool) (acc : List S85) (vo : Value), v = .int .i64 i ∧ 0 ≤ i ∧ Aside0 (op_Decode.l0 k' n i s acc = some (ops, s4)) ∧ Aside0 (Rd w0 wr g s.1 s.2) ∧ Aside0 (Below w0.heap.size w0 wr) ∧ Aside0 (wr.heap[bx]? = some (.cells #[.int .i64 cl, .int .i64 sq, vo] 39 (0, 0))) ∧ Aside0 (Kd.R k85 85 wr w0.heap.size (fun _ => True) vo acc)) (fun v _ => (n - intOf v).toNat)
    case atStart => exact ⟨0, k, s3, [], .slice none 0 0, rfl, by omega, HL, HR4, HB4, BX4, Aside0.mk (Kd.R_nil _ _ _ _ _)⟩
    case round =>
      obtain ⟨i, k', s, acc, vo, rfl, hi, HI, HR0, HB0, BX0, OW0⟩ := hrel
      clear HL HR4 HB4 BX4
      obtain ⟨Ao, co, rfl⟩ := Kd.R_slice OW0.out
      cases k' with
      | zero => exact absurd HI.out (by simp [op_Decode.l0])
      | succ k' =>
        have hI := HI.out
        unfold op_Decode.l0 at hI
        by_cases hlt : i < n
        · rw [if_pos hlt] at hI
          obtain ⟨A9, c9, hgb, hg9, hc9, hC9⟩ := HR0.out
          have cg : wr.cell? ⟨g, 1, none⟩ = some (.bool s.2) := blk_cell hgb 1
          clear hgb hg9 hc9 hC9
          cases hok : s.2
          · rw [hok] at cg hI
            rw [if_neg (by decide)] at hI
            have HQ := Aside0.mk (Option.some.inj hI)
            clear hI hok
            injection HQ.out with eo es
            have HO := Aside0.mk eo
            have HS := Aside0.mk es
            have hbz : wr.heap[w.heap.size]? = some (.cells #[.int .i64 0, .int .i64 0, .slice none 0 0] 39 (0, 0)) := (HB0.out.block _ hw0).trans HZ.out
            have f0 := blk_frozen hbz 0
            have f1 := blk_frozen hbz 1
            have f2 := blk_frozen hbz 2
            have e0 : wr.cell? ⟨w.heap.size, 0, none⟩ = some (.int .i64 0) := blk_cell hbz 0
            have e1 : wr.cell? ⟨w.heap.size, 1, none⟩ = some (.int .i64 0) := blk_cell hbz 1
            have e2 : wr.cell? ⟨w.heap.size, 2, none⟩ = some (.slice none 0 0) := blk_cell hbz 2
            have x0 : wr.cell? ⟨bx, 0, none⟩ = some (.int .i64 cl) := blk_cell BX0.out 0
            have x1 : wr.cell? ⟨bx, 1, none⟩ = some (.int .i64 sq) := blk_cell BX0.out 1
            have x2 : wr.cell? ⟨bx, 2, none⟩ = some (.slice Ao acc.length co) := blk_cell BX0.out 2
            have HBZ := Aside0.mk hbz
            have HBW := Aside0.mk (Below.trans HW.out (HB0.out.mono HW.out.size))
            clear eo es hbz
            go_wp2_with (fail)
            refine (op_reader_whole.calls2 g s w0 wr HR0.out).mono ?_
            rintro e w' ⟨rfl, rfl⟩
            have hE := HE.out
            rw [← HO.out, ← HS.out] at hE
            cases hwh : rwhole s
            · rw [hwh, if_neg (by decide)] at hE
              injection hE with hE
              injection hE with h1 hE
              injection hE with h2 hE
              injection hE with h3 h4
              subst h1 h2 h3 h4
              clear hwh
              go_wp2_with (fail)
              have z := st3_blk HBZ.out (.int .i64 0) (.int .i64 0) (.slice none 0 0)
              have zB := ((HBW.out.setCell (p := ⟨w.heap.size, 0, none⟩) (Nat.le_refl _) (.int .i64 0)).setCell (p := ⟨w.heap.size, 1, none⟩) (Nat.le_refl _) (.int .i64 0)).setCell (p := ⟨w.heap.size, 2, none⟩) (Nat.le_refl _) (.slice none 0 0)
              generalize ((wr.setCell ⟨w.heap.size, 0, none⟩ (.int .i64 0)).setCell ⟨w.heap.size, 1, none⟩ (.int .i64 0)).setCell ⟨w.heap.size, 2, none⟩ (.slice none 0 0) = wz at *
              have d0 : wz.cell? ⟨w.heap.size, 0, none⟩ = some (.int .i64 0) := blk_cell z 0
              have d1 : wz.cell? ⟨w.heap.size, 1, none⟩ = some (.int .i64 0) := blk_cell z 1
              have d2 : wz.cell? ⟨w.heap.size, 2, none⟩ = some (.slice none 0 0) := blk_cell z 2
              refine bodyPost_ret (v := .tuple #[.agg #[.int .i64 0, .int .i64 0, .slice none 0 0], .int .i64 80]) (by simp [results, Tryz.results70, go_sem, d0, d1, d2]) rfl ⟨_, rfl, Kd.R_nil _ _ _ _ _, zB⟩
            · rw [hwh, if_pos rfl] at hE
              obtain ⟨ec, hc1, hc2⟩ := Option.bind_eq_some_iff.1 hE
              have HC1 := Aside0.mk hc1
              have HC2 := Aside0.mk hc2
              have hRd := Kd.R_reads' OW0.out
              have hle := hRd.2.1
              have HAC := Aside0.mk hRd.2.2
              clear hwh hE hc1 hc2 hRd
              go_wp2_with (fail)
              refine (op_CheckAll.calls k cl sq Ao co acc ec wr HAC.out hle HC1.out).mono ?_
              rintro e w5 ⟨rfl, hB5⟩
              have hbz := (hB5.block _ (blk_lt HBZ.out)).trans HBZ.out
              have hbx5 := (hB5.block _ (blk_lt BX0.out)).trans BX0.out
              have HB5 := Aside0.mk (Below.trans HBW.out (hB5.mono HBW.out.size))
              have OW5 := Aside0.mk (Kd.R_below OW0.out hB5)
              clear hB5 f0 f1 f2 e0 e1 e2 x0 x1 x2
              have f0 := blk_frozen hbz 0
              have f1 := blk_frozen hbz 1
              have f2 := blk_frozen hbz 2
              have e0 : w5.cell? ⟨w.heap.size, 0, none⟩ = some (.int .i64 0) := blk_cell hbz 0
              have e1 : w5.cell? ⟨w.heap.size, 1, none⟩ = some (.int .i64 0) := blk_cell hbz 1
              have e2 : w5.cell? ⟨w.heap.size, 2, none⟩ = some (.slice none 0 0) := blk_cell hbz 2
              have x0 : w5.cell? ⟨bx, 0, none⟩ = some (.int .i64 cl) := blk_cell hbx5 0
              have x1 : w5.cell? ⟨bx, 1, none⟩ = some (.int .i64 sq) := blk_cell hbx5 1
              have x2 : w5.cell? ⟨bx, 2, none⟩ = some (.slice Ao acc.length co) := blk_cell hbx5 2
              have HBZ5 := Aside0.mk hbz
              clear hbz hbx5
              have hc2 := HC2.out
              rcases op_CheckAll.zero HC1.out with rfl | rfl
              · rw [if_pos rfl] at hc2
                injection hc2 with hE
                injection hE with h1 hE
                injection hE with h2 hE
                injection hE with h3 h4
                subst h1 h2 h3 h4
                go_wp2_with (fail)
                have z := st3_blk HBZ5.out (.int .i64 cl) (.int .i64 sq) (.slice Ao acc.length co)
                have zB := ((HB5.out.setCell (p := ⟨w.heap.size, 0, none⟩) (Nat.le_refl _) (.int .i64 cl)).setCell (p := ⟨w.heap.size, 1, none⟩) (Nat.le_refl _) (.int .i64 sq)).setCell (p := ⟨w.heap.size, 2, none⟩) (Nat.le_refl _) (.slice Ao acc.length co)
                have zR := own_st3 OW5.out HBZ5.out (.int .i64 cl) (.int .i64 sq) (.slice Ao acc.length co)
                generalize ((w5.setCell ⟨w.heap.size, 0, none⟩ (.int .i64 cl)).setCell ⟨w.heap.size, 1, none⟩ (.int .i64 sq)).setCell ⟨w.heap.size, 2, none⟩ (.slice Ao acc.length co) = wz at *
                have d0 : wz.cell? ⟨w.heap.size, 0, none⟩ = some (.int .i64 cl) := blk_cell z 0
                have d1 : wz.cell? ⟨w.heap.size, 1, none⟩ = some (.int .i64 sq) := blk_cell z 1
                have d2 : wz.cell? ⟨w.heap.size, 2, none⟩ = some (.slice Ao acc.length co) := blk_cell z 2
                refine bodyPost_ret (v := .tuple #[.agg #[.int .i64 cl, .int .i64 sq, .slice Ao acc.length co], .int .i64 0]) (by simp [results, Tryz.results70, go_sem, d0, d1, d2]) rfl ⟨_, rfl, Kd.R_lower zR HW.out.size, zB⟩
              · rw [if_neg (by decide)] at hc2
                injection hc2 with hE
                injection hE with h1 hE
                injection hE with h2 hE
                injection hE with h3 h4
                subst h1 h2 h3 h4
                go_wp2_with (fail)
                have z := st3_blk HBZ5.out (.int .i64 0) (.int .i64 0) (.slice none 0 0)
                have zB := ((HB5.out.setCell (p := ⟨w.heap.size, 0, none⟩) (Nat.le_refl _) (.int .i64 0)).setCell (p := ⟨w.heap.size, 1, none⟩) (Nat.le_refl _) (.int .i64 0)).setCell (p := ⟨w.heap.size, 2, none⟩) (Nat.le_refl _) (.slice none 0 0)
                generalize ((w5.setCell ⟨w.heap.size, 0, none⟩ (.int .i64 0)).setCell ⟨w.heap.size, 1, none⟩ (.int .i64 0)).setCell ⟨w.heap.size, 2, none⟩ (.slice none 0 0) = wz at *
                have d0 : wz.cell? ⟨w.heap.size, 0, none⟩ = some (.int .i64 0) := blk_cell z 0
                have d1 : wz.cell? ⟨w.heap.size, 1, none⟩ = some (.int .i64 0) := blk_cell z 1
                have d2 : wz.cell? ⟨w.heap.size, 2, none⟩ = some (.slice none 0 0) := blk_cell z 2
                refine bodyPost_ret (v := .tuple #[.agg #[.int .i64 0, .int .i64 0, .slice none 0 0], .int .i64 80]) (by simp [results, Tryz.results70, go_sem, d0, d1, d2]) rfl ⟨_, rfl, Kd.R_nil _ _ _ _ _, zB⟩
          · rw [hok] at cg hI
            rw [if_pos rfl] at hI
            have hlm : acc.length < 2199023255552 := by
              by_cases hq : acc.length < 2199023255552
              · exact hq
              · rw [if_neg hq] at hI; cases hI
            rw [if_pos hlm] at hI
            have HN := Aside0.mk hI
            have LM := Aside0.mk hlm
            clear hI hok hlm
            go_wp2_with (fail)
            have n0 := Aside0.mk (HR0.out.keep (w1 := wr.drew) rfl)
            have n1 := Aside0.mk (below_drew1 HB0.out)
            have n2 := Aside0.mk (blk_drew BX0.out)
            have n3 := Aside0.mk (Kd.R_drew OW0.out)
            clear HR0 HB0 BX0 OW0 cg HI
            have HR0 := n0
            have HB0 := n1
            have BX0 := n2
            have OW0 := n3
            clear n0 n1 n2 n3
            have sX0 := blk_cell BX0.out 2
            refine start_ (n := 19) (S := fun w' => w'.cell? ⟨bx, 2, none⟩ = some (.slice Ao acc.length co)) (ds := [18]) #[false, false, false, false, false, false, false, false, false, false, false, false, false, false, false, false, false, false, false] (by kernel_rfl) rfl rfl (sX0) (fun hHeld => ?_)
            generalize wr.drew = wB at *
            refine pure_ (i := 0) (N := some 30) (v := ?_) (a' := ?_) #[true, false, false, false, false, false, false, false, false, false, false, false, false, false, false, false, false, false, false] rfl rfl (by kernel_rfl) (fun _ _ _ h => h) (Or.inl ⟨by rfl, ?_⟩) ?_ ?_
            rotate_left
            · intro w'
              go_simp
              with_reducible rfl
            rotate_left
            · simp only [Act.put, List.setIfInBounds_toArray, List.set_cons_zero, List.set_cons_succ, i64_w, i32_w]
              rfl
            refine pure_ (i := 2) (N := some 32) (v := ?_) (a' := ?_) #[true, false, true, false, false, false, false, false, false, false, false, false, false, false, false, false, false, false, false] rfl rfl (by kernel_rfl) (fun _ _ _ h => h) (Or.inl ⟨by rfl, ?_⟩) ?_ ?_
            rotate_left
            · intro w'
              go_simp
              with_reducible rfl
            rotate_left
            · simp only [Act.put, List.setIfInBounds_toArray, List.set_cons_zero, List.set_cons_succ, i64_w, i32_w]
              rfl
            refine pure_ (i := 4) (N := some 34) (v := ?_) (a' := ?_) #[true, false, true, false, true, false, false, false, false, false, false, false, false, false, false, false, false, false, false] rfl rfl (by kernel_rfl) (fun _ _ _ h => h) (Or.inl ⟨by rfl, ?_⟩) ?_ ?_
            rotate_left
            · intro w'
              go_simp
              with_reducible rfl
            rotate_left
            · simp only [Act.put, List.setIfInBounds_toArray, List.set_cons_zero, List.set_cons_succ, i64_w, i32_w]
              rfl
            refine pure_ (i := 6) (N := some 36) (v := ?_) (a' := ?_) #[true, false, true, false, true, false, true, false, false, false, false, false, false, false, false, false, false, false, false] rfl rfl (by kernel_rfl) (fun _ _ _ h => h) (Or.inl ⟨by rfl, ?_⟩) ?_ ?_
            rotate_left
            · intro w'
              go_simp
              with_reducible rfl
            rotate_left
            · simp only [Act.put, List.setIfInBounds_toArray, List.set_cons_zero, List.set_cons_succ, i64_w, i32_w]
              rfl
            refine pure_ (i := 8) (N := some 38) (v := ?_) (a' := ?_) #[true, false, true, false, true, false, true, false, true, false, false, false, false, false, false, false, false, false, false] rfl rfl (by kernel_rfl) (fun _ _ _ h => h) (Or.inl ⟨by rfl, ?_⟩) ?_ ?_
            rotate_left
            · intro w'
              go_simp
              with_reducible rfl
            rotate_left
            · simp only [Act.put, List.setIfInBounds_toArray, List.set_cons_zero, List.set_cons_succ, i64_w, i32_w]
              rfl
            refine pure_ (i := 10) (N := some 40) (v := ?_) (a' := ?_) #[true, false, true, false, true, false, true, false, true, false, true, false, false, false, false, false, false, false, false] rfl rfl (by kernel_rfl) (fun _ _ _ h => h) (Or.inl ⟨by rfl, ?_⟩) ?_ ?_
            rotate_left
            · intro w'
              go_simp
              with_reducible rfl
            rotate_left
            · simp only [Act.put, List.setIfInBounds_toArray, List.set_cons_zero, List.set_cons_succ, i64_w, i32_w]
              rfl
            refine pure_ (i := 12) (N := some 42) (v := ?_) (a' := ?_) #[true, false, true, false, true, false, true, false, true, false, true, false, true, false, false, false, false, false, false] rfl rfl (by kernel_rfl) (fun _ _ _ h => h) (Or.inl ⟨by rfl, ?_⟩) ?_ ?_
            rotate_left
            · intro w'
              go_simp
              with_reducible rfl
            rotate_left
            · simp only [Act.put, List.setIfInBounds_toArray, List.set_cons_zero, List.set_cons_succ, i64_w, i32_w]
              rfl
            refine take_ (i := 1) (N := some 31) (v := ?_) (a' := ?_) #[true, true, true, false, true, false, true, false, true, false, true, false, true, false, false, false, false, false, false] rfl rfl (by kernel_rfl) (fun _ _ _ h => h) (Or.inl ⟨by rfl, ?_⟩) hHeld ?_ ?_
            rotate_left
            · intro w' s0
              go_simp
              with_reducible rfl
            rotate_left
            · simp only [Act.put, List.setIfInBounds_toArray, List.set_cons_zero, List.set_cons_succ, i64_w, i32_w]
              rfl
            refine one_ (i := 3) (N := some 33) #[true, true, true, true, true, false, true, false, true, false, true, false, true, false, false, false, false, false, false] rfl rfl (by kernel_rfl) (by decide) (fun K hK => ?_)
            refine goes_ Tryz.func92 (by kernel_rfl) rfl #[.pointer (some ⟨g, 0, none⟩)] (by rfl) rfl rfl (by simp only [List.map_toArray, List.map_cons, List.map_nil]; rfl) ?_
            with_reducible refine (op_reader_num.calls g s w0 _ HR0.out HB0.out).mono ?_
            rintro e wq1 ⟨rfl, hR, hK, hB⟩
            refine ⟨_, rfl, ?_⟩
            have HR1 := Aside0.mk hR
            have HB1 := Aside0.mk hB
            have BX1 := Aside0.mk (KeepBut.blk hK BX0.out hxg (by simp))
            have OW1 := Aside0.mk (own_keep OW0.out (rd_blk HR0.out) hK)
            have sX1 := blk_cell BX1.out 2
            clear hR hK hB HR0 HB0 BX0 OW0
            refine hK.out _ _ (sX1) (fun hHeld => ?_)
            clear hK K
            refine norm_ (a' := ?_) ?_ ?_
            rotate_left
            · show Act.put _ (some 33) _ = _
              simp only [Act.put, List.setIfInBounds_toArray, List.set_cons_zero, List.set_cons_succ, i64_w, i32_w]
              rfl
            refine one_ (i := 5) (N := some 35) #[true, true, true, true, true, true, true, false, true, false, true, false, true, false, false, false, false, false, false] rfl rfl (by kernel_rfl) (by decide) (fun K hK => ?_)
            refine goes_ Tryz.func93 (by kernel_rfl) rfl #[.pointer (some ⟨g, 0, none⟩)] (by rfl) rfl rfl (by simp only [List.map_toArray, List.map_cons, List.map_nil]; rfl) ?_
            with_reducible refine (op_reader_text.calls g (rnum s).2 w0 _ HR1.out HB1.out).mono ?_
            rintro e wq2 ⟨rfl, hR, hK, hB⟩
            refine ⟨_, rfl, ?_⟩
            have HR2 := Aside0.mk hR
            have HB2 := Aside0.mk hB
            have BX2 := Aside0.mk (KeepBut.blk hK BX1.out hxg (by simp))
            have OW2 := Aside0.mk (own_keep OW1.out (rd_blk HR1.out) hK)
            have sX2 := blk_cell BX2.out 2
            clear hR hK hB HR1 HB1 BX1 OW1
            refine hK.out _ _ (sX2) (fun hHeld => ?_)
            clear hK K
            refine norm_ (a' := ?_) ?_ ?_
            rotate_left
            · show Act.put _ (some 35) _ = _
              simp only [Act.put, List.setIfInBounds_toArray, List.set_cons_zero, List.set_cons_succ, i64_w, i32_w]
              rfl
            refine one_ (i := 7) (N := some 37) #[true, true, true, true, true, true, true, true, true, false, true, false, true, false, false, false, false, false, false] rfl rfl (by kernel_rfl) (by decide) (fun K hK => ?_)
            refine goes_ Tryz.func93 (by kernel_rfl) rfl #[.pointer (some ⟨g, 0, none⟩)] (by rfl) rfl rfl (by simp only [List.map_toArray, List.map_cons, List.map_nil]; rfl) ?_
            with_reducible refine (op_reader_text.calls g (rtxt (rnum s).2).2 w0 _ HR2.out HB2.out).mono ?_
            rintro e wq3 ⟨rfl, hR, hK, hB⟩
            refine ⟨_, rfl, ?_⟩
            have HR3 := Aside0.mk hR
            have HB3 := Aside0.mk hB
            have BX3 := Aside0.mk (KeepBut.blk hK BX2.out hxg (by simp))
            have OW3 := Aside0.mk (own_keep OW2.out (rd_blk HR2.out) hK)
            have sX3 := blk_cell BX3.out 2
            clear hR hK hB HR2 HB2 BX2 OW2
            refine hK.out _ _ (sX3) (fun hHeld => ?_)
            clear hK K
            refine norm_ (a' := ?_) ?_ ?_
            rotate_left
            · show Act.put _ (some 37) _ = _
              simp only [Act.put, List.setIfInBounds_toArray, List.set_cons_zero, List.set_cons_succ, i64_w, i32_w]
              rfl
            refine one_ (i := 9) (N := some 39) #[true, true, true, true, true, true, true, true, true, true, true, false, true, false, false, false, false, false, false] rfl rfl (by kernel_rfl) (by decide) (fun K hK => ?_)
            refine goes_ Tryz.func92 (by kernel_rfl) rfl #[.pointer (some ⟨g, 0, none⟩)] (by rfl) rfl rfl (by simp only [List.map_toArray, List.map_cons, List.map_nil]; rfl) ?_
            with_reducible refine (op_reader_num.calls g (rtxt (rtxt (rnum s).2).2).2 w0 _ HR3.out HB3.out).mono ?_
            rintro e wq4 ⟨rfl, hR, hK, hB⟩
            refine ⟨_, rfl, ?_⟩
            have HR4 := Aside0.mk hR
            have HB4 := Aside0.mk hB
            have BX4 := Aside0.mk (KeepBut.blk hK BX3.out hxg (by simp))
            have OW4 := Aside0.mk (own_keep OW3.out (rd_blk HR3.out) hK)
            have sX4 := blk_cell BX4.out 2
            clear hR hK hB HR3 HB3 BX3 OW3
            refine hK.out _ _ (sX4) (fun hHeld => ?_)
            clear hK K
            refine norm_ (a' := ?_) ?_ ?_
            rotate_left
            · show Act.put _ (some 39) _ = _
              simp only [Act.put, List.setIfInBounds_toArray, List.set_cons_zero, List.set_cons_succ, i64_w, i32_w]
              rfl
            refine one_ (i := 11) (N := some 41) #[true, true, true, true, true, true, true, true, true, true, true, true, true, false, false, false, false, false, false] rfl rfl (by kernel_rfl) (by decide) (fun K hK => ?_)
            refine goes_ Tryz.func92 (by kernel_rfl) rfl #[.pointer (some ⟨g, 0, none⟩)] (by rfl) rfl rfl (by simp only [List.map_toArray, List.map_cons, List.map_nil]; rfl) ?_
            with_reducible refine (op_reader_num.calls g (rnum (rtxt (rtxt (rnum s).2).2).2).2 w0 _ HR4.out HB4.out).mono ?_
            rintro e wq5 ⟨rfl, hR, hK, hB⟩
            refine ⟨_, rfl, ?_⟩
            have HR5 := Aside0.mk hR
            have HB5 := Aside0.mk hB
            have BX5 := Aside0.mk (KeepBut.blk hK BX4.out hxg (by simp))
            have OW5 := Aside0.mk (own_keep OW4.out (rd_blk HR4.out) hK)
            have sX5 := blk_cell BX5.out 2
            clear hR hK hB HR4 HB4 BX4 OW4
            refine hK.out _ _ (sX5) (fun hHeld => ?_)
            clear hK K
            refine norm_ (a' := ?_) ?_ ?_
            rotate_left
            · show Act.put _ (some 41) _ = _
              simp only [Act.put, List.setIfInBounds_toArray, List.set_cons_zero, List.set_cons_succ, i64_w, i32_w]
              rfl
            refine one_ (i := 13) (N := some 43) #[true, true, true, true, true, true, true, true, true, true, true, true, true, true, false, false, false, false, false] rfl rfl (by kernel_rfl) (by decide) (fun K hK => ?_)
            refine goes_ Tryz.func92 (by kernel_rfl) rfl #[.pointer (some ⟨g, 0, none⟩)] (by rfl) rfl rfl (by simp only [List.map_toArray, List.map_cons, List.map_nil]; rfl) ?_
            with_reducible refine (op_reader_num.calls g (rnum (rnum (rtxt (rtxt (rnum s).2).2).2).2).2 w0 _ HR5.out HB5.out).mono ?_
            rintro e wq6 ⟨rfl, hR, hK, hB⟩
            refine ⟨_, rfl, ?_⟩
            have HR6 := Aside0.mk hR
            have HB6 := Aside0.mk hB
            have BX6 := Aside0.mk (KeepBut.blk hK BX5.out hxg (by simp))
            have OW6 := Aside0.mk (own_keep OW5.out (rd_blk HR5.out) hK)
            have sX6 := blk_cell BX6.out 2
            clear hR hK hB HR5 HB5 BX5 OW5
            refine hK.out _ _ (sX6) (fun hHeld => ?_)
            clear hK K
            refine norm_ (a' := ?_) ?_ ?_
            rotate_left
            · show Act.put _ (some 43) _ = _
              simp only [Act.put, List.setIfInBounds_toArray, List.set_cons_zero, List.set_cons_succ, i64_w, i32_w]
              rfl
            refine pure_ (i := 14) (N := some 44) (v := ?_) (a' := ?_) #[true, true, true, true, true, true, true, true, true, true, true, true, true, true, true, false, false, false, false] rfl rfl (by kernel_rfl) (fun _ _ _ h => h) (Or.inl ⟨by rfl, ?_⟩) ?_ ?_
            rotate_left
            · intro w'
              go_simp
              with_reducible rfl
            rotate_left
            · simp only [Act.put, List.setIfInBounds_toArray, List.set_cons_zero, List.set_cons_succ, i64_w, i32_w]
              rfl
            refine one_ (i := 15) (N := some 45) #[true, true, true, true, true, true, true, true, true, true, true, true, true, true, true, true, false, false, false] rfl rfl (by kernel_rfl) (by decide) (fun K hK => ?_)
            refine value_ (w1 := ?_) (v := ?_) (by rfl) rfl ?_ ?_
            rotate_left 2
            · go_simp
              constructor
              · rfl
              · rfl
            have BX7 := Aside0.mk (blk_alloc BX6.out (.cells #[.int .i64 (rop s).1.f0, .string (rop s).1.f1, .string (rop s).1.f2, .int .i64 (rop s).1.f3, .int .i64 (rop s).1.f4, .int .i64 (rop s).1.f5] 85))
            have sX7 := blk_cell BX7.out 2
            refine hK.out _ _ (sX7) (fun hHeld => ?_)
            clear hK K
            refine norm_ (a' := ?_) ?_ ?_
            rotate_left
            · show Act.put _ (some 45) _ = _
              simp only [Act.put, List.setIfInBounds_toArray, List.set_cons_zero, List.set_cons_succ, i64_w, i32_w]
              rfl
            refine one_ (i := 16) (N := some 46) #[true, true, true, true, true, true, true, true, true, true, true, true, true, true, true, true, true, false, false] rfl rfl (by kernel_rfl) (by decide) (fun K hK => ?_)
            refine Kd.R_append_step k85 (w0 := w0) w0.heap.size (by rfl) (.tmp 31) (.tmp 45) 37 85 (.agg #[(.int .i64 0), (.string ⟨#[]⟩), (.string ⟨#[]⟩), (.int .i64 0), (.int .i64 0), (.int .i64 0)]) 64 rfl Tryz.underlying37 info85 rfl (by decide) (by omega) (.slice Ao acc.length co) acc (rop s).1 [.int .i64 (rop s).1.f0, .string (rop s).1.f1, .string (rop s).1.f2, .int .i64 (rop s).1.f3, .int .i64 (rop s).1.f4, .int .i64 (rop s).1.f5] (fun _ => True) (fun _ => False) rfl rfl ?aP (fun _ hk => hk.elim) (fun _ _ => trivial) ?aO ?aB ?aS ?aL ?_
            (case aP => exact k85_mkM _ _ _ (rop s).1)
            (case aO => exact OW6.out)
            (case aB => exact HB6.out)
            (case aS => exact HB6.out.size)
            (case aL => have := LM.out; omega)
            intro v1 w8 ho hb hg hat
            obtain ⟨Ap, np, cp, ep⟩ := R_form3 ho
            subst ep
            have BX8 := Aside0.mk (blk_grown BX6.out hg (Kd.R_ne OW6.out BX6.out (by decide)))
            have HR8 := Aside0.mk (rd_grown HR6.out OW6.out hg)
            have HB8 := Aside0.mk hb
            have OW8 := Aside0.mk ho
            have sX8 := blk_cell BX8.out 2
            have fX8 := blk_frozen BX8.out 2
            clear ho hb hg hat
            refine hK.out _ _ (sX8) (fun hHeld => ?_)
            clear hK K
            refine norm_ (a' := ?_) ?_ ?_
            rotate_left
            · show Act.put _ (some 46) _ = _
              simp only [Act.put, List.setIfInBounds_toArray, List.set_cons_zero, List.set_cons_succ, i64_w, i32_w]
              rfl
            refine pure_ (i := 17) (N := some 47) (v := ?_) (a' := ?_) #[true, true, true, true, true, true, true, true, true, true, true, true, true, true, true, true, true, true, false] rfl rfl (by kernel_rfl) (fun _ _ _ h => h) (Or.inl ⟨by rfl, ?_⟩) ?_ ?_
            rotate_left
            · intro w'
              go_simp
              with_reducible rfl
            rotate_left
            · simp only [Act.put, List.setIfInBounds_toArray, List.set_cons_zero, List.set_cons_succ, i64_w, i32_w]
              rfl
            refine last_ (i := 18) (N := none) #[true, true, true, true, true, true, true, true, true, true, true, true, true, true, true, true, true, true, true] rfl rfl (by kernel_rfl) (by decide) (fun K hK => ?_)
            refine skip_ (w1 := ?_) (by rfl) rfl ?_ ?_
            rotate_left
            · go_simp
              rfl
            refine hK.out _ _ ?_
            clear hK K
            refine done_ (by kernel_rfl) ?_
            go_wp2_with (fail)
            have hxg2 : g ≠ bx := Ne.symm hxg
            have BX9 := Aside0.mk (blk_put BX8.out 2 (.slice Ap np cp) (cs' := #[.int .i64 cl, .int .i64 sq, .slice Ap np cp]) (by simp))
            have HR9 := Aside0.mk (HR8.out.keep (Below.heap_setCell w8 ⟨bx, 2, none⟩ (.slice Ap np cp) g hxg2))
            have HB9 := Aside0.mk (HB8.out.setCell (p := ⟨bx, 2, none⟩) hbx (.slice Ap np cp))
            have OW9 := Aside0.mk (Kd.R_set OW8.out BX8.out (by intro q hq; simp [k85, Kd.iso, Kd.pair, Kd.int, Kd.string, Kd.scalar] at hq; subst hq; decide) 2 (.slice Ap np cp))
            go_roundw
            case rel => exact ⟨i + 1, k', (rop s).2, acc ++ [(rop s).1], .slice Ap np cp, by go_num, by omega, HN, HR9, HB9, BX9, OW9⟩
            case measure => simp [intOf]; omega
        · rw [if_neg hlt] at hI
          have HQ := Aside0.mk (Option.some.inj hI)
          have q9 : decide (i < n) = false := decide_eq_false hlt
          clear hI
          injection HQ.out with eo es
          have HO := Aside0.mk eo
          have HS := Aside0.mk es
          have hbz : wr.heap[w.heap.size]? = some (.cells #[.int .i64 0, .int .i64 0, .slice none 0 0] 39 (0, 0)) := (HB0.out.block _ hw0).trans HZ.out
          have f0 := blk_frozen hbz 0
          have f1 := blk_frozen hbz 1
          have f2 := blk_frozen hbz 2
          have e0 : wr.cell? ⟨w.heap.size, 0, none⟩ = some (.int .i64 0) := blk_cell hbz 0
          have e1 : wr.cell? ⟨w.heap.size, 1, none⟩ = some (.int .i64 0) := blk_cell hbz 1
          have e2 : wr.cell? ⟨w.heap.size, 2, none⟩ = some (.slice none 0 0) := blk_cell hbz 2
          have x0 : wr.cell? ⟨bx, 0, none⟩ = some (.int .i64 cl) := blk_cell BX0.out 0
          have x1 : wr.cell? ⟨bx, 1, none⟩ = some (.int .i64 sq) := blk_cell BX0.out 1
          have x2 : wr.cell? ⟨bx, 2, none⟩ = some (.slice Ao acc.length co) := blk_cell BX0.out 2
          have HBZ := Aside0.mk hbz
          have HBW := Aside0.mk (Below.trans HW.out (HB0.out.mono HW.out.size))
          clear eo es hbz
          go_wp2_with (fail)
          refine (op_reader_whole.calls2 g s w0 wr HR0.out).mono ?_
          rintro e w' ⟨rfl, rfl⟩
          have hE := HE.out
          rw [← HO.out, ← HS.out] at hE
          cases hwh : rwhole s
          · rw [hwh, if_neg (by decide)] at hE
            injection hE with hE
            injection hE with h1 hE
            injection hE with h2 hE
            injection hE with h3 h4
            subst h1 h2 h3 h4
            clear hwh
            go_wp2_with (fail)
            have z := st3_blk HBZ.out (.int .i64 0) (.int .i64 0) (.slice none 0 0)
            have zB := ((HBW.out.setCell (p := ⟨w.heap.size, 0, none⟩) (Nat.le_refl _) (.int .i64 0)).setCell (p := ⟨w.heap.size, 1, none⟩) (Nat.le_refl _) (.int .i64 0)).setCell (p := ⟨w.heap.size, 2, none⟩) (Nat.le_refl _) (.slice none 0 0)
            generalize ((wr.setCell ⟨w.heap.size, 0, none⟩ (.int .i64 0)).setCell ⟨w.heap.size, 1, none⟩ (.int .i64 0)).setCell ⟨w.heap.size, 2, none⟩ (.slice none 0 0) = wz at *
            have d0 : wz.cell? ⟨w.heap.size, 0, none⟩ = some (.int .i64 0) := blk_cell z 0
            have d1 : wz.cell? ⟨w.heap.size, 1, none⟩ = some (.int .i64 0) := blk_cell z 1
            have d2 : wz.cell? ⟨w.heap.size, 2, none⟩ = some (.slice none 0 0) := blk_cell z 2
            refine bodyPost_ret (v := .tuple #[.agg #[.int .i64 0, .int .i64 0, .slice none 0 0], .int .i64 80]) (by simp [results, Tryz.results70, go_sem, d0, d1, d2]) rfl ⟨_, rfl, Kd.R_nil _ _ _ _ _, zB⟩
          · rw [hwh, if_pos rfl] at hE
            obtain ⟨ec, hc1, hc2⟩ := Option.bind_eq_some_iff.1 hE
            have HC1 := Aside0.mk hc1
            have HC2 := Aside0.mk hc2
            have hRd := Kd.R_reads' OW0.out
            have hle := hRd.2.1
            have HAC := Aside0.mk hRd.2.2
            clear hwh hE hc1 hc2 hRd
            go_wp2_with (fail)
            refine (op_CheckAll.calls k cl sq Ao co acc ec wr HAC.out hle HC1.out).mono ?_
            rintro e w5 ⟨rfl, hB5⟩
            have hbz := (hB5.block _ (blk_lt HBZ.out)).trans HBZ.out
            have hbx5 := (hB5.block _ (blk_lt BX0.out)).trans BX0.out
            have HB5 := Aside0.mk (Below.trans HBW.out (hB5.mono HBW.out.size))
            have OW5 := Aside0.mk (Kd.R_below OW0.out hB5)
            clear hB5 f0 f1 f2 e0 e1 e2 x0 x1 x2
            have f0 := blk_frozen hbz 0
            have f1 := blk_frozen hbz 1
            have f2 := blk_frozen hbz 2
            have e0 : w5.cell? ⟨w.heap.size, 0, none⟩ = some (.int .i64 0) := blk_cell hbz 0
            have e1 : w5.cell? ⟨w.heap.size, 1, none⟩ = some (.int .i64 0) := blk_cell hbz 1
            have e2 : w5.cell? ⟨w.heap.size, 2, none⟩ = some (.slice none 0 0) := blk_cell hbz 2
            have x0 : w5.cell? ⟨bx, 0, none⟩ = some (.int .i64 cl) := blk_cell hbx5 0
            have x1 : w5.cell? ⟨bx, 1, none⟩ = some (.int .i64 sq) := blk_cell hbx5 1
            have x2 : w5.cell? ⟨bx, 2, none⟩ = some (.slice Ao acc.length co) := blk_cell hbx5 2
            have HBZ5 := Aside0.mk hbz
            clear hbz hbx5
            have hc2 := HC2.out
            rcases op_CheckAll.zero HC1.out with rfl | rfl
            · rw [if_pos rfl] at hc2
              injection hc2 with hE
              injection hE with h1 hE
              injection hE with h2 hE
              injection hE with h3 h4
              subst h1 h2 h3 h4
              go_wp2_with (fail)
              have z := st3_blk HBZ5.out (.int .i64 cl) (.int .i64 sq) (.slice Ao acc.length co)
              have zB := ((HB5.out.setCell (p := ⟨w.heap.size, 0, none⟩) (Nat.le_refl _) (.int .i64 cl)).setCell (p := ⟨w.heap.size, 1, none⟩) (Nat.le_refl _) (.int .i64 sq)).setCell (p := ⟨w.heap.size, 2, none⟩) (Nat.le_refl _) (.slice Ao acc.length co)
              have zR := own_st3 OW5.out HBZ5.out (.int .i64 cl) (.int .i64 sq) (.slice Ao acc.length co)
              generalize ((w5.setCell ⟨w.heap.size, 0, none⟩ (.int .i64 cl)).setCell ⟨w.heap.size, 1, none⟩ (.int .i64 sq)).setCell ⟨w.heap.size, 2, none⟩ (.slice Ao acc.length co) = wz at *
              have d0 : wz.cell? ⟨w.heap.size, 0, none⟩ = some (.int .i64 cl) := blk_cell z 0
              have d1 : wz.cell? ⟨w.heap.size, 1, none⟩ = some (.int .i64 sq) := blk_cell z 1
              have d2 : wz.cell? ⟨w.heap.size, 2, none⟩ = some (.slice Ao acc.length co) := blk_cell z 2
              refine bodyPost_ret (v := .tuple #[.agg #[.int .i64 cl, .int .i64 sq, .slice Ao acc.length co], .int .i64 0]) (by simp [results, Tryz.results70, go_sem, d0, d1, d2]) rfl ⟨_, rfl, Kd.R_lower zR HW.out.size, zB⟩
            · rw [if_neg (by decide)] at hc2
              injection hc2 with hE
              injection hE with h1 hE
              injection hE with h2 hE
              injection hE with h3 h4
              subst h1 h2 h3 h4
              go_wp2_with (fail)
              have z := st3_blk HBZ5.out (.int .i64 0) (.int .i64 0) (.slice none 0 0)
              have zB := ((HB5.out.setCell (p := ⟨w.heap.size, 0, none⟩) (Nat.le_refl _) (.int .i64 0)).setCell (p := ⟨w.heap.size, 1, none⟩) (Nat.le_refl _) (.int .i64 0)).setCell (p := ⟨w.heap.size, 2, none⟩) (Nat.le_refl _) (.slice none 0 0)
              generalize ((w5.setCell ⟨w.heap.size, 0, none⟩ (.int .i64 0)).setCell ⟨w.heap.size, 1, none⟩ (.int .i64 0)).setCell ⟨w.heap.size, 2, none⟩ (.slice none 0 0) = wz at *
              have d0 : wz.cell? ⟨w.heap.size, 0, none⟩ = some (.int .i64 0) := blk_cell z 0
              have d1 : wz.cell? ⟨w.heap.size, 1, none⟩ = some (.int .i64 0) := blk_cell z 1
              have d2 : wz.cell? ⟨w.heap.size, 2, none⟩ = some (.slice none 0 0) := blk_cell z 2
              refine bodyPost_ret (v := .tuple #[.agg #[.int .i64 0, .int .i64 0, .slice none 0 0], .int .i64 80]) (by simp [results, Tryz.results70, go_sem, d0, d1, d2]) rfl ⟨_, rfl, Kd.R_nil _ _ _ _ _, zB⟩

end Go.Proofs.YtdfdlajfjcakaaaGreat.PAll
