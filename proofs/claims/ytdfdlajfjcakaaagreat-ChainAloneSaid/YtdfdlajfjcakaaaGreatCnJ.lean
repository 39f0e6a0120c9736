import Derived.Test.YtdfdlajfjcakaaaGreatCnI
namespace Go.Proofs.YtdfdlajfjcakaaaGreat
open Go Go.RowKit
open Go.Proofs.YtdfdlajfjcakaaaGreatW.PrintLast
set_option linter.unusedVariables false
set_option linter.unusedSimpArgs false
set_option maxRecDepth 100000

/-! Submit. -/
def longM (r : ReqT) : Bool := decide ((encR r).2 ≠ 0 ∨ 60000 < (encR r).1.size)
set_option maxHeartbeats 2000000 in
theorem long_calls (r : ReqT) (v : Value) (w : World) (hv : SegG w OpT.cells v r.ops) :
    Calls Tryz.prog 36 #[r.v v] w fun e w' => e = .returned (.bool (longM r)) ∧ Below w.heap.size w w' := by
  obtain ⟨A, k, c, rfl⟩ : ∃ A k c, v = .slice A k c := by obtain ⟨A, c, e, _⟩ := hv.shape; exact ⟨A, _, c, e⟩
  have B0 := Lib.hid ((Below.refl w.heap.size w).alloc (Nat.le_refl _) (.cells #[.int .i64 r.client, .int .i64 r.seq, .slice A k c] 39))
  have henc := encode_calls r (.slice A k c) _ (hv.below B0.out)
  have HX := Blk.new w 39 #[.int .i64 r.client, .int .i64 r.seq, .slice A k c]
  have x0 := HX.cell 0
  have x1 := HX.cell 1
  have x2 := HX.cell 2
  obtain ⟨bs, HBS⟩ : ∃ x, Hid ((encR r).1 = x) := ⟨_, Lib.hid rfl⟩
  obtain ⟨be, HBE⟩ : ∃ x, Hid ((encR r).2 = x) := ⟨_, Lib.hid rfl⟩
  have HL := Lib.hid (show longM r = decide (be ≠ 0 ∨ 60000 < bs.size) by unfold longM; rw [HBS.out, HBE.out])
  rw [HBS.out, HBE.out] at henc
  clear HX hv
  unfold ReqT.v at henc ⊢
  go_enter Tryz.func36, Tryz.ntmps36
  go_wp2_with (fail)
  generalize (w.alloc (.cells #[.int .i64 r.client, .int .i64 r.seq, .slice A k c] 39)) = wa at *
  refine henc.mono ?_
  rintro e w1 ⟨rfl, hb1⟩
  have B1 := Lib.hid (B0.out.trans (hb1.mono B0.out.size))
  clear henc hb1 x0 x1 x2
  by_cases h1 : be = 0
  · have q1 : (be != 0) = false := by simp [h1]
    go_wp2
    go_ret
    exact ⟨by rw [HL.out]; simp [h1] <;> omega, B1.out⟩
  · have q1 : (be != 0) = true := by simp [h1]
    go_wp2
    go_ret
    exact ⟨by rw [HL.out]; simp [h1] <;> omega, B1.out⟩
def Mem.submit (m : Mem) (r : ReqT) : (Int × Int) × Mem :=
  if m.place ≠ 0 then ((0, 190), m)
  else if reqMay r = false then ((0, 80), m)
  else if longM r = true ∨ 256 ≤ m.way.length ∨ 1048576 ≤ m.done then ((0, 2), m)
  else ((m.done + 1, 0), m.doM r)
set_option maxHeartbeats 8000000 in
theorem submit_calls {w : World} {F : Nat → Prop} {g : Nat} {m : Mem} (h : MemAt w F g m) (hok : m.Ok) (r : ReqT) (v : Value) (hv : SegG w OpT.cells v r.ops) :
    Calls Tryz.prog 10 #[.pointer (some ⟨g, 0, none⟩), r.v v] w fun e w' => e = .returned (.tuple #[.int .i64 (m.submit r).1.1, .int .i64 (m.submit r).1.2]) ∧ MPost w F g (m.submit r).2 w' := by
  obtain ⟨A, k, c, rfl⟩ : ∃ A k c, v = .slice A k c := by obtain ⟨A, c, e, _⟩ := hv.shape; exact ⟨A, _, c, e⟩
  have B0 := Lib.hid ((Below.refl w.heap.size w).alloc (Nat.le_refl _) (.cells #[.int .i64 r.client, .int .i64 r.seq, .slice A k c] 39))
  have HX0 := Lib.hid (Blk.new w 39 #[.int .i64 r.client, .int .i64 r.seq, .slice A k c])
  have hpl := place_calls (h.below B0.out) hok.order
  have HM := Lib.hid h
  have HOK := Lib.hid hok
  have HV := Lib.hid hv
  obtain ⟨p, HP⟩ : ∃ x, Hid (m.place = x) := ⟨_, Lib.hid rfl⟩
  rw [HP.out] at hpl
  clear h hok hv
  unfold ReqT.v
  go_enter Tryz.func10, Tryz.ntmps10
  go_wp2_with (fail)
  generalize (w.alloc (.cells #[.int .i64 r.client, .int .i64 r.seq, .slice A k c] 39)) = wa at *
  refine hpl.mono ?_
  rintro e w1 ⟨rfl, hb1⟩
  have B1 := Lib.hid (B0.out.trans (hb1.mono B0.out.size))
  have HX1 := Lib.hid (HX0.out.kept (Kept.of_below hb1 fun _ => False) (fun h => h))
  clear hpl hb1 HX0
  by_cases h0 : p = 0
  · have q0 : (p != 0) = false := by simp [h0]
    have hca := checkAll_calls r (.slice A k c) w1 (HV.out.below B1.out)
    have x0 := HX1.out.cell 0
    have x1 := HX1.out.cell 1
    have x2 := HX1.out.cell 2
    unfold ReqT.v at hca
    go_wp2_with (fail)
    refine hca.mono ?_
    rintro e w2 ⟨rfl, hb2⟩
    have B2 := Lib.hid (B1.out.trans (hb2.mono B1.out.size))
    have HX2 := Lib.hid (HX1.out.kept (Kept.of_below hb2 fun _ => False) (fun h => h))
    clear hca hb2 HX1 x0 x1 x2
    by_cases h1 : reqMay r = true
    · have hlo := long_calls r (.slice A k c) w2 (HV.out.below B2.out)
      have x0 := HX2.out.cell 0
      have x1 := HX2.out.cell 1
      have x2 := HX2.out.cell 2
      unfold ReqT.v at hlo
      rw [if_pos h1]
      have q1 : ((0 : Int) != 0) = false := rfl
      go_wp2_with (fail)
      refine hlo.mono ?_
      rintro e w3 ⟨rfl, hb3⟩
      have B3 := Lib.hid (B2.out.trans (hb3.mono B2.out.size))
      have HX3 := Lib.hid (HX2.out.kept (Kept.of_below hb3 fun _ => False) (fun h => h))
      clear hlo hb3 HX2 x0 x1 x2
      cases h2 : longM r with
      | true =>
        have HE := Lib.hid (show m.submit r = ((0, 2), m) by unfold Mem.submit; rw [if_neg (by rw [HP.out]; simpa using h0), if_neg (by rw [h1]; decide), if_pos (.inl h2)])
        go_wp2
        go_ret2
        exact ⟨by rw [HE.out]; rfl, by rw [HE.out]; exact MPost.mk0 HM.out B3.out⟩
      | false =>
        have hm3 := HM.out.below B3.out
        obtain ⟨tb, vo, vw, vl, vt, rw_, rt, hm3, rfl⟩ := hm3
        have c5 := hm3.b.cell 5
        obtain ⟨A5, c5', hv5⟩ := hm3.r.shape
        subst hv5
        have hrl := hm3.ri.1
        have hwl := HOK.out.way
        have hla := last_calls (w := w3) ⟨_, _, _, _, _, _, _, hm3, rfl⟩ (by have := HOK.out.behind; exact ⟨this.1, by omega⟩) (by omega)
        obtain ⟨n, HN⟩ : ∃ n, Hid (rw_.length = n) := ⟨_, Lib.hid rfl⟩
        obtain ⟨dn, HD⟩ : ∃ n, Hid (m.done = n) := ⟨_, Lib.hid rfl⟩
        rw [HN.out] at c5 hrl
        rw [HD.out] at hla
        have HMP := Lib.hid hm3
        clear hm3
        by_cases h3 : 256 ≤ n
        · have q3 : decide ((256 : Int) ≤ (n : Int)) = true := decide_eq_true (by omega)
          have HE := Lib.hid (show m.submit r = ((0, 2), m) by unfold Mem.submit; rw [if_neg (by rw [HP.out]; simpa using h0), if_neg (by rw [h1]; decide), if_pos (.inr (.inl (by omega)))])
          go_wp2
          go_ret2
          exact ⟨by rw [HE.out]; rfl, by rw [HE.out]; exact MPost.mk0 HM.out B3.out⟩
        · have q3 : decide ((256 : Int) ≤ (n : Int)) = false := decide_eq_false (by omega)
          go_wp2_with (fail)
          refine hla.mono ?_
          rintro e w4 ⟨rfl, hb4⟩
          have B4 := Lib.hid (B3.out.trans (hb4.mono B3.out.size))
          have HX4 := Lib.hid (HX3.out.kept (Kept.of_below hb4 fun _ => False) (fun h => h))
          clear hla hb4 c5
          by_cases h4 : 1048576 ≤ dn
          · have q4 : decide ((1048576 : Int) ≤ dn) = true := decide_eq_true h4
            have HE := Lib.hid (show m.submit r = ((0, 2), m) by unfold Mem.submit; rw [if_neg (by rw [HP.out]; simpa using h0), if_neg (by rw [h1]; decide), if_pos (.inr (.inr (by rw [HD.out]; exact h4)))])
            go_wp2
            go_ret2
            exact ⟨by rw [HE.out]; rfl, by rw [HE.out]; exact MPost.mk0 HM.out B4.out⟩
          · have q4 : decide ((1048576 : Int) ≤ dn) = false := decide_eq_false h4
            have HE := Lib.hid (show m.submit r = ((dn + 1, 0), m.doM r) by unfold Mem.submit; rw [if_neg (by rw [HP.out]; simpa using h0), if_neg (by rw [h1]; decide), if_neg (by rw [h2, HD.out]; simp; omega), HD.out])
            have hsz : (encR r).1.size ≤ 60000 := by unfold longM at h2; have := of_decide_eq_false h2; omega
            have hdo := do_calls (HM.out.below B4.out) HOK.out r (.slice A k c) (HV.out.below B4.out) h1 hsz
            have x0 := HX4.out.cell 0
            have x1 := HX4.out.cell 1
            have x2 := HX4.out.cell 2
            unfold ReqT.v at hdo
            rw [HD.out] at hdo
            go_wp2_with (fail)
            refine hdo.mono ?_
            rintro e w5 ⟨rfl, h5⟩
            have H5 := Lib.hid h5
            clear hdo h5
            go_wp2
            go_ret2
            exact ⟨by rw [HE.out]; rfl, by rw [HE.out]; exact MPost.from_ B4.out H5.out⟩
    · have HE := Lib.hid (show m.submit r = ((0, 80), m) by unfold Mem.submit; rw [if_neg (by rw [HP.out]; simpa using h0), if_pos (by simpa using h1)])
      rw [if_neg h1]
      go_wp2
      go_ret2
      exact ⟨by rw [HE.out]; rfl, by rw [HE.out]; exact MPost.mk0 HM.out B2.out⟩
  · have q0 : (p != 0) = true := by simp [h0]
    have HE := Lib.hid (show m.submit r = ((0, 190), m) by unfold Mem.submit; rw [if_pos (by rw [HP.out]; exact h0)])
    go_wp2
    go_ret2
    exact ⟨by rw [HE.out]; rfl, by rw [HE.out]; exact MPost.mk0 HM.out B1.out⟩
end Go.Proofs.YtdfdlajfjcakaaaGreat
