import Derived.Test.YtpimpdgibcjbeaaRlZm
import Derived.Test.YtpimpdgibcjbeaaWLast
namespace Go.Proofs.Ytpimpdgibcjbeaa
open Go Go.RowKit
open Go.Proofs.YtpimpdgibcjbeaaW.PrintLast
set_option linter.unusedVariables false
set_option linter.unusedSimpArgs false

structure PK (w W : World) (g : Nat) (base term : Int) (vl : Value) (l : List Ent) : Prop where
  b : Blk W g 52 #[.int .i64 base, .int .i64 term, vl]
  r : Row W 44 2 Ent.cells vl l
  k : Below w.heap.size w W
  g : g < w.heap.size
  v : ∀ k, vl.ownBlock = some k → k < w.heap.size
section
variable {w W W' : World} {g : Nat} {base term : Int} {vl : Value} {l : List Ent}
theorem PK.alloc (h : PK w W g base term vl l) (o : Obj) : PK w (W.alloc o) g base term vl l := ⟨h.b.alloc o, h.r.alloc o, h.k.alloc h.k.size o, h.g, h.v⟩
theorem PK.drew (h : PK w W g base term vl l) : PK w W.drew g base term vl l := ⟨h.b, h.r, h.k.drew, h.g, h.v⟩
theorem PK.grownV {row : Option Nat} (h : PK w W g base term vl l) (hg : W.grownBy W' row) (hr : ∀ k, row = some k → w.heap.size ≤ k) : PK w W' g base term vl l :=
  ⟨h.b.grown hg (fun e => by have := hr _ e.symm; have := h.g; omega), h.r.grown hg (fun k e e2 => by have := hr _ e2.symm; have := h.v k e; omega), h.k.grown hg h.k.size (fun k e => hr k e), h.g, h.v⟩
end
theorem ref_compact_bad (F : Nat → Prop) (g : Nat) (s : LogS) (i : Int) (w : World) (h : RAt w F g s) (hb0 : 0 ≤ s.base) (hb1 : s.base ≤ 1048576) (hl : s.l.length ≤ 1048576) (hi : i < s.base ∨ s.base + s.l.length < i) :
    Calls Try.prog 38 #[.pointer (some ⟨g, 0, none⟩), .int .i64 i] w fun e w' => e = .returned (.int .i64 140) ∧ Below w.heap.size w w' := by
  have ht := ref_term F g s i w h hb0 hb1 hl
  have e1 : s.termAt i = (0, 140) := by unfold LogS.termAt; rw [if_pos hi]
  rw [e1] at ht
  clear h e1 hi
  go_enter Try.func38, Try.ntmps38
  go_wp2_with (fail)
  refine ht.mono ?_
  rintro e w2 ⟨rfl, hb2⟩
  go_wp2
  go_ret
  exact ⟨rfl, hb2⟩
set_option maxRecDepth 100000 in
set_option maxHeartbeats 4000000 in
theorem ref_compact_ok (F : Nat → Prop) (g : Nat) (s : LogS) (j : Nat) (i : Int) (w : World) (h : RAt w F g s) (hb0 : 0 ≤ s.base) (hb1 : s.base ≤ 1048576) (hl : s.l.length ≤ 1048576) (hj : i = s.base + j) (hjl : j ≤ s.l.length) :
    Calls Try.prog 38 #[.pointer (some ⟨g, 0, none⟩), .int .i64 i] w fun e w' => e = .returned (.int .i64 0) ∧ RPost w F g ⟨i, (s.termAt i).1, s.l.drop j⟩ w' := by
  have ht := ref_term F g s i w h hb0 hb1 hl
  have e1 : (s.termAt i).2 = 0 := by
    unfold LogS.termAt
    rw [if_neg (by omega)]
    split <;> rfl
  rw [e1] at ht
  generalize (s.termAt i).1 = t0 at ht ⊢
  have H := Lib.hid h
  have HJ := Lib.hid hj
  have hw3 : IntKind.i64.wrap (i - s.base) = (j : Int) := by rw [IntKind.wrap_i64]; omega
  clear h e1 hj
  go_enter Try.func38, Try.ntmps38
  go_wp2_with (fail)
  refine ht.mono ?_
  rintro e Wq ⟨rfl, hb2⟩
  have HB2 := Lib.hid hb2
  clear hb2 ht
  have HH2 := Lib.hid (H.out.below HB2.out)
  obtain ⟨vl, hb, h1, hg, f1⟩ := HH2.out
  obtain ⟨A, c, rfl⟩ := h1.shape
  have HB := Lib.hid hb
  have H1 := Lib.hid h1
  have hcap := h1.cap
  have hcap1 : s.l.length ≤ c := hcap.1
  have hcap2 : c ≤ 9223372036854775807 := hcap.2
  have J0 := Lib.hid (show PK Wq Wq g s.base s.term (.slice A s.l.length c) s.l from ⟨hb, h1, Below.refl _ _, hb.lt, fun k e => h1.lt e⟩)
  have hgq := hb.lt
  rcases h1.2 with ⟨hv, h0⟩ | ⟨gb, c', cur, hv, hcb, hgb, hcl, hcm, _⟩
  · simp only [Value.slice.injEq] at hv
    obtain ⟨rfl, _, rfl⟩ := hv
    obtain rfl : j = 0 := by omega
    have HE := Lib.hid (show s.l = [] from List.eq_nil_of_length_eq_zero h0)
    rw [h0] at J0
    simp only [Int.natCast_zero, Int.cast_ofNat_Int] at hw3
    clear hb h1 h0 hjl hl hcap hcap1 hcap2
    go_wp2_with (fail)
    refine start_ (n := 17) (S := fun w' => w'.cell? ⟨g, 2, none⟩ = some (.slice none 0 0) ∧ w'.cell? ⟨g, 0, none⟩ = some (.int .i64 s.base)) (ds := [16]) #[false, false, false, false, false, false, false, false, false, false, false, false, false, false, false, false, false] (by kernel_rfl) rfl rfl ⟨J0.out.drew.b.cell 2, J0.out.drew.b.cell 0⟩ (fun hHeld => ?_)
    refine pure_ (i := 0) (N := some 16) (v := ?_) (a' := ?_) #[true, false, false, false, false, false, false, false, false, false, false, false, false, false, false, false, false] rfl rfl (by kernel_rfl) (fun _ _ _ h => h) (Or.inl ⟨by rfl, ?_⟩) ?_ ?_
    rotate_left
    · intro w'
      go_simp
      with_reducible rfl
    rotate_left
    · simp only [Act.put, List.setIfInBounds_toArray, List.set_cons_zero, List.set_cons_succ, i64_w, i32_w]
      rfl
    refine pure_ (i := 2) (N := some 18) (v := ?_) (a' := ?_) #[true, false, true, false, false, false, false, false, false, false, false, false, false, false, false, false, false] rfl rfl (by kernel_rfl) (fun _ _ _ h => h) (Or.inl ⟨by rfl, ?_⟩) ?_ ?_
    rotate_left
    · intro w'
      go_simp
      with_reducible rfl
    rotate_left
    · simp only [Act.put, List.setIfInBounds_toArray, List.set_cons_zero, List.set_cons_succ, i64_w, i32_w]
      rfl
    refine pure_ (i := 3) (N := some 19) (v := ?_) (a' := ?_) #[true, false, true, true, false, false, false, false, false, false, false, false, false, false, false, false, false] rfl rfl (by kernel_rfl) (fun _ _ _ h => h) (Or.inl ⟨by rfl, ?_⟩) ?_ ?_
    rotate_left
    · intro w'
      go_simp
      with_reducible rfl
    rotate_left
    · simp only [Act.put, List.setIfInBounds_toArray, List.set_cons_zero, List.set_cons_succ, i64_w, i32_w]
      rfl
    refine pure_ (i := 4) (N := some 20) (v := ?_) (a' := ?_) #[true, false, true, true, true, false, false, false, false, false, false, false, false, false, false, false, false] rfl rfl (by kernel_rfl) (fun _ _ _ h => h) (Or.inl ⟨by rfl, ?_⟩) ?_ ?_
    rotate_left
    · intro w'
      go_simp
      with_reducible rfl
    rotate_left
    · simp only [Act.put, List.setIfInBounds_toArray, List.set_cons_zero, List.set_cons_succ, i64_w, i32_w]
      rfl
    refine pure_ (i := 6) (N := some 22) (v := ?_) (a' := ?_) #[true, false, true, true, true, false, true, false, false, false, false, false, false, false, false, false, false] rfl rfl (by kernel_rfl) (fun _ _ _ h => h) (Or.inl ⟨by rfl, ?_⟩) ?_ ?_
    rotate_left
    · intro w'
      go_simp
      with_reducible rfl
    rotate_left
    · simp only [Act.put, List.setIfInBounds_toArray, List.set_cons_zero, List.set_cons_succ, i64_w, i32_w]
      rfl
    refine pure_ (i := 7) (N := some 23) (v := ?_) (a' := ?_) #[true, false, true, true, true, false, true, true, false, false, false, false, false, false, false, false, false] rfl rfl (by kernel_rfl) (fun _ _ _ h => h) (Or.inl ⟨by rfl, ?_⟩) ?_ ?_
    rotate_left
    · intro w'
      go_simp
      with_reducible rfl
    rotate_left
    · simp only [Act.put, List.setIfInBounds_toArray, List.set_cons_zero, List.set_cons_succ, i64_w, i32_w]
      rfl
    refine pure_ (i := 8) (N := some 24) (v := ?_) (a' := ?_) #[true, false, true, true, true, false, true, true, true, false, false, false, false, false, false, false, false] rfl rfl (by kernel_rfl) (fun _ _ _ h => h) (Or.inl ⟨by rfl, ?_⟩) ?_ ?_
    rotate_left
    · intro w'
      go_simp
      with_reducible rfl
    rotate_left
    · simp only [Act.put, List.setIfInBounds_toArray, List.set_cons_zero, List.set_cons_succ, i64_w, i32_w]
      rfl
    refine pure_ (i := 9) (N := some 25) (v := ?_) (a' := ?_) #[true, false, true, true, true, false, true, true, true, true, false, false, false, false, false, false, false] rfl rfl (by kernel_rfl) (fun _ _ _ h => h) (Or.inl ⟨by rfl, ?_⟩) ?_ ?_
    rotate_left
    · intro w'
      go_simp
      with_reducible rfl
    rotate_left
    · simp only [Act.put, List.setIfInBounds_toArray, List.set_cons_zero, List.set_cons_succ, i64_w, i32_w]
      rfl
    refine take_ (i := 5) (N := some 21) (v := ?_) (a' := ?_) #[true, false, true, true, true, true, true, true, true, true, false, false, false, false, false, false, false] rfl rfl (by kernel_rfl) (fun _ _ _ h => h) (Or.inl ⟨by rfl, ?_⟩) hHeld ?_ ?_
    rotate_left
    · rintro w' ⟨s0, s1⟩
      go_simp
      with_reducible rfl
    rotate_left
    · simp only [Act.put, List.setIfInBounds_toArray, List.set_cons_zero, List.set_cons_succ, i64_w, i32_w]
      rfl
    refine take_ (i := 10) (N := some 26) (v := ?_) (a' := ?_) #[true, false, true, true, true, true, true, true, true, true, true, false, false, false, false, false, false] rfl rfl (by kernel_rfl) (fun _ _ _ h => h) (Or.inl ⟨by rfl, ?_⟩) hHeld ?_ ?_
    rotate_left
    · rintro w' ⟨s0, s1⟩
      go_simp
      with_reducible rfl
    rotate_left
    · simp only [Act.put, List.setIfInBounds_toArray, List.set_cons_zero, List.set_cons_succ, i64_w, i32_w]
      rfl
    refine pure_ (i := 11) (N := some 27) (v := ?_) (a' := ?_) #[true, false, true, true, true, true, true, true, true, true, true, true, false, false, false, false, false] rfl rfl (by kernel_rfl) (fun _ _ _ h => h) (Or.inl ⟨by rfl, ?_⟩) ?_ ?_
    rotate_left
    · intro w'
      go_simp
      with_reducible rfl
    rotate_left
    · simp only [Act.put, List.setIfInBounds_toArray, List.set_cons_zero, List.set_cons_succ, i64_w, i32_w]
      rfl
    refine pure_ (i := 12) (N := some 28) (v := ?_) (a' := ?_) #[true, false, true, true, true, true, true, true, true, true, true, true, true, false, false, false, false] rfl rfl (by kernel_rfl) (fun _ _ _ h => h) (Or.inl ⟨by rfl, ?_⟩) ?_ ?_
    rotate_left
    · intro w'
      go_simp
      with_reducible rfl
    rotate_left
    · simp only [Act.put, List.setIfInBounds_toArray, List.set_cons_zero, List.set_cons_succ, i64_w, i32_w]
      rfl
    refine one_ (i := 1) (N := some 17) #[true, true, true, true, true, true, true, true, true, true, true, true, true, false, false, false, false] rfl rfl (by kernel_rfl) (by decide) (fun K hK => ?_)
    refine value_ (w1 := ?_) (v := ?_) (by rfl) rfl ?_ ?_
    rotate_left 2
    · go_simp
      constructor
      · rfl
      · rfl
    have J1 := Lib.hid (J0.out.drew.alloc (.cells #[] 44))
    have E1 := Lib.hid (Row.empty Wq.drew 44 2 Ent.cells)
    refine hK.out _ _ ⟨J1.out.b.cell 2, J1.out.b.cell 0⟩ (fun hHeld => ?_)
    clear hK K
    refine norm_ (a' := ?_) ?_ ?_
    rotate_left
    · show Act.put _ (some 17) _ = _
      simp only [Act.put, List.setIfInBounds_toArray, List.set_cons_zero, List.set_cons_succ, i64_w, i32_w]
      rfl
    refine one_ (i := 13) (N := some 29) #[true, true, true, true, true, true, true, true, true, true, true, true, true, true, false, false, false] rfl rfl (by kernel_rfl) (by decide) (fun K hK => ?_)
    refine Row.appendRow_step (by rfl) (.tmp 17) (.tmp 28) 36 44 (.agg #[.int .i64 0, .string ⟨#[]⟩]) 2 24 (by rfl) Try.underlying36 info_entries rfl (by decide) (by decide) (.slice (some ⟨Wq.heap.size, 0, none⟩) 0 0) (.slice none 0 0) [] [] (by rfl) (by rfl) E1.out (Row.nil_ ..) (fun _ => rfl) one_ent (by decide) ?_
    intro v9 w9 hR hG hO
    obtain ⟨A9, m9, c9, rfl⟩ := hR.some_slice
    have J9 := Lib.hid (J1.out.grownV hG (fun k e => by simp [Value.ownBlock] at e; omega))
    have R9 := Lib.hid hR
    have V9 := Lib.hid (own_ge (n := Wq.heap.size) (b := Wq.heap.size) hO ⟨rfl, Nat.le_refl _⟩ (by simp))
    have hc9 := J9.out.b.cell 2
    have hf9 := J9.out.b.frozen 2
    clear hR hG hO
    refine hK.out _ _ ⟨J9.out.b.cell 2, J9.out.b.cell 0⟩ (fun hHeld => ?_)
    clear hK K
    refine norm_ (a' := ?_) ?_ ?_
    rotate_left
    · show Act.put _ (some 29) _ = _
      simp only [Act.put, List.setIfInBounds_toArray, List.set_cons_zero, List.set_cons_succ, i64_w, i32_w]
      rfl
    refine pure_ (i := 14) (N := some 30) (v := ?_) (a' := ?_) #[true, true, true, true, true, true, true, true, true, true, true, true, true, true, true, false, false] rfl rfl (by kernel_rfl) (fun _ _ _ h => h) (Or.inl ⟨by rfl, ?_⟩) ?_ ?_
    rotate_left
    · intro w'
      go_simp
      with_reducible rfl
    rotate_left
    · simp only [Act.put, List.setIfInBounds_toArray, List.set_cons_zero, List.set_cons_succ, i64_w, i32_w]
      rfl
    refine pure_ (i := 15) (N := some 31) (v := ?_) (a' := ?_) #[true, true, true, true, true, true, true, true, true, true, true, true, true, true, true, true, false] rfl rfl (by kernel_rfl) (fun _ _ _ h => h) (Or.inl ⟨by rfl, ?_⟩) ?_ ?_
    rotate_left
    · intro w'
      go_simp
      with_reducible rfl
    rotate_left
    · simp only [Act.put, List.setIfInBounds_toArray, List.set_cons_zero, List.set_cons_succ, i64_w, i32_w]
      rfl
    refine last_ (i := 16) (N := none) #[true, true, true, true, true, true, true, true, true, true, true, true, true, true, true, true, true] rfl rfl (by kernel_rfl) (by decide) (fun K hK => ?_)
    refine skip_ (w1 := ?_) (by rfl) rfl ?_ ?_
    rotate_left
    · go_simp
      rfl
    refine hK.out _ _ ?_
    clear hK K
    refine done_ (by kernel_rfl) ?_

    have d0 := J9.out.b.cell 0
    have d1 := J9.out.b.cell 1
    have d0f := J9.out.b.frozen 0
    have d1f := J9.out.b.frozen 1
    go_wp2
    go_ret
    have hr := R9.out
    rw [List.nil_append, ← show s.l.drop 0 = ([] : List Ent) by rw [HE.out]; rfl] at hr
    have hks := ((((Kept.refl w9 (fun k => k = g)).setCell (p := ⟨g, 2, none⟩) (.inl rfl) (.slice A9 m9 c9)).setCell (p := ⟨g, 0, none⟩) (.inl rfl) (.int .i64 i)).setCell (p := ⟨g, 1, none⟩) (.inl rfl) (.int .i64 t0))
    have hp := RAt.reset HH2.out J9.out.k hr (fun k e => V9.out k e) hks (((J9.out.b.set_ 2 _).set_ 0 _).set_ 1 _)
    exact ⟨rfl, (Kept.of_below HB2.out F).trans hp.1, hp.2.mono fun k hk h => grow_sub HB2.out.size h⟩
  · simp only [Value.slice.injEq] at hv
    obtain ⟨rfl, _, rfl⟩ := hv
    have hgl0 : gb < Wq.heap.size := (Array.getElem?_eq_some_iff.1 hgb).1
    have j2 : (j : Int) ≤ (c : Int) := by omega
    have j1 : (j : Int) ≤ (s.l.length : Int) := by omega
    have n2 : (s.l.length : Int) ≤ (c : Int) := by omega
    have hj0 : (0 : Int) ≤ (j : Int) := by omega
    have HJL := Lib.hid hjl
    have HBD := Lib.hid (show (([] : List Ent).length + (s.l.length - j)) * 24 ≤ 140737488355328 by simp only [List.length_nil]; omega)
    have HKK := Lib.hid (show (s.l.drop j).length = s.l.length - j from List.length_drop ..)
    clear hb h1 hgb hcm hcl hcap
    by_cases hcj : c = j
    · have HNW := Lib.hid (show ∀ t u, ((s.l.drop j).flatMap Ent.cells)[t]? = some u → (Wq.alloc (.cells #[] 44)).cell? ((⟨gb, 0, none⟩ : Addr).add t) = some u from fun t u hu => by
        rw [List.drop_eq_nil_of_le (by omega)] at hu
        simp at hu)
      go_wp2_with (fail)
      refine start_ (n := 17) (S := fun w' => w'.cell? ⟨g, 2, none⟩ = some (.slice (some ⟨gb, 0, none⟩) s.l.length c) ∧ w'.cell? ⟨g, 0, none⟩ = some (.int .i64 s.base)) (ds := [16]) #[false, false, false, false, false, false, false, false, false, false, false, false, false, false, false, false, false] (by kernel_rfl) rfl rfl ⟨J0.out.drew.b.cell 2, J0.out.drew.b.cell 0⟩ (fun hHeld => ?_)
      refine pure_ (i := 0) (N := some 16) (v := ?_) (a' := ?_) #[true, false, false, false, false, false, false, false, false, false, false, false, false, false, false, false, false] rfl rfl (by kernel_rfl) (fun _ _ _ h => h) (Or.inl ⟨by rfl, ?_⟩) ?_ ?_
      rotate_left
      · intro w'
        go_simp
        with_reducible rfl
      rotate_left
      · simp only [Act.put, List.setIfInBounds_toArray, List.set_cons_zero, List.set_cons_succ, i64_w, i32_w]
        rfl
      refine pure_ (i := 2) (N := some 18) (v := ?_) (a' := ?_) #[true, false, true, false, false, false, false, false, false, false, false, false, false, false, false, false, false] rfl rfl (by kernel_rfl) (fun _ _ _ h => h) (Or.inl ⟨by rfl, ?_⟩) ?_ ?_
      rotate_left
      · intro w'
        go_simp
        with_reducible rfl
      rotate_left
      · simp only [Act.put, List.setIfInBounds_toArray, List.set_cons_zero, List.set_cons_succ, i64_w, i32_w]
        rfl
      refine pure_ (i := 3) (N := some 19) (v := ?_) (a' := ?_) #[true, false, true, true, false, false, false, false, false, false, false, false, false, false, false, false, false] rfl rfl (by kernel_rfl) (fun _ _ _ h => h) (Or.inl ⟨by rfl, ?_⟩) ?_ ?_
      rotate_left
      · intro w'
        go_simp
        with_reducible rfl
      rotate_left
      · simp only [Act.put, List.setIfInBounds_toArray, List.set_cons_zero, List.set_cons_succ, i64_w, i32_w]
        rfl
      refine pure_ (i := 4) (N := some 20) (v := ?_) (a' := ?_) #[true, false, true, true, true, false, false, false, false, false, false, false, false, false, false, false, false] rfl rfl (by kernel_rfl) (fun _ _ _ h => h) (Or.inl ⟨by rfl, ?_⟩) ?_ ?_
      rotate_left
      · intro w'
        go_simp
        with_reducible rfl
      rotate_left
      · simp only [Act.put, List.setIfInBounds_toArray, List.set_cons_zero, List.set_cons_succ, i64_w, i32_w]
        rfl
      refine pure_ (i := 6) (N := some 22) (v := ?_) (a' := ?_) #[true, false, true, true, true, false, true, false, false, false, false, false, false, false, false, false, false] rfl rfl (by kernel_rfl) (fun _ _ _ h => h) (Or.inl ⟨by rfl, ?_⟩) ?_ ?_
      rotate_left
      · intro w'
        go_simp
        with_reducible rfl
      rotate_left
      · simp only [Act.put, List.setIfInBounds_toArray, List.set_cons_zero, List.set_cons_succ, i64_w, i32_w]
        rfl
      refine pure_ (i := 7) (N := some 23) (v := ?_) (a' := ?_) #[true, false, true, true, true, false, true, true, false, false, false, false, false, false, false, false, false] rfl rfl (by kernel_rfl) (fun _ _ _ h => h) (Or.inl ⟨by rfl, ?_⟩) ?_ ?_
      rotate_left
      · intro w'
        go_simp
        with_reducible rfl
      rotate_left
      · simp only [Act.put, List.setIfInBounds_toArray, List.set_cons_zero, List.set_cons_succ, i64_w, i32_w]
        rfl
      refine pure_ (i := 8) (N := some 24) (v := ?_) (a' := ?_) #[true, false, true, true, true, false, true, true, true, false, false, false, false, false, false, false, false] rfl rfl (by kernel_rfl) (fun _ _ _ h => h) (Or.inl ⟨by rfl, ?_⟩) ?_ ?_
      rotate_left
      · intro w'
        go_simp
        with_reducible rfl
      rotate_left
      · simp only [Act.put, List.setIfInBounds_toArray, List.set_cons_zero, List.set_cons_succ, i64_w, i32_w]
        rfl
      refine pure_ (i := 9) (N := some 25) (v := ?_) (a' := ?_) #[true, false, true, true, true, false, true, true, true, true, false, false, false, false, false, false, false] rfl rfl (by kernel_rfl) (fun _ _ _ h => h) (Or.inl ⟨by rfl, ?_⟩) ?_ ?_
      rotate_left
      · intro w'
        go_simp
        with_reducible rfl
      rotate_left
      · simp only [Act.put, List.setIfInBounds_toArray, List.set_cons_zero, List.set_cons_succ, i64_w, i32_w]
        rfl
      refine take_ (i := 5) (N := some 21) (v := ?_) (a' := ?_) #[true, false, true, true, true, true, true, true, true, true, false, false, false, false, false, false, false] rfl rfl (by kernel_rfl) (fun _ _ _ h => h) (Or.inl ⟨by rfl, ?_⟩) hHeld ?_ ?_
      rotate_left
      · rintro w' ⟨s0, s1⟩
        go_simp
        with_reducible rfl
      rotate_left
      · simp only [Act.put, List.setIfInBounds_toArray, List.set_cons_zero, List.set_cons_succ, i64_w, i32_w]
        rfl
      refine take_ (i := 10) (N := some 26) (v := ?_) (a' := ?_) #[true, false, true, true, true, true, true, true, true, true, true, false, false, false, false, false, false] rfl rfl (by kernel_rfl) (fun _ _ _ h => h) (Or.inl ⟨by rfl, ?_⟩) hHeld ?_ ?_
      rotate_left
      · rintro w' ⟨s0, s1⟩
        go_simp
        with_reducible rfl
      rotate_left
      · simp only [Act.put, List.setIfInBounds_toArray, List.set_cons_zero, List.set_cons_succ, i64_w, i32_w]
        rfl
      refine pure_ (i := 11) (N := some 27) (v := ?_) (a' := ?_) #[true, false, true, true, true, true, true, true, true, true, true, true, false, false, false, false, false] rfl rfl (by kernel_rfl) (fun _ _ _ h => h) (Or.inl ⟨by rfl, ?_⟩) ?_ ?_
      rotate_left
      · intro w'
        go_simp
        with_reducible rfl
      rotate_left
      · simp only [Act.put, List.setIfInBounds_toArray, List.set_cons_zero, List.set_cons_succ, i64_w, i32_w]
        rfl
      refine pure_ (i := 12) (N := some 28) (v := ?_) (a' := ?_) #[true, false, true, true, true, true, true, true, true, true, true, true, true, false, false, false, false] rfl rfl (by kernel_rfl) (fun _ _ _ h => h) (Or.inl ⟨by rfl, ?_⟩) ?_ ?_
      rotate_left
      · intro w'
        go_simp
        with_reducible rfl
      rotate_left
      · simp only [Act.put, List.setIfInBounds_toArray, List.set_cons_zero, List.set_cons_succ, i64_w, i32_w]
        rfl
      refine one_ (i := 1) (N := some 17) #[true, true, true, true, true, true, true, true, true, true, true, true, true, false, false, false, false] rfl rfl (by kernel_rfl) (by decide) (fun K hK => ?_)
      refine value_ (w1 := ?_) (v := ?_) (by rfl) rfl ?_ ?_
      rotate_left 2
      · go_simp
        constructor
        · rfl
        · rfl
      have J1 := Lib.hid (J0.out.drew.alloc (.cells #[] 44))
      have E1 := Lib.hid (Row.empty Wq.drew 44 2 Ent.cells)
      refine hK.out _ _ ⟨J1.out.b.cell 2, J1.out.b.cell 0⟩ (fun hHeld => ?_)
      clear hK K
      refine norm_ (a' := ?_) ?_ ?_
      rotate_left
      · show Act.put _ (some 17) _ = _
        simp only [Act.put, List.setIfInBounds_toArray, List.set_cons_zero, List.set_cons_succ, i64_w, i32_w]
        rfl
      refine one_ (i := 13) (N := some 29) #[true, true, true, true, true, true, true, true, true, true, true, true, true, true, false, false, false] rfl rfl (by kernel_rfl) (by decide) (fun K hK => ?_)
      refine Row.append_step (by rfl) (.tmp 17) (.tmp 28) 36 44 (.agg #[.int .i64 0, .string ⟨#[]⟩]) 2 24 (by rfl) Try.underlying36 info_entries rfl (by decide) (by decide) (.slice (some ⟨Wq.heap.size, 0, none⟩) 0 0) [] (s.l.drop j) (by rfl) ⟨gb, 0, none⟩ (s.l.length - j) 0 (by rfl) E1.out HKK.out (fun _ => rfl) (fun t u hu => HNW.out t u hu) one_ent HBD.out ?_
      intro v9 w9 hR hG hO
      obtain ⟨A9, m9, c9, rfl⟩ := hR.some_slice
      have J9 := Lib.hid (J1.out.grownV hG (fun k e => by simp [Value.ownBlock] at e; omega))
      have R9 := Lib.hid hR
      have V9 := Lib.hid (own_ge (n := Wq.heap.size) (b := Wq.heap.size) hO ⟨rfl, Nat.le_refl _⟩ (by simp))
      have hc9 := J9.out.b.cell 2
      have hf9 := J9.out.b.frozen 2
      clear hR hG hO
      refine hK.out _ _ ⟨J9.out.b.cell 2, J9.out.b.cell 0⟩ (fun hHeld => ?_)
      clear hK K
      refine norm_ (a' := ?_) ?_ ?_
      rotate_left
      · show Act.put _ (some 29) _ = _
        simp only [Act.put, List.setIfInBounds_toArray, List.set_cons_zero, List.set_cons_succ, i64_w, i32_w]
        rfl
      refine pure_ (i := 14) (N := some 30) (v := ?_) (a' := ?_) #[true, true, true, true, true, true, true, true, true, true, true, true, true, true, true, false, false] rfl rfl (by kernel_rfl) (fun _ _ _ h => h) (Or.inl ⟨by rfl, ?_⟩) ?_ ?_
      rotate_left
      · intro w'
        go_simp
        with_reducible rfl
      rotate_left
      · simp only [Act.put, List.setIfInBounds_toArray, List.set_cons_zero, List.set_cons_succ, i64_w, i32_w]
        rfl
      refine pure_ (i := 15) (N := some 31) (v := ?_) (a' := ?_) #[true, true, true, true, true, true, true, true, true, true, true, true, true, true, true, true, false] rfl rfl (by kernel_rfl) (fun _ _ _ h => h) (Or.inl ⟨by rfl, ?_⟩) ?_ ?_
      rotate_left
      · intro w'
        go_simp
        with_reducible rfl
      rotate_left
      · simp only [Act.put, List.setIfInBounds_toArray, List.set_cons_zero, List.set_cons_succ, i64_w, i32_w]
        rfl
      refine last_ (i := 16) (N := none) #[true, true, true, true, true, true, true, true, true, true, true, true, true, true, true, true, true] rfl rfl (by kernel_rfl) (by decide) (fun K hK => ?_)
      refine skip_ (w1 := ?_) (by rfl) rfl ?_ ?_
      rotate_left
      · go_simp
        rfl
      refine hK.out _ _ ?_
      clear hK K
      refine done_ (by kernel_rfl) ?_

      have d0 := J9.out.b.cell 0
      have d1 := J9.out.b.cell 1
      have d0f := J9.out.b.frozen 0
      have d1f := J9.out.b.frozen 1
      go_wp2
      go_ret
      have hr := R9.out
      rw [List.nil_append] at hr
      have hks := ((((Kept.refl w9 (fun k => k = g)).setCell (p := ⟨g, 2, none⟩) (.inl rfl) (.slice A9 m9 c9)).setCell (p := ⟨g, 0, none⟩) (.inl rfl) (.int .i64 i)).setCell (p := ⟨g, 1, none⟩) (.inl rfl) (.int .i64 t0))
      have hp := RAt.reset HH2.out J9.out.k hr (fun k e => V9.out k e) hks (((J9.out.b.set_ 2 _).set_ 0 _).set_ 1 _)
      exact ⟨rfl, (Kept.of_below HB2.out F).trans hp.1, hp.2.mono fun k hk h => grow_sub HB2.out.size h⟩
    · have HNW := Lib.hid (show ∀ t u, ((s.l.drop j).flatMap Ent.cells)[t]? = some u → (Wq.alloc (.cells #[] 44)).cell? ((⟨gb, j * 2, none⟩ : Addr).add t) = some u from fun t u hu => by
        have := H1.out.news (j * 2 + t) u (flat_cut s.l j s.l.length t u (by rw [List.take_of_length_le (by rw [List.length_drop]; omega)]; exact hu))
        rw [addr0] at this
        rw [Addr.add_lit, World.cell?_alloc_lt _ _ _ (by exact hgl0)]
        exact this)
      go_wp2_with (fail)
      refine start_ (n := 17) (S := fun w' => w'.cell? ⟨g, 2, none⟩ = some (.slice (some ⟨gb, 0, none⟩) s.l.length c) ∧ w'.cell? ⟨g, 0, none⟩ = some (.int .i64 s.base)) (ds := [16]) #[false, false, false, false, false, false, false, false, false, false, false, false, false, false, false, false, false] (by kernel_rfl) rfl rfl ⟨J0.out.drew.b.cell 2, J0.out.drew.b.cell 0⟩ (fun hHeld => ?_)
      refine pure_ (i := 0) (N := some 16) (v := ?_) (a' := ?_) #[true, false, false, false, false, false, false, false, false, false, false, false, false, false, false, false, false] rfl rfl (by kernel_rfl) (fun _ _ _ h => h) (Or.inl ⟨by rfl, ?_⟩) ?_ ?_
      rotate_left
      · intro w'
        go_simp
        with_reducible rfl
      rotate_left
      · simp only [Act.put, List.setIfInBounds_toArray, List.set_cons_zero, List.set_cons_succ, i64_w, i32_w]
        rfl
      refine pure_ (i := 2) (N := some 18) (v := ?_) (a' := ?_) #[true, false, true, false, false, false, false, false, false, false, false, false, false, false, false, false, false] rfl rfl (by kernel_rfl) (fun _ _ _ h => h) (Or.inl ⟨by rfl, ?_⟩) ?_ ?_
      rotate_left
      · intro w'
        go_simp
        with_reducible rfl
      rotate_left
      · simp only [Act.put, List.setIfInBounds_toArray, List.set_cons_zero, List.set_cons_succ, i64_w, i32_w]
        rfl
      refine pure_ (i := 3) (N := some 19) (v := ?_) (a' := ?_) #[true, false, true, true, false, false, false, false, false, false, false, false, false, false, false, false, false] rfl rfl (by kernel_rfl) (fun _ _ _ h => h) (Or.inl ⟨by rfl, ?_⟩) ?_ ?_
      rotate_left
      · intro w'
        go_simp
        with_reducible rfl
      rotate_left
      · simp only [Act.put, List.setIfInBounds_toArray, List.set_cons_zero, List.set_cons_succ, i64_w, i32_w]
        rfl
      refine pure_ (i := 4) (N := some 20) (v := ?_) (a' := ?_) #[true, false, true, true, true, false, false, false, false, false, false, false, false, false, false, false, false] rfl rfl (by kernel_rfl) (fun _ _ _ h => h) (Or.inl ⟨by rfl, ?_⟩) ?_ ?_
      rotate_left
      · intro w'
        go_simp
        with_reducible rfl
      rotate_left
      · simp only [Act.put, List.setIfInBounds_toArray, List.set_cons_zero, List.set_cons_succ, i64_w, i32_w]
        rfl
      refine pure_ (i := 6) (N := some 22) (v := ?_) (a' := ?_) #[true, false, true, true, true, false, true, false, false, false, false, false, false, false, false, false, false] rfl rfl (by kernel_rfl) (fun _ _ _ h => h) (Or.inl ⟨by rfl, ?_⟩) ?_ ?_
      rotate_left
      · intro w'
        go_simp
        with_reducible rfl
      rotate_left
      · simp only [Act.put, List.setIfInBounds_toArray, List.set_cons_zero, List.set_cons_succ, i64_w, i32_w]
        rfl
      refine pure_ (i := 7) (N := some 23) (v := ?_) (a' := ?_) #[true, false, true, true, true, false, true, true, false, false, false, false, false, false, false, false, false] rfl rfl (by kernel_rfl) (fun _ _ _ h => h) (Or.inl ⟨by rfl, ?_⟩) ?_ ?_
      rotate_left
      · intro w'
        go_simp
        with_reducible rfl
      rotate_left
      · simp only [Act.put, List.setIfInBounds_toArray, List.set_cons_zero, List.set_cons_succ, i64_w, i32_w]
        rfl
      refine pure_ (i := 8) (N := some 24) (v := ?_) (a' := ?_) #[true, false, true, true, true, false, true, true, true, false, false, false, false, false, false, false, false] rfl rfl (by kernel_rfl) (fun _ _ _ h => h) (Or.inl ⟨by rfl, ?_⟩) ?_ ?_
      rotate_left
      · intro w'
        go_simp
        with_reducible rfl
      rotate_left
      · simp only [Act.put, List.setIfInBounds_toArray, List.set_cons_zero, List.set_cons_succ, i64_w, i32_w]
        rfl
      refine pure_ (i := 9) (N := some 25) (v := ?_) (a' := ?_) #[true, false, true, true, true, false, true, true, true, true, false, false, false, false, false, false, false] rfl rfl (by kernel_rfl) (fun _ _ _ h => h) (Or.inl ⟨by rfl, ?_⟩) ?_ ?_
      rotate_left
      · intro w'
        go_simp
        with_reducible rfl
      rotate_left
      · simp only [Act.put, List.setIfInBounds_toArray, List.set_cons_zero, List.set_cons_succ, i64_w, i32_w]
        rfl
      refine take_ (i := 5) (N := some 21) (v := ?_) (a' := ?_) #[true, false, true, true, true, true, true, true, true, true, false, false, false, false, false, false, false] rfl rfl (by kernel_rfl) (fun _ _ _ h => h) (Or.inl ⟨by rfl, ?_⟩) hHeld ?_ ?_
      rotate_left
      · rintro w' ⟨s0, s1⟩
        go_simp
        with_reducible rfl
      rotate_left
      · simp only [Act.put, List.setIfInBounds_toArray, List.set_cons_zero, List.set_cons_succ, i64_w, i32_w]
        rfl
      refine take_ (i := 10) (N := some 26) (v := ?_) (a' := ?_) #[true, false, true, true, true, true, true, true, true, true, true, false, false, false, false, false, false] rfl rfl (by kernel_rfl) (fun _ _ _ h => h) (Or.inl ⟨by rfl, ?_⟩) hHeld ?_ ?_
      rotate_left
      · rintro w' ⟨s0, s1⟩
        go_simp
        with_reducible rfl
      rotate_left
      · simp only [Act.put, List.setIfInBounds_toArray, List.set_cons_zero, List.set_cons_succ, i64_w, i32_w]
        rfl
      refine pure_ (i := 11) (N := some 27) (v := ?_) (a' := ?_) #[true, false, true, true, true, true, true, true, true, true, true, true, false, false, false, false, false] rfl rfl (by kernel_rfl) (fun _ _ _ h => h) (Or.inl ⟨by rfl, ?_⟩) ?_ ?_
      rotate_left
      · intro w'
        go_simp
        with_reducible rfl
      rotate_left
      · simp only [Act.put, List.setIfInBounds_toArray, List.set_cons_zero, List.set_cons_succ, i64_w, i32_w]
        rfl
      refine pure_ (i := 12) (N := some 28) (v := ?_) (a' := ?_) #[true, false, true, true, true, true, true, true, true, true, true, true, true, false, false, false, false] rfl rfl (by kernel_rfl) (fun _ _ _ h => h) (Or.inl ⟨by rfl, ?_⟩) ?_ ?_
      rotate_left
      · intro w'
        go_simp
        with_reducible rfl
      rotate_left
      · simp only [Act.put, List.setIfInBounds_toArray, List.set_cons_zero, List.set_cons_succ, i64_w, i32_w]
        rfl
      refine one_ (i := 1) (N := some 17) #[true, true, true, true, true, true, true, true, true, true, true, true, true, false, false, false, false] rfl rfl (by kernel_rfl) (by decide) (fun K hK => ?_)
      refine value_ (w1 := ?_) (v := ?_) (by rfl) rfl ?_ ?_
      rotate_left 2
      · go_simp
        constructor
        · rfl
        · rfl
      have J1 := Lib.hid (J0.out.drew.alloc (.cells #[] 44))
      have E1 := Lib.hid (Row.empty Wq.drew 44 2 Ent.cells)
      refine hK.out _ _ ⟨J1.out.b.cell 2, J1.out.b.cell 0⟩ (fun hHeld => ?_)
      clear hK K
      refine norm_ (a' := ?_) ?_ ?_
      rotate_left
      · show Act.put _ (some 17) _ = _
        simp only [Act.put, List.setIfInBounds_toArray, List.set_cons_zero, List.set_cons_succ, i64_w, i32_w]
        rfl
      refine one_ (i := 13) (N := some 29) #[true, true, true, true, true, true, true, true, true, true, true, true, true, true, false, false, false] rfl rfl (by kernel_rfl) (by decide) (fun K hK => ?_)
      refine Row.append_step (by rfl) (.tmp 17) (.tmp 28) 36 44 (.agg #[.int .i64 0, .string ⟨#[]⟩]) 2 24 (by rfl) Try.underlying36 info_entries rfl (by decide) (by decide) (.slice (some ⟨Wq.heap.size, 0, none⟩) 0 0) [] (s.l.drop j) (by rfl) ⟨gb, j * 2, none⟩ (s.l.length - j) (c - j) (by rfl) E1.out HKK.out (fun _ => rfl) (fun t u hu => HNW.out t u hu) one_ent HBD.out ?_
      intro v9 w9 hR hG hO
      obtain ⟨A9, m9, c9, rfl⟩ := hR.some_slice
      have J9 := Lib.hid (J1.out.grownV hG (fun k e => by simp [Value.ownBlock] at e; omega))
      have R9 := Lib.hid hR
      have V9 := Lib.hid (own_ge (n := Wq.heap.size) (b := Wq.heap.size) hO ⟨rfl, Nat.le_refl _⟩ (by simp))
      have hc9 := J9.out.b.cell 2
      have hf9 := J9.out.b.frozen 2
      clear hR hG hO
      refine hK.out _ _ ⟨J9.out.b.cell 2, J9.out.b.cell 0⟩ (fun hHeld => ?_)
      clear hK K
      refine norm_ (a' := ?_) ?_ ?_
      rotate_left
      · show Act.put _ (some 29) _ = _
        simp only [Act.put, List.setIfInBounds_toArray, List.set_cons_zero, List.set_cons_succ, i64_w, i32_w]
        rfl
      refine pure_ (i := 14) (N := some 30) (v := ?_) (a' := ?_) #[true, true, true, true, true, true, true, true, true, true, true, true, true, true, true, false, false] rfl rfl (by kernel_rfl) (fun _ _ _ h => h) (Or.inl ⟨by rfl, ?_⟩) ?_ ?_
      rotate_left
      · intro w'
        go_simp
        with_reducible rfl
      rotate_left
      · simp only [Act.put, List.setIfInBounds_toArray, List.set_cons_zero, List.set_cons_succ, i64_w, i32_w]
        rfl
      refine pure_ (i := 15) (N := some 31) (v := ?_) (a' := ?_) #[true, true, true, true, true, true, true, true, true, true, true, true, true, true, true, true, false] rfl rfl (by kernel_rfl) (fun _ _ _ h => h) (Or.inl ⟨by rfl, ?_⟩) ?_ ?_
      rotate_left
      · intro w'
        go_simp
        with_reducible rfl
      rotate_left
      · simp only [Act.put, List.setIfInBounds_toArray, List.set_cons_zero, List.set_cons_succ, i64_w, i32_w]
        rfl
      refine last_ (i := 16) (N := none) #[true, true, true, true, true, true, true, true, true, true, true, true, true, true, true, true, true] rfl rfl (by kernel_rfl) (by decide) (fun K hK => ?_)
      refine skip_ (w1 := ?_) (by rfl) rfl ?_ ?_
      rotate_left
      · go_simp
        rfl
      refine hK.out _ _ ?_
      clear hK K
      refine done_ (by kernel_rfl) ?_

      have d0 := J9.out.b.cell 0
      have d1 := J9.out.b.cell 1
      have d0f := J9.out.b.frozen 0
      have d1f := J9.out.b.frozen 1
      go_wp2
      go_ret
      have hr := R9.out
      rw [List.nil_append] at hr
      have hks := ((((Kept.refl w9 (fun k => k = g)).setCell (p := ⟨g, 2, none⟩) (.inl rfl) (.slice A9 m9 c9)).setCell (p := ⟨g, 0, none⟩) (.inl rfl) (.int .i64 i)).setCell (p := ⟨g, 1, none⟩) (.inl rfl) (.int .i64 t0))
      have hp := RAt.reset HH2.out J9.out.k hr (fun k e => V9.out k e) hks (((J9.out.b.set_ 2 _).set_ 0 _).set_ 1 _)
      exact ⟨rfl, (Kept.of_below HB2.out F).trans hp.1, hp.2.mono fun k hk h => grow_sub HB2.out.size h⟩
end Go.Proofs.Ytpimpdgibcjbeaa
