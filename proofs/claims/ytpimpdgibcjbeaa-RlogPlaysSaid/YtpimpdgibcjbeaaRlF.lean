import Derived.Test.YtpimpdgibcjbeaaRlE
namespace Go.Proofs.Ytpimpdgibcjbeaa
open Go Go.RowKit
set_option linter.unusedVariables false
set_option linter.unusedSimpArgs false

theorem log_slice_index (F : Nat → Prop) (g : Nat) (s : LogS) (i m : Int) (w : World) (h : LogAt w F g s) (hb0 : 0 ≤ s.base) (hb1 : s.base ≤ 1048576) (hl : s.l.length ≤ 1048576) (hi : i ≤ s.base ∨ s.base + s.l.length + 1 < i) :
    Calls Try.prog 15 #[.pointer (some ⟨g, 0, none⟩), .int .i64 i, .int .i64 m] w fun e w' => e = .returned (.tuple #[.slice none 0 0, .int .i64 140]) ∧ Below w.heap.size w w' := by
  obtain ⟨vl, hb, r1, hg, f1⟩ := h
  have hlt := hb.lt
  have c0 := hb.cell 0
  have c2 := hb.cell 2
  obtain ⟨A, c, rfl⟩ := r1.shape
  have hw : IntKind.i64.wrap (s.base + (s.l.length : Int)) = s.base + (s.l.length : Int) := by rw [IntKind.wrap_i64]; omega
  have hw2 : IntKind.i64.wrap (s.base + (s.l.length : Int) + 1) = s.base + (s.l.length : Int) + 1 := by rw [IntKind.wrap_i64]; omega
  by_cases h1 : i ≤ s.base
  · have q1 : decide (i ≤ s.base) = true := decide_eq_true h1
    clear hb r1 hi
    go_enter Try.func15, Try.ntmps15
    go_wp2_with (fail)
    go_quiet (fail)
    go_wp2
    go_ret2
    exact ⟨rfl, pw_drewN (Below.refl _ _) _⟩
  · have h2 : s.base + (s.l.length : Int) + 1 < i := by omega
    have q1 : decide (i ≤ s.base) = false := decide_eq_false h1
    have q2 : decide (s.base + (s.l.length : Int) + 1 < i) = true := decide_eq_true h2
    clear hb r1 hi
    go_enter Try.func15, Try.ntmps15
    go_wp2_with (fail)
    go_quiet (fail)
    go_wp2
    go_ret2
    exact ⟨rfl, pw_drewN (Below.refl _ _) _⟩
/-- What Slice gives: at most k entries from place j on. -/
def LogS.cutAt (s : LogS) (j k : Nat) : List Ent := (s.l.drop j).take k
theorem flat_len (l : List Ent) : (l.flatMap Ent.cells).length = l.length * 2 := by
  induction l with
  | nil => rfl
  | cons x l ih => rw [List.flatMap_cons, List.length_append, ih]; simp only [Ent.cells, List.length_cons, List.length_nil]; omega
theorem flat_cut (l : List Ent) (j k t : Nat) (u : Value) (h : (((l.drop j).take k).flatMap Ent.cells)[t]? = some u) : (l.flatMap Ent.cells)[j * 2 + t]? = some u := by
  by_cases hj : j ≤ l.length
  · have ht := (List.getElem?_eq_some_iff.1 h).1
    have hl : ((l.take j).flatMap Ent.cells).length = j * 2 := by rw [flat_len, List.length_take, Nat.min_eq_left hj]
    have h1 : l = l.take j ++ ((l.drop j).take k ++ (l.drop j).drop k) := by rw [List.take_append_drop, List.take_append_drop]
    have e : l.flatMap Ent.cells = (l.take j).flatMap Ent.cells ++ (((l.drop j).take k).flatMap Ent.cells ++ ((l.drop j).drop k).flatMap Ent.cells) := by
      conv => lhs; rw [h1]
      rw [List.flatMap_append, List.flatMap_append]
    rw [e, List.getElem?_append_right (by omega), hl, show j * 2 + t - j * 2 = t by omega, List.getElem?_append_left ht]
    exact h
  · rw [List.drop_eq_nil_of_le (by omega)] at h
    simp at h
set_option maxHeartbeats 2000000 in
theorem log_slice_ok (F : Nat → Prop) (g : Nat) (s : LogS) (j k : Nat) (i m : Int) (w : World) (h : LogAt w F g s) (hb0 : 0 ≤ s.base) (hb1 : s.base ≤ 1048576) (hl : s.l.length ≤ 1048576) (hj : i = s.base + j + 1) (hjl : j ≤ s.l.length) (hm0 : 0 ≤ m) (hk : (k : Int) = min m ((s.l.length : Int) - j)) :
    Calls Try.prog 15 #[.pointer (some ⟨g, 0, none⟩), .int .i64 i, .int .i64 m] w fun e w' => ∃ v', e = .returned (.tuple #[v', .int .i64 0]) ∧ Row w' 44 2 Ent.cells v' (s.cutAt j k) ∧ Below w.heap.size w w' ∧ ∀ k, v'.ownBlock = some k → w.heap.size ≤ k := by
  obtain ⟨vl, hb, r1, hg, f1⟩ := h
  have hlt := hb.lt
  have c0 := hb.cell 0
  have c2 := hb.cell 2
  have hw : IntKind.i64.wrap (s.base + (s.l.length : Int)) = s.base + (s.l.length : Int) := by rw [IntKind.wrap_i64]; omega
  have hw2 : IntKind.i64.wrap (s.base + (s.l.length : Int) + 1) = s.base + (s.l.length : Int) + 1 := by rw [IntKind.wrap_i64]; omega
  have hw3 : IntKind.i64.wrap (i - s.base) = i - s.base := by rw [IntKind.wrap_i64]; omega
  have hw4 : IntKind.i64.wrap (i - s.base - 1) = (j : Int) := by rw [IntKind.wrap_i64]; omega
  have q1 : decide (i ≤ s.base) = false := decide_eq_false (by omega)
  have q2 : decide (s.base + (s.l.length : Int) + 1 < i) = false := decide_eq_false (by omega)
  have j1 : (j : Int) ≤ (s.l.length : Int) := by omega
  have R1 := Lib.hid r1
  have HK := Lib.hid hk
  have HJ := Lib.hid hj
  clear hb hk hj
  have hlen : (s.cutAt j k).length = k := by unfold LogS.cutAt; rw [List.length_take, List.length_drop]; have := HK.out; omega
  rcases r1.2 with ⟨rfl, h0⟩ | ⟨gb, c, cur, rfl, hcb, hgb, hcl, hcm, _⟩
  · obtain rfl : k = 0 := by have := HK.out; omega
    obtain rfl : j = 0 := by omega
    have e0 : s.cutAt 0 0 = [] := by unfold LogS.cutAt; simp
    rw [e0]
    have HH0 := Lib.hid h0
    have HM0 := Lib.hid hm0
    have n2 : (s.l.length : Int) ≤ 0 := by omega
    rw [h0] at hw hw2 q2
    simp only [Int.natCast_zero, Int.cast_ofNat_Int, Int.add_zero] at hw hw2 q2 hw4
    clear r1 h0 hlen e0 n2 j1 hjl hl
    go_enter Try.func15, Try.ntmps15
    go_wp2_with (fail)
    go_quiet (fail)
    go_wp2_with (fail)
    go_quiet (fail)
    go_wp2_with (fail)
    all_goals
      try rw [show m.toNat = 0 by omega]
      refine (clone_none _).mono ?_
      rintro e w' ⟨rfl, hw'⟩
      obtain rfl := hw'
      go_wp2
      go_ret2
      exact ⟨_, rfl, Row.nil_ .., pw_drewN (Below.refl _ _) _, by simp [Value.ownBlock]⟩
  · have hgl : gb < w.heap.size := (Array.getElem?_eq_some_iff.1 hgb).1
    have hnews := Lib.hid (show ∀ t u, ((s.cutAt j k).flatMap Ent.cells)[t]? = some u → w.cell? ⟨gb, j * 2 + t, none⟩ = some u from fun t u hu => by
      have := R1.out.news (j * 2 + t) u (flat_cut s.l j k t u hu)
      rw [addr0] at this
      exact this)
    have hcm2 : c ≤ 9223372036854775807 := by unfold maxLen at hcm; omega
    have HCJ := Lib.hid hcl
    have j2 : (j : Int) ≤ (c : Int) := by omega
    have n2 : (s.l.length : Int) ≤ (c : Int) := by omega
    have HL := Lib.hid hlen
    have HM0 := Lib.hid hm0
    clear r1 hgb hcm hcl hlen
    go_enter Try.func15, Try.ntmps15
    go_wp2_with (fail)
    go_quiet (fail)
    go_wp2_with (fail)
    go_quiet (fail)
    go_wp2_with (fail)
    all_goals
      first
        | (have e : m.toNat = (s.cutAt j k).length := by
             have h1 := HL.out
             have h2 := HK.out
             have h3 := HCJ.out
             omega
           rw [e])
        | (have e : s.l.length - j = (s.cutAt j k).length := by
             have h1 := HL.out
             have h2 := HK.out
             have h3 := HCJ.out
             omega
           rw [e])
      refine (clone_some _ _ _ _ (by simpa using hgl) (fun t u hu => ?_) (by have := HL.out; have := HK.out; omega)).mono ?_
      · first
          | (have := hnews.out t u hu
             unfold Addr.add
             split
             · rename_i h0; subst h0; simpa using this
             · simpa using this)
          | (exfalso
             have ht := (List.getElem?_eq_some_iff.1 hu).1
             rw [flat_len] at ht
             have h1 := HL.out
             have h2 := HK.out
             have h3 := HCJ.out
             omega)
      · rintro e w' ⟨v', rfl, hR, hb', hfr⟩
        go_wp2
        go_ret2
        exact ⟨v', rfl, hR, below_next (pw_drewN (Below.refl _ _) _) hb', fun k hk => by simpa using hfr k hk⟩
theorem log_slice_range (F : Nat → Prop) (g : Nat) (s : LogS) (i m : Int) (w : World) (h : LogAt w F g s) (hb0 : 0 ≤ s.base) (hb1 : s.base ≤ 1048576) (hl : s.l.length ≤ 1048576) (hi : ¬ (i ≤ s.base ∨ s.base + s.l.length + 1 < i)) (hm : m < 0) :
    Calls Try.prog 15 #[.pointer (some ⟨g, 0, none⟩), .int .i64 i, .int .i64 m] w fun e w' => e = .returned (.tuple #[.slice none 0 0, .int .i64 1]) ∧ Below w.heap.size w w' := by
  obtain ⟨vl, hb, r1, hg, f1⟩ := h
  have hlt := hb.lt
  have c0 := hb.cell 0
  have c2 := hb.cell 2
  obtain ⟨A, c, rfl⟩ := r1.shape
  have hw : IntKind.i64.wrap (s.base + (s.l.length : Int)) = s.base + (s.l.length : Int) := by rw [IntKind.wrap_i64]; omega
  have hw2 : IntKind.i64.wrap (s.base + (s.l.length : Int) + 1) = s.base + (s.l.length : Int) + 1 := by rw [IntKind.wrap_i64]; omega
  have q1 : decide (i ≤ s.base) = false := decide_eq_false (by omega)
  have q2 : decide (s.base + (s.l.length : Int) + 1 < i) = false := decide_eq_false (by omega)
  clear hb r1 hi
  go_enter Try.func15, Try.ntmps15
  go_wp2_with (fail)
  go_quiet (fail)
  go_wp2
  go_ret2
  exact ⟨rfl, pw_drewN (Below.refl _ _) _⟩
end Go.Proofs.Ytpimpdgibcjbeaa
