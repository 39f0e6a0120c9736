import Derived.Test.YtpimpdgibcjbeaaRlZl
namespace Go.Proofs.Ytpimpdgibcjbeaa
open Go Go.RowKit
set_option linter.unusedVariables false
set_option linter.unusedSimpArgs false

theorem ref_slice_index (F : Nat → Prop) (g : Nat) (s : LogS) (i m : Int) (w : World) (h : RAt w F g s) (hb0 : 0 ≤ s.base) (hb1 : s.base ≤ 1048576) (hl : s.l.length ≤ 1048576) (hi : i ≤ s.base ∨ s.base + s.l.length + 1 < i) :
    Calls Try.prog 35 #[.pointer (some ⟨g, 0, none⟩), .int .i64 i, .int .i64 m] w fun e w' => e = .returned (.tuple #[.slice none 0 0, .int .i64 140]) ∧ Below w.heap.size w w' := by
  obtain ⟨vl, hb, r1, hg, f1⟩ := h
  have hlt := hb.lt
  have c0 := hb.cell 0
  have c2 := hb.cell 2
  obtain ⟨A, c, rfl⟩ := r1.shape
  have hw : IntKind.i64.wrap (s.base + (s.l.length : Int)) = s.base + (s.l.length : Int) := by rw [IntKind.wrap_i64]; omega
  have hw2 : IntKind.i64.wrap (s.base + (s.l.length : Int) + 1) = s.base + (s.l.length : Int) + 1 := by rw [IntKind.wrap_i64]; omega
  by_cases h1 : i ≤ s.base
  · have q1 : decide (i ≤ s.base) = true := decide_eq_true h1
    clear hb r1 hi
    go_enter Try.func35, Try.ntmps35
    go_wp2_with (fail)
    go_quiet (fail)
    go_wp2
    go_ret2
    exact ⟨rfl, pw_drewN (Below.refl _ _) _⟩
  · have h2 : s.base + (s.l.length : Int) + 1 < i := by omega
    have q1 : decide (i ≤ s.base) = false := decide_eq_false h1
    have q2 : decide (s.base + (s.l.length : Int) + 1 < i) = true := decide_eq_true h2
    clear hb r1 hi
    go_enter Try.func35, Try.ntmps35
    go_wp2_with (fail)
    go_quiet (fail)
    go_wp2
    go_ret2
    exact ⟨rfl, pw_drewN (Below.refl _ _) _⟩
set_option maxRecDepth 100000 in
set_option maxHeartbeats 4000000 in
theorem ref_slice_ok (F : Nat → Prop) (g : Nat) (s : LogS) (j k : Nat) (i m : Int) (w : World) (h : RAt w F g s) (hb0 : 0 ≤ s.base) (hb1 : s.base ≤ 1048576) (hl : s.l.length ≤ 1048576) (hj : i = s.base + j + 1) (hjl : j ≤ s.l.length) (hm0 : 0 ≤ m) (hk : (k : Int) = min m ((s.l.length : Int) - j)) :
    Calls Try.prog 35 #[.pointer (some ⟨g, 0, none⟩), .int .i64 i, .int .i64 m] w fun e w' => ∃ v', e = .returned (.tuple #[v', .int .i64 0]) ∧ Row w' 44 2 Ent.cells v' (s.cutAt j k) ∧ Below w.heap.size w w' ∧ ∀ k, v'.ownBlock = some k → w.heap.size ≤ k := by
  obtain ⟨vl, hb, r1, hg, f1⟩ := h
  have hlt := hb.lt
  have c0 := hb.cell 0
  have c2 := hb.cell 2
  have hw : IntKind.i64.wrap (s.base + (s.l.length : Int)) = s.base + (s.l.length : Int) := by rw [IntKind.wrap_i64]; omega
  have hw2 : IntKind.i64.wrap (s.base + (s.l.length : Int) + 1) = s.base + (s.l.length : Int) + 1 := by rw [IntKind.wrap_i64]; omega
  have hw3 : IntKind.i64.wrap (i - s.base) = i - s.base := by rw [IntKind.wrap_i64]; omega
  have hw4 : IntKind.i64.wrap (i - s.base - 1) = (j : Int) := by rw [IntKind.wrap_i64]; omega
  have q1 : decide (i ≤ s.base) = false := decide_eq_false (by omega)
  have q2 : decide (s.base + (s.l.length : Int) + 1 < i) = false := decide_eq_false (by omega)
  have j1 : (j : Int) ≤ (s.l.length : Int) := by omega
  have R1 := Lib.hid r1
  have HK := Lib.hid hk
  have HJ := Lib.hid hj
  clear hb hk hj
  have hlen : (s.cutAt j k).length = k := by unfold LogS.cutAt; rw [List.length_take, List.length_drop]; have := HK.out; omega
  rcases r1.2 with ⟨rfl, h0⟩ | ⟨gb, c, cur, rfl, hcb, hgb, hcl, hcm, _⟩
  · obtain rfl : k = 0 := by have := HK.out; omega
    obtain rfl : j = 0 := by omega
    have e0 : s.cutAt 0 0 = [] := by unfold LogS.cutAt; simp
    rw [e0]
    have HH0 := Lib.hid h0
    rw [h0] at hw hw2 q2
    simp only [Int.natCast_zero, Int.cast_ofNat_Int, Int.add_zero] at hw hw2 q2 hw4
    have hmin : min m (0 : Int) = 0 := by omega
    have hmin2 : (min m (0 : Int)).toNat = 0 := by omega
    clear r1 h0 hlen e0 j1 hjl hl
    all_goals
      go_enter Try.func35, Try.ntmps35
      go_wp2_with (fail)
      go_quiet (fail)
      go_wp2_with (fail)
      go_quiet (fail)
      go_wp2_with (at_builtin; refine Row.appendRow_list (by rfl) (.tmp 44) (.tmp 50) 36 44 (.agg #[.int .i64 0, .string ⟨#[]⟩]) 2 24 rfl Try.underlying36 info_entries rfl (by decide) (by decide) (.slice (some ⟨w.heap.size, 0, none⟩) 0 0) (.slice none 0 0) [] [] rfl rfl (Row.empty _ _ 2 Ent.cells) (Row.nil_ ..) (fun _ => rfl) one_ent (by simp) ?_; intro v6 w6 hR hG hO)
      go_wp2
      go_ret2
      refine ⟨v6, rfl, by simpa using hR, ((pw_drewN (Below.refl _ w) _).alloc (Nat.le_refl _) _).grown hG (by simp) (fun q e => by simp [Value.ownBlock] at e; subst e; exact Nat.le_refl _), fun q e => ?_⟩
      have := own_ge (n := w.heap.size) (b := w.heap.size) hO ⟨rfl, Nat.le_refl _⟩ (by simp) q e
      exact this
  · have hgl : gb < w.heap.size := (Array.getElem?_eq_some_iff.1 hgb).1
    have hnews := Lib.hid (show ∀ t u, ((s.cutAt j k).flatMap Ent.cells)[t]? = some u → w.cell? ⟨gb, j * 2 + t, none⟩ = some u from fun t u hu => by
      have := R1.out.news (j * 2 + t) u (flat_cut s.l j k t u hu)
      rw [addr0] at this
      exact this)
    have hcm2 : c ≤ 9223372036854775807 := by unfold maxLen at hcm; omega
    have HCJ := Lib.hid hcl
    have j2 : (j : Int) ≤ (c : Int) := by omega
    have n2 : (s.l.length : Int) ≤ (c : Int) := by omega
    have HL := Lib.hid hlen
    have HCM := Lib.hid hcm2
    have hw9 : ((s.l.length - j : Nat) : Int) = (s.l.length : Int) - (j : Int) := by omega
    have HW9 := Lib.hid hw9
    clear r1 hgb hcm hcl hlen hw9
    by_cases hcj : c = j
    · subst hcj
      have HKK := Lib.hid (show (s.cutAt c k).length = (min m ((s.l.length - c : Nat) : Int)).toNat by have h1 := HL.out; have h2 := HK.out; omega)
      have HBD := Lib.hid (show (([] : List Ent).length + (min m ((s.l.length - c : Nat) : Int)).toNat) * 24 ≤ 140737488355328 by simp only [List.length_nil]; omega)
      have HNW := Lib.hid (show ∀ t u, ((s.cutAt c k).flatMap Ent.cells)[t]? = some u → (w.alloc (.cells #[] 44)).cell? ((⟨gb, 0, none⟩ : Addr).add t) = some u from fun t u hu => by
        exfalso
        have ht := (List.getElem?_eq_some_iff.1 hu).1
        rw [flat_len] at ht
        have h1 := HL.out
        have h2 := HK.out
        have h3 := HCJ.out
        omega)
      have hz : s.l.length - c = 0 := by omega
      have hmin : min m (0 : Int) = 0 := by omega
      have hmin2 : (min m (0 : Int)).toNat = 0 := by omega
      have HKK := Lib.hid (show (s.cutAt c k).length = 0 by have h1 := HL.out; have h2 := HK.out; omega)
      go_enter Try.func35, Try.ntmps35
      go_wp2_with (fail)
      go_quiet (fail)
      go_wp2_with (fail)
      go_quiet (fail)
      go_wp2_with (at_builtin; refine Row.append_list (by rfl) (.tmp 44) (.tmp 50) 36 44 (.agg #[.int .i64 0, .string ⟨#[]⟩]) 2 24 rfl Try.underlying36 info_entries rfl (by decide) (by decide) (.slice (some ⟨w.heap.size, 0, none⟩) 0 0) [] (s.cutAt c k) rfl ⟨gb, 0, none⟩ 0 0 rfl (Row.empty _ _ 2 Ent.cells) HKK.out (fun _ => rfl) HNW.out one_ent (by decide) ?_; intro v6 w6 hR hG hO)
      go_wp2
      go_ret2
      refine ⟨v6, rfl, by simpa using hR, ((pw_drewN (Below.refl _ w) _).alloc (Nat.le_refl _) _).grown hG (by simp) (fun q e => by simp [Value.ownBlock] at e; subst e; exact Nat.le_refl _), fun q e => ?_⟩
      have := own_ge (n := w.heap.size) (b := w.heap.size) hO ⟨rfl, Nat.le_refl _⟩ (by simp) q e
      exact this
    · have HKK := Lib.hid (show (s.cutAt j k).length = (min m ((s.l.length - j : Nat) : Int)).toNat by have h1 := HL.out; have h2 := HK.out; omega)
      have HBD := Lib.hid (show (([] : List Ent).length + (min m ((s.l.length - j : Nat) : Int)).toNat) * 24 ≤ 140737488355328 by simp only [List.length_nil]; omega)
      have HNW := Lib.hid (show ∀ t u, ((s.cutAt j k).flatMap Ent.cells)[t]? = some u → (w.alloc (.cells #[] 44)).cell? ((⟨gb, j * 2, none⟩ : Addr).add t) = some u from fun t u hu => by
        rw [Addr.add_lit, World.cell?_alloc_lt _ _ _ (by exact hgl)]
        exact hnews.out t u hu)
      have hk1 : (0 : Int) ≤ min m ((s.l.length - j : Nat) : Int) := by omega
      have hk2 : min m ((s.l.length - j : Nat) : Int) ≤ ((c - j : Nat) : Int) := by omega

      go_enter Try.func35, Try.ntmps35
      go_wp2_with (fail)
      go_quiet (fail)
      go_wp2_with (fail)
      go_quiet (fail)
      go_wp2_with (at_builtin; refine Row.append_list (by rfl) (.tmp 44) (.tmp 50) 36 44 (.agg #[.int .i64 0, .string ⟨#[]⟩]) 2 24 rfl Try.underlying36 info_entries rfl (by decide) (by decide) (.slice (some ⟨w.heap.size, 0, none⟩) 0 0) [] (s.cutAt j k) rfl ⟨gb, j * 2, none⟩ (min m ((s.l.length - j : Nat) : Int)).toNat (c - j) rfl (Row.empty _ _ 2 Ent.cells) HKK.out (fun _ => rfl) HNW.out one_ent HBD.out ?_; intro v6 w6 hR hG hO)
      go_wp2
      go_ret2
      refine ⟨v6, rfl, by simpa using hR, ((pw_drewN (Below.refl _ w) _).alloc (Nat.le_refl _) _).grown hG (by simp) (fun q e => by simp [Value.ownBlock] at e; subst e; exact Nat.le_refl _), fun q e => ?_⟩
      have := own_ge (n := w.heap.size) (b := w.heap.size) hO ⟨rfl, Nat.le_refl _⟩ (by simp) q e
      exact this
theorem ref_slice_range (F : Nat → Prop) (g : Nat) (s : LogS) (i m : Int) (w : World) (h : RAt w F g s) (hb0 : 0 ≤ s.base) (hb1 : s.base ≤ 1048576) (hl : s.l.length ≤ 1048576) (hi : ¬ (i ≤ s.base ∨ s.base + s.l.length + 1 < i)) (hm : m < 0) :
    Calls Try.prog 35 #[.pointer (some ⟨g, 0, none⟩), .int .i64 i, .int .i64 m] w fun e w' => e = .returned (.tuple #[.slice none 0 0, .int .i64 1]) ∧ Below w.heap.size w w' := by
  obtain ⟨vl, hb, r1, hg, f1⟩ := h
  have hlt := hb.lt
  have c0 := hb.cell 0
  have c2 := hb.cell 2
  obtain ⟨A, c, rfl⟩ := r1.shape
  have hw : IntKind.i64.wrap (s.base + (s.l.length : Int)) = s.base + (s.l.length : Int) := by rw [IntKind.wrap_i64]; omega
  have hw2 : IntKind.i64.wrap (s.base + (s.l.length : Int) + 1) = s.base + (s.l.length : Int) + 1 := by rw [IntKind.wrap_i64]; omega
  have q1 : decide (i ≤ s.base) = false := decide_eq_false (by omega)
  have q2 : decide (s.base + (s.l.length : Int) + 1 < i) = false := decide_eq_false (by omega)
  clear hb r1 hi
  go_enter Try.func35, Try.ntmps35
  go_wp2_with (fail)
  go_quiet (fail)
  go_wp2
  go_ret2
  exact ⟨rfl, pw_drewN (Below.refl _ _) _⟩
/-- Slice, its result by its list. -/
theorem ref_slice (F : Nat → Prop) (g : Nat) (s : LogS) (j n : Nat) (i m : Int) (l : List Ent) (w : World) (h : RAt w F g s) (hb0 : 0 ≤ s.base) (hb1 : s.base + s.l.length ≤ 1048576) (hj : i = s.base + j + 1) (hjl : j ≤ s.l.length) (hm0 : 0 ≤ m) (hl : (s.l.drop j).take m.toNat = l) (hn : l.length = n) :
    Calls Try.prog 35 #[.pointer (some ⟨g, 0, none⟩), .int .i64 i, .int .i64 m] w fun e w' => ∃ A c, e = .returned (.tuple #[.slice A n c, .int .i64 0]) ∧ Row w' 44 2 Ent.cells (.slice A n c) l ∧ Below w.heap.size w w' ∧ ∀ k, (Value.slice A n c).ownBlock = some k → w.heap.size ≤ k := by
  have hk : ((min m.toNat (s.l.length - j) : Nat) : Int) = min m ((s.l.length : Int) - j) := by omega
  have e : s.cutAt j (min m.toNat (s.l.length - j)) = l := by
    unfold LogS.cutAt
    rw [← hl, ← List.length_drop, ← List.take_eq_take_min]
  refine (ref_slice_ok F g s j _ i m w h hb0 (by omega) (by omega) hj hjl hm0 hk).mono ?_
  rintro e' w' ⟨v', rfl, hR, hb, hf⟩
  rw [e] at hR
  obtain ⟨A, c, rfl⟩ := hR.shape_n hn
  exact ⟨A, c, rfl, hR, hb, hf⟩
end Go.Proofs.Ytpimpdgibcjbeaa
