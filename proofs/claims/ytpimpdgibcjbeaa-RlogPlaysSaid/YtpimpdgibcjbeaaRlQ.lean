import Derived.Test.YtpimpdgibcjbeaaRlP
namespace Go.Proofs.Ytpimpdgibcjbeaa
open Go Go.RowKit
set_option linter.unusedVariables false
set_option linter.unusedSimpArgs false

theorem LogS.termAt_cases (s : LogS) (i : Int) : ((s.termAt i).2 = 140 ∧ (s.termAt i).1 = 0) ∨ ((s.termAt i).2 = 0 ∧ s.base ≤ i ∧ i ≤ s.base + s.l.length) := by
  unfold LogS.termAt
  split
  · exact .inl ⟨rfl, rfl⟩
  · rename_i h
    split
    · exact .inr ⟨rfl, by omega, by omega⟩
    · exact .inr ⟨rfl, by omega, by omega⟩
theorem wrongE_cases (prev term : Int) (l : List Ent) : wrongE prev term l = 1 ∨ wrongE prev term l = 150 ∨ wrongE prev term l = 2 ∨ (wrongE prev term l = 0 ∧ l.any (fun x => !mayT x.term) = false ∧ risen term l = true ∧ (l.length : Int) ≤ 1048576 - prev ∧ l.any (fun x => decide (4096 < x.data.size)) = false) := by
  unfold wrongE
  split
  · exact .inl rfl
  · rename_i h1
    split
    · exact .inr (.inl rfl)
    · rename_i h2
      split
      · exact .inr (.inr (.inl rfl))
      · rename_i h3
        refine .inr (.inr (.inr ⟨rfl, by simpa using h1, by simpa using h2, ?_, ?_⟩))
        · have : ¬ 1048576 - prev < (l.length : Int) := fun h => h3 (.inl h)
          omega
        · cases hq : l.any (fun x => decide (4096 < x.data.size)) with
          | false => rfl
          | true => exact absurd (.inr hq) h3
set_option maxRecDepth 100000 in
set_option maxHeartbeats 2000000 in
/-- Merge that is refused. -/
theorem log_merge_bad (F : Nat → Prop) (g : Nat) (s : LogS) (prev term : Int) (v : Value) (l : List Ent) (w : World) (h : LogAt w F g s) (hb0 : 0 ≤ s.base) (hl : s.base + s.l.length ≤ 1048576) (hS : Seg w Ent.cells v l) (hll : l.length ≤ 4611686018427387904)
    (hbad : (s.termAt prev).2 ≠ 0 ∨ (s.termAt prev).1 ≠ term ∨ wrongE prev term l ≠ 0) :
    Calls Try.prog 17 #[.pointer (some ⟨g, 0, none⟩), .int .i64 prev, .int .i64 term, v] w fun e w' => e = .returned (.tuple #[.int .i64 0, .int .i64 0, .int .i64 (s.merge prev term l).2.2.2]) ∧ Below w.heap.size w w' := by
  have hT := log_term F g s prev w h hb0 (by omega) (by omega)
  have hC := s.termAt_cases prev
  have hM : s.merge prev term l = if (s.termAt prev).2 ≠ 0 then (s, 0, 0, (s.termAt prev).2) else if (s.termAt prev).1 ≠ term then (s, 0, 0, 4) else (s, 0, 0, wrongE prev term l) := by
    unfold LogS.merge
    split
    · rfl
    · rename_i h1
      split
      · rfl
      · rename_i h2
        rw [if_pos (by rcases hbad with h | h | h <;> first | exact absurd h h1 | exact absurd h h2 | exact h)]
  obtain ⟨A, c, rfl, hlc, hcm⟩ := hS.shape
  have HS := Lib.hid hS
  have hW := wrong_calls prev term (.slice A l.length c) l
  generalize (s.termAt prev).1 = t1 at hT hC hM hbad
  generalize hq2 : (s.termAt prev).2 = t2 at hT hC hM hbad
  generalize hqm : s.merge prev term l = R at hM ⊢
  have HB := Lib.hid (show 0 ≤ s.base ∧ s.base + s.l.length ≤ 1048576 from ⟨hb0, hl⟩)
  clear hS h hl hb0 hq2 hqm
  rcases hC with ⟨rfl, rfl⟩ | ⟨rfl, h1, h2⟩
  · rw [if_pos (by decide)] at hM
    subst hM
    clear hbad
    go_enter Try.func17, Try.ntmps17
    go_wp2_with (fail)
    refine hT.mono ?_
    rintro e w2 ⟨rfl, hb2⟩
    clear hT
    go_wp2
    go_ret3
    exact ⟨rfl, hb2⟩
  · rw [if_neg (by simp)] at hM
    by_cases hx : t1 = term
    · subst hx
      rw [if_neg (by simp)] at hM
      have hn : wrongE prev t1 l ≠ 0 := by rcases hbad with h | h | h <;> first | exact absurd rfl h | exact h
      generalize wrongE prev t1 l = q at hM hW hn
      subst hM
      clear hbad
      go_enter Try.func17, Try.ntmps17
      go_wp2_with (fail)
      refine hT.mono ?_
      rintro e w2 ⟨rfl, hb2⟩
      have HB2 := Lib.hid hb2
      clear hT hb2
      go_wp2_with (fail)
      refine (hW w2 (by have := HB.out; omega) (HS.out.below HB2.out) hll).mono ?_
      rintro e w3 ⟨rfl, hb3⟩
      have HB3 := Lib.hid (below_next HB2.out hb3)
      clear hW hb3
      go_wp2
      go_ret3
      exact ⟨rfl, HB3.out⟩
    · rw [if_pos hx] at hM
      subst hM
      clear hbad
      go_enter Try.func17, Try.ntmps17
      go_wp2_with (fail)
      refine hT.mono ?_
      rintro e w2 ⟨rfl, hb2⟩
      clear hT
      go_wp2
      go_ret3
      exact ⟨rfl, hb2⟩
/-- Merge, whatever comes. -/
theorem log_merge (F : Nat → Prop) (g : Nat) (s : LogS) (prev term : Int) (v : Value) (l : List Ent) (w : World) (h : LogAt w F g s) (hb0 : 0 ≤ s.base) (hl : s.base + s.l.length ≤ 1048576) (hS : Seg w Ent.cells v l) (hll : l.length ≤ 4611686018427387904) :
    Calls Try.prog 17 #[.pointer (some ⟨g, 0, none⟩), .int .i64 prev, .int .i64 term, v] w fun e w' => e = .returned (.tuple #[.int .i64 (s.merge prev term l).2.1, .int .i64 (s.merge prev term l).2.2.1, .int .i64 (s.merge prev term l).2.2.2]) ∧ LogPost w F g (s.merge prev term l).1 w' := by
  by_cases hbad : (s.termAt prev).2 ≠ 0 ∨ (s.termAt prev).1 ≠ term ∨ wrongE prev term l ≠ 0
  · have e1 : (s.merge prev term l).1 = s ∧ (s.merge prev term l).2.1 = 0 ∧ (s.merge prev term l).2.2.1 = 0 := by
      unfold LogS.merge
      split
      · exact ⟨rfl, rfl, rfl⟩
      · rename_i h1
        split
        · exact ⟨rfl, rfl, rfl⟩
        · rename_i h2
          rw [if_pos (by rcases hbad with h | h | h <;> first | exact absurd h h1 | exact absurd h h2 | exact h)]
          exact ⟨rfl, rfl, rfl⟩
    rw [e1.1, e1.2.1, e1.2.2]
    refine (log_merge_bad F g s prev term v l w h hb0 hl hS hll hbad).mono ?_
    rintro e w' ⟨rfl, hb⟩
    exact ⟨rfl, .of_below h hb⟩
  · have h1 : (s.termAt prev).2 = 0 := Decidable.not_not.1 fun h => hbad (.inl h)
    have h2 : (s.termAt prev).1 = term := Decidable.not_not.1 fun h => hbad (.inr (.inl h))
    have h3 : wrongE prev term l = 0 := Decidable.not_not.1 fun h => hbad (.inr (.inr h))
    have h4 : s.base ≤ prev ∧ prev ≤ s.base + s.l.length := by
      rcases s.termAt_cases prev with h | h
      · rw [h.1] at h1; cases h1
      · exact h.2
    refine log_merge_ok F g s prev term v l (prev - s.base).toNat w h hb0 hl (by omega) (by omega) (Prod.ext h2 h1) h3 hS ?_
    rcases wrongE_cases prev term l with h | h | h | h
    · rw [h] at h3; cases h3
    · rw [h] at h3; cases h3
    · rw [h] at h3; cases h3
    · omega
end Go.Proofs.Ytpimpdgibcjbeaa
