import Derived.Test.YtpimpdgibcjbeaaRlX
namespace Go.Proofs.Ytpimpdgibcjbeaa
open Go Go.RowKit
set_option linter.unusedVariables false
set_option linter.unusedSimpArgs false

/-! Plain facts on lists of entries. -/
def lastT (t : Int) : List Ent → Int
  | [] => t
  | x :: l => lastT x.term l
theorem risen_append (a b : List Ent) (t : Int) : risen t (a ++ b) = (risen t a && risen (lastT t a) b) := by
  induction a generalizing t with
  | nil => simp [risen, lastT]
  | cons x a ih => simp [risen, lastT, ih, Bool.and_assoc]
theorem lastT_append (a b : List Ent) (t : Int) : lastT t (a ++ b) = lastT (lastT t a) b := by
  induction a generalizing t with
  | nil => rfl
  | cons x a ih => simp [lastT, ih]
theorem lastT_snoc (a : List Ent) (x : Ent) (t : Int) : lastT t (a ++ [x]) = x.term := by rw [lastT_append]; rfl
theorem risen_take {t : Int} {l : List Ent} (h : risen t l = true) (k : Nat) : risen t (l.take k) = true := by
  rw [← List.take_append_drop k l, risen_append, Bool.and_eq_true] at h
  exact h.1
theorem risen_drop {t : Int} {l : List Ent} (h : risen t l = true) (k : Nat) : risen (lastT t (l.take k)) (l.drop k) = true := by
  rw [← List.take_append_drop k l, risen_append, Bool.and_eq_true] at h
  exact h.2
theorem lastT_ge {t : Int} {l : List Ent} (h : risen t l = true) : t ≤ lastT t l := by
  induction l generalizing t with
  | nil => exact Int.le_refl _
  | cons x l ih =>
    simp only [risen, Bool.and_eq_true, decide_eq_true_eq] at h
    exact Int.le_trans h.1 (ih h.2)
theorem lastTerm_eq (s : LogS) : s.lastTerm = lastT s.term s.l := by
  rcases Nat.eq_zero_or_pos s.l.length with h | h
  · rw [LogS.lastTerm_nil h, List.eq_nil_of_length_eq_zero h]; rfl
  · obtain ⟨j, hj⟩ : ∃ j, s.l.length = j + 1 := ⟨s.l.length - 1, by omega⟩
    rw [LogS.lastTerm_at hj]
    have e : s.l = s.l.take j ++ [s.l[j]'(by omega)] := by
      rw [List.take_append_getElem, List.take_of_length_le (by omega)]
    conv => rhs; rw [e]
    rw [lastT_snoc]
theorem termAt_eq (s : LogS) (j : Nat) (i : Int) (hi : i = s.base + j) (hj : j ≤ s.l.length) : s.termAt i = (lastT s.term (s.l.take j), 0) := by
  unfold LogS.termAt
  rw [if_neg (by omega)]
  split
  · have : j = 0 := by omega
    subst this
    rw [List.take_zero]
    rfl
  · obtain ⟨k, rfl⟩ : ∃ k, j = k + 1 := ⟨j - 1, by omega⟩
    have e : (i - s.base - 1).toNat = k := by omega
    rw [e, List.getElem?_eq_getElem (by omega), ← List.take_append_getElem (by omega), lastT_snoc]
/-- Entries that may be: as many as there may be. -/
structure Good (t : Int) (L : List Ent) : Prop where
  each : ∀ x ∈ L, mayT x.term = true ∧ x.data.size ≤ 4096
  rise : risen t L = true
theorem Good.take {t : Int} {L : List Ent} (h : Good t L) (k : Nat) : Good t (L.take k) := ⟨fun x hx => h.each x (List.mem_of_mem_take hx), risen_take h.rise k⟩
theorem Good.drop {t : Int} {L : List Ent} (h : Good t L) (k : Nat) : Good (lastT t (L.take k)) (L.drop k) := ⟨fun x hx => h.each x (List.mem_of_mem_drop hx), risen_drop h.rise k⟩
theorem Good.wrong {t : Int} {L : List Ent} (h : Good t L) (prev : Int) (hl : prev + L.length ≤ 1048576) : wrongE prev t L = 0 := by
  unfold wrongE
  have h1 : L.any (fun x => !mayT x.term) = false := by
    rw [List.any_eq_false]
    intro x hx
    simp [(h.each x hx).1]
  have h2 : L.any (fun x => decide (4096 < x.data.size)) = false := by
    rw [List.any_eq_false]
    intro x hx
    have := (h.each x hx).2
    simp only [decide_eq_true_eq]
    omega
  rw [h1, h.rise, h2]
  simp only [Bool.false_eq_true, if_false, Bool.not_true, or_false]
  rw [if_neg (by omega)]
theorem agree_take (l : List Ent) (k : Nat) : agree l (l.take k) = (l.take k).length := by
  induction l generalizing k with
  | nil => simp [agree]
  | cons x l ih =>
    cases k with
    | zero => simp [agree]
    | succ k => simp only [List.take_succ_cons, agree, if_true, ih, List.length_cons]
/-- What is there already merges without a trace. -/
theorem merge_again (s : LogS) (j k : Nat) (prev : Int) (hg : Good s.term s.l) (hj : j ≤ s.l.length) (hp : prev = s.base + j) (hb : 0 ≤ s.base) (hl : s.base + s.l.length ≤ 1048576) :
    s.merge prev (lastT s.term (s.l.take j)) ((s.l.drop j).take k) = (s, prev + ((s.l.drop j).take k).length, 0, 0) := by
  have hw := ((hg.drop j).take k).wrong prev (by simp only [List.length_take, List.length_drop]; omega)
  unfold LogS.merge
  rw [termAt_eq s j prev hp hj]
  simp only [ne_eq, not_true_eq_false, if_false, hw]
  rw [show (prev - s.base).toNat = j by omega, agree_take, if_pos rfl]
theorem grown_good (f : Nat → Int) (n : Nat) (hn : n ≤ 40) : Good 0 (grownL f n) ∧ lastT 0 (grownL f n) ≤ grownT f n := by
  induction n with
  | zero => exact ⟨⟨by simp [grownL], rfl⟩, by show (0 : Int) ≤ 1; decide⟩
  | succ n ih =>
    obtain ⟨h1, h2⟩ := ih (by omega)
    have hb := grownT_bounds f (n + 1)
    have ha := amg_bounds (f n) 3 (by decide) (by decide)
    have h4 : grownT f n ≤ grownT f (n + 1) := by simp only [grownT]; omega
    refine ⟨⟨?_, ?_⟩, ?_⟩
    · intro x hx
      simp only [grownL, List.mem_append, List.mem_singleton] at hx
      rcases hx with hx | rfl
      · exact h1.each x hx
      · refine ⟨?_, by simp [gEnt, two, ByteArray.size]⟩
        show (decide (1 ≤ grownT f (n + 1)) && decide (grownT f (n + 1) ≤ 1073741824)) = true
        rw [decide_eq_true hb.1, decide_eq_true (by have := hb.2; omega)]
        rfl
    · simp only [grownL]
      rw [risen_append, h1.rise]
      simp only [risen, Bool.true_and, Bool.and_true, decide_eq_true_eq]
      exact Int.le_trans h2 h4
    · simp only [grownL]
      rw [lastT_snoc]
      exact Int.le_refl _
end Go.Proofs.Ytpimpdgibcjbeaa
