import Derived.Test.YtpimpdgibcjbeaaRlZb
namespace Go.Proofs.Ytpimpdgibcjbeaa
open Go Go.RowKit
set_option linter.unusedVariables false
set_option linter.unusedSimpArgs false

/-! What is agreed: plain. -/
def atLeast (x : Int) (zs : List Int) : Nat := zs.countP fun y => decide (x ≤ y)
theorem isort_perm (zs : List Int) : (isort zs).Perm zs := List.mergeSort_perm ..
theorem isort_sorted (zs : List Int) : (isort zs).Pairwise (fun a b => a ≤ b) := by
  have := List.pairwise_mergeSort (le := fun x y : Int => decide (x ≤ y)) (fun a b c h1 h2 => by simp only [decide_eq_true_eq] at *; omega) (fun a b => by simp only [Bool.or_eq_true, decide_eq_true_eq]; omega) zs
  exact this.imp (fun h => by simpa using h)
theorem med_count (zs : List Int) (x : Int) (hp : 0 < zs.length) (hx : x ≤ medZ zs) : zs.length < 2 * atLeast x zs := by
  have hl := isort_length zs
  have h1 : atLeast x zs = atLeast x (isort zs) := ((isort_perm zs).countP_eq _).symm
  have h2 : atLeast x ((isort zs).drop ((zs.length - 1) / 2)) = ((isort zs).drop ((zs.length - 1) / 2)).length := by
    unfold atLeast
    rw [List.countP_eq_length]
    intro y hy
    obtain ⟨i, hi, rfl⟩ := List.mem_iff_getElem.1 hy
    rw [List.length_drop] at hi
    rw [List.getElem_drop]
    have hm : medZ zs = (isort zs)[(zs.length - 1) / 2]'(by omega) := by unfold medZ; rw [List.getElem?_eq_getElem (by omega)]; rfl
    rw [hm] at hx
    simp only [decide_eq_true_eq]
    rcases Nat.eq_zero_or_pos i with h0 | h0
    · subst h0; simpa using hx
    · exact Int.le_trans hx ((List.pairwise_iff_getElem.1 (isort_sorted zs)) _ _ (by omega) (by omega) (by omega))
  have h3 : atLeast x ((isort zs).drop ((zs.length - 1) / 2)) ≤ atLeast x (isort zs) := (List.drop_sublist _ _).countP_le
  rw [List.length_drop] at h2
  omega
theorem atLeast_mono (fa fb : Nat → Int) (k : Nat) (h : ∀ i, fa i ≤ fb i) (x : Int) : atLeast x (upto fa k) ≤ atLeast x (upto fb k) := by
  induction k with
  | zero => exact Nat.le_refl _
  | succ k ih =>
    rw [upto_succ, upto_succ]
    unfold atLeast at *
    rw [List.countP_append, List.countP_append]
    have : List.countP (fun y => decide (x ≤ y)) [fa k] ≤ List.countP (fun y => decide (x ≤ y)) [fb k] := by
      have hk := h k
      by_cases h1 : x ≤ fa k
      · have h2 : x ≤ fb k := Int.le_trans h1 hk
        simp [h1, h2]
      · simp [h1]
    omega
theorem agreedN_cases (L : List Ent) (hl : L.length ≤ 1000) (hv term commit : Int) (hc : 0 ≤ commit) (hcl : commit ≤ L.length) :
    (LogS.mk 0 0 L).agreedN hv term commit = commit ∨ (commit < (LogS.mk 0 0 L).agreedN hv term commit ∧ (LogS.mk 0 0 L).agreedN hv term commit ≤ L.length ∧ (LogS.mk 0 0 L).agreedN hv term commit ≤ hv ∧ (LogS.mk 0 0 L).termAt ((LogS.mk 0 0 L).agreedN hv term commit) = (term, 0)) := by
  unfold LogS.agreedN
  split
  · rename_i x hx
    right
    have hp := List.find?_some hx
    obtain ⟨k, hk, rfl⟩ := mem_upto.1 (List.mem_of_find?_eq_some hx)
    have hk2 : k < L.length ∧ commit < L.length - k := by
      unfold cntD LogS.last at hk
      simp only at hk
      omega
    rw [dn_at (LogS.mk 0 0 L) k (Int.le_refl 0) (by show (0 : Int) + L.length ≤ _; omega) hk2.1] at hp ⊢
    have hlast : (LogS.mk 0 0 L).last = L.length := by unfold LogS.last; simp
    simp only [Bool.and_eq_true, decide_eq_true_eq] at hp
    dsimp only
    rw [hlast] at hp ⊢
    refine ⟨hk2.2, by omega, hp.1, ?_⟩
    rw [termAt_eq (LogS.mk 0 0 L) (L.length - k) _ (by simp only; omega) (by simp)]
    obtain ⟨i, hi⟩ : ∃ i, L.length - 1 - k = i := ⟨_, rfl⟩
    have hil : i < L.length := by omega
    rw [show L.length - k = i + 1 by omega]
    rw [← List.take_append_getElem hil, lastT_snoc]
    simp only [hi, List.getElem?_eq_getElem hil, Option.getD_some] at hp
    rw [hp.2]
  · exact .inl rfl
/-- The two answers. -/
theorem agreed_law (L : List Ent) (hl : L.length ≤ 1000) (fa fb : Nat → Int) (k : Nat) (hk : 0 < k) (hab : ∀ i, fa i ≤ fb i) (term n m : Int) (hn : (LogS.mk 0 0 L).agreed (upto fa k) term 0 = (n, 0)) (hm : (LogS.mk 0 0 L).agreed (upto fb k) term n = (m, 0)) :
    n ≤ m ∧ m ≤ L.length ∧ 0 ≤ n ∧ (n ≠ 0 → k < 2 * atLeast n (upto fa k) ∧ (LogS.mk 0 0 L).termAt n = (term, 0)) ∧ (m ≠ 0 → k < 2 * atLeast m (upto fb k) ∧ (LogS.mk 0 0 L).termAt m = (term, 0)) := by
  have hla : 0 < (upto fa k).length := by rw [upto_length]; exact hk
  have hlb : 0 < (upto fb k).length := by rw [upto_length]; exact hk
  unfold LogS.agreed at hn hm
  rw [if_neg (by rintro (h | h); exact absurd h (List.length_pos_iff.1 hla); omega)] at hn
  have hn' : (LogS.mk 0 0 L).agreedN (medZ (upto fa k)) term 0 = n := (Prod.mk.inj hn).1
  have cn := agreedN_cases L hl (medZ (upto fa k)) term 0 (Int.le_refl 0) (by omega)
  rw [hn'] at cn
  have hn0 : 0 ≤ n ∧ n ≤ L.length := by rcases cn with h | ⟨h1, h2, _⟩ <;> omega
  rw [if_neg (by rintro (h | h); exact absurd h (List.length_pos_iff.1 hlb); omega)] at hm
  have hm' : (LogS.mk 0 0 L).agreedN (medZ (upto fb k)) term n = m := (Prod.mk.inj hm).1
  have cm := agreedN_cases L hl (medZ (upto fb k)) term n hn0.1 hn0.2
  rw [hm'] at cm
  have pn : n ≠ 0 → k < 2 * atLeast n (upto fa k) ∧ (LogS.mk 0 0 L).termAt n = (term, 0) := by
    intro h0
    rcases cn with h | ⟨h1, h2, h3, h4⟩
    · exact absurd h h0
    · have := med_count (upto fa k) n hla h3
      rw [upto_length] at this
      exact ⟨this, h4⟩
  refine ⟨by rcases cm with h | h <;> omega, by rcases cm with h | h <;> omega, hn0.1, pn, ?_⟩
  intro h0
  rcases cm with h | ⟨h1, h2, h3, h4⟩
  · subst h
    obtain ⟨h1, h2⟩ := pn h0
    have := atLeast_mono fa fb k hab m
    exact ⟨by omega, h2⟩
  · have := med_count (upto fb k) m hlb h3
    rw [upto_length] at this
    exact ⟨this, h4⟩
end Go.Proofs.Ytpimpdgibcjbeaa
