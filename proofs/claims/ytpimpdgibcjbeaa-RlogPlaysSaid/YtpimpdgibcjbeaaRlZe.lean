import Derived.Test.YtpimpdgibcjbeaaRlZd
namespace Go.Proofs.Ytpimpdgibcjbeaa
open Go Go.RowKit
set_option linter.unusedVariables false
set_option linter.unusedSimpArgs false

/-! Logs that match: plain. -/
def own3 : ByteArray := ⟨#[111, 119, 110]⟩
def ownE (tj : Int) : Ent := ⟨tj + 1000, own3⟩
/-- The log behind m entries of the other one. -/
def mergedL (L : List Ent) (j q : Nat) (tj : Int) (m : Nat) : List Ent := if m = 0 then L.take j ++ List.replicate q (ownE tj) else L.take (j + m)
theorem agree_take_take (X : List Ent) (i k : Nat) (hik : i ≤ k) (hi : i ≤ X.length) : agree (X.take i) (X.take k) = i := by
  induction X generalizing i k with
  | nil => obtain rfl : i = 0 := by simpa using hi
           cases k <;> simp [agree]
  | cons x X ih =>
    cases i with
    | zero => cases k <;> simp [agree]
    | succ i =>
      obtain ⟨k, rfl⟩ : ∃ k', k = k' + 1 := ⟨k - 1, by omega⟩
      simp only [List.take_succ_cons, agree, if_true]
      rw [ih i k (by omega) (by simpa using hi)]
theorem mergedL_take (L : List Ent) (j q : Nat) (tj : Int) (m : Nat) (hj : j ≤ L.length) : (mergedL L j q tj m).take j = L.take j := by
  unfold mergedL
  split
  · rw [List.take_append_of_le_length (by rw [List.length_take]; omega), List.take_take, Nat.min_self]
  · rw [List.take_take, Nat.min_eq_left (by omega)]
theorem mergedL_head (L : List Ent) (j q : Nat) (tj : Int) (m : Nat) (hj : j + m ≤ L.length) : (mergedL L j q tj m).take (j + m) = L.take (j + m) := by
  unfold mergedL
  split
  · rename_i h; subst h
    rw [Nat.add_zero, List.take_append_of_le_length (by rw [List.length_take]; omega), List.take_take, Nat.min_self]
  · rw [List.take_take, Nat.min_self]
theorem mergedL_drop (L : List Ent) (j q : Nat) (tj : Int) (m : Nat) (hj : j + m ≤ L.length) : ((mergedL L j q tj m).drop j).take m = (L.drop j).take m := by
  have h := mergedL_head L j q tj m hj
  have e : ∀ X : List Ent, (X.drop j).take m = (X.take (j + m)).drop j := fun X => by rw [List.drop_take]; congr 1; omega
  rw [e, e, h]
theorem mergedL_length (L : List Ent) (j q : Nat) (tj : Int) (m : Nat) (hj : j + m ≤ L.length) : (mergedL L j q tj m).length = if m = 0 then j + q else j + m := by
  unfold mergedL
  split
  · simp; omega
  · simp; omega
theorem risen_rep (t : Int) (q : Nat) (x : Ent) (h : t ≤ x.term) : risen t (List.replicate q x) = true := by
  induction q generalizing t with
  | zero => rfl
  | succ q ih => simp only [List.replicate_succ, risen, ih _ (Int.le_refl _), Bool.and_true, decide_eq_true_eq]; exact h
theorem mergedL_good (L : List Ent) (j q : Nat) (m : Nat) (hg : Good 0 L) (hb : lastT 0 (L.take j) ≤ 1000) : Good 0 (mergedL L j q (lastT 0 (L.take j)) m) := by
  unfold mergedL
  split
  · refine ⟨fun x hx => ?_, ?_⟩
    · rcases List.mem_append.1 hx with h | h
      · exact hg.each x (List.mem_of_mem_take h)
      · obtain rfl := List.eq_of_mem_replicate h
        have h0 := lastT_ge (hg.take j).rise
        refine ⟨?_, by simp [ownE, own3, ByteArray.size]⟩
        show (decide (1 ≤ lastT 0 (L.take j) + 1000) && decide (lastT 0 (L.take j) + 1000 ≤ 1073741824)) = true
        rw [decide_eq_true (by omega), decide_eq_true (by omega)]
        rfl
    · rw [risen_append, (hg.take j).rise, risen_rep _ _ _ (by show lastT 0 (L.take j) ≤ lastT 0 (L.take j) + 1000; omega)]
      rfl
  · exact hg.take _
theorem merge_next (L : List Ent) (j q m : Nat) (hg : Good 0 L) (hlen : L.length ≤ 1000) (hq : q ≤ 100) (hj : j + m ≤ L.length) (hb : ∀ x ∈ L, x.term ≤ 999) (hb2 : lastT 0 (L.take j) ≤ 1000) :
    ∃ cut, (LogS.mk 0 0 (mergedL L j q (lastT 0 (L.take j)) (m - 1))).merge j (lastT 0 (L.take j)) ((L.drop j).take m) = (⟨0, 0, mergedL L j q (lastT 0 (L.take j)) m⟩, (j : Int) + m, cut, 0) := by
  obtain ⟨tj, htj⟩ : ∃ tj, lastT 0 (L.take j) = tj := ⟨_, rfl⟩
  have hlm : ((L.drop j).take m).length = m := by rw [List.length_take, List.length_drop]; omega
  rcases Nat.eq_zero_or_pos m with h0 | h0
  · subst h0
    have h1 := merge_again ⟨0, 0, mergedL L j q (lastT 0 (L.take j)) 0⟩ j 0 (j : Int) (mergedL_good L j q 0 hg hb2) (by show j ≤ (mergedL L j q _ 0).length; rw [mergedL_length _ _ _ _ _ hj, if_pos rfl]; omega) (by simp) (Int.le_refl 0) (by show (0 : Int) + (mergedL L j q _ 0).length ≤ _; rw [mergedL_length _ _ _ _ _ hj, if_pos rfl]; omega)
    dsimp only at h1
    rw [mergedL_take L j q _ 0 (by omega)] at h1
    simp only [List.take_zero, List.length_nil] at h1
    exact ⟨0, by simpa using h1⟩
  · obtain ⟨p, rfl⟩ : ∃ p, m = p + 1 := ⟨m - 1, by omega⟩
    have ht := termAt_eq ⟨0, 0, mergedL L j q (lastT 0 (L.take j)) (p + 1 - 1)⟩ j (j : Int) (by simp) (by show j ≤ (mergedL L j q _ _).length; rw [mergedL_length _ _ _ _ _ (by omega)]; split <;> omega)
    dsimp only at ht
    rw [mergedL_take L j q _ _ (by omega)] at ht
    have hw := ((hg.drop j).take (p + 1)).wrong (j : Int) (by rw [hlm]; omega)
    have hag : agree ((mergedL L j q (lastT 0 (L.take j)) (p + 1 - 1)).drop j) ((L.drop j).take (p + 1)) = p := by
      rw [Nat.add_sub_cancel]
      unfold mergedL
      split
      · rename_i h; subst h
        rw [List.drop_append_of_le_length (by rw [List.length_take]; omega), List.drop_of_length_le (by rw [List.length_take]; omega), List.nil_append]
        have hjl : j < L.length := by omega
        rw [List.drop_eq_getElem_cons hjl]
        cases q with
        | zero => simp [agree]
        | succ q =>
          simp only [List.replicate_succ, List.take_succ_cons, agree]
          have h1 := hb _ (List.getElem_mem hjl)
          have h2 := lastT_ge (hg.take j).rise
          have h3 := (hg.each _ (List.getElem_mem hjl)).1
          have h4 := risen_drop hg.rise j
          rw [List.drop_eq_getElem_cons hjl] at h4
          simp only [risen, Bool.and_eq_true, decide_eq_true_eq] at h4
          have h5 : 1 ≤ (L[j]).term := by
            unfold mayT at h3
            simp only [Bool.and_eq_true, decide_eq_true_eq] at h3
            exact h3.1
          rw [if_neg]
          show ¬ (lastT 0 (L.take j) + 1000 = (L[j]).term)
          intro e
          omega
      · rw [List.drop_take, show j + p - j = p by omega]
        exact agree_take_take (L.drop j) p (p + 1) (by omega) (by rw [List.length_drop]; omega)
    refine ⟨max 0 (((mergedL L j q (lastT 0 (L.take j)) (p + 1 - 1)).length : Int) - j - p), ?_⟩
    unfold LogS.merge
    rw [ht]
    simp only [ne_eq, not_true_eq_false, if_false, hw]
    rw [show ((j : Int) - 0).toNat = j by omega, hag, hlm, if_neg (by omega)]
    have hst : (mergedL L j q (lastT 0 (L.take j)) (p + 1 - 1)).take (j + p) ++ ((L.drop j).take (p + 1)).drop p = mergedL L j q (lastT 0 (L.take j)) (p + 1) := by
      rw [Nat.add_sub_cancel, mergedL_head L j q _ p (by omega)]
      unfold mergedL
      rw [if_neg (by omega)]
      have e : ((L.drop j).take (p + 1)).drop p = ((L.drop (j + p)).take 1) := by rw [List.drop_take, List.drop_drop]; congr 1; omega
      rw [e, show j + (p + 1) = (j + p) + 1 by omega]
      exact List.take_add.symm
    rw [hst]
theorem mergedL_snoc (L : List Ent) (j q : Nat) (hg : Good 0 L) (hlen : L.length ≤ 1000) (hq : q ≤ 100) (hj : j ≤ L.length) (hb2 : lastT 0 (L.take j) ≤ 1000) :
    (LogS.mk 0 0 (mergedL L j q (lastT 0 (L.take j)) 0)).app (ownE (lastT 0 (L.take j))) = (⟨0, 0, mergedL L j (q + 1) (lastT 0 (L.take j)) 0⟩, (j : Int) + q + 1, 0) := by
  have h0 := lastT_ge (hg.take j).rise
  have hl : (mergedL L j q (lastT 0 (L.take j)) 0).length = j + q := by rw [mergedL_length _ _ _ _ _ (by omega), if_pos rfl]
  have hlt : (LogS.mk 0 0 (mergedL L j q (lastT 0 (L.take j)) 0)).lastTerm ≤ lastT 0 (L.take j) + 1000 := by
    rw [lastTerm_eq]
    unfold mergedL
    rw [if_pos rfl, lastT_append]
    cases q with
    | zero => show lastT 0 (L.take j) ≤ _; omega
    | succ q =>
      rw [List.replicate_succ', lastT_snoc]
      exact Int.le_refl _
  unfold LogS.app
  rw [if_neg, if_neg, if_neg]
  · have : (LogS.mk 0 0 (mergedL L j q (lastT 0 (L.take j)) 0)).last = (j : Int) + q := by unfold LogS.last; simp only [hl]; omega
    rw [this]
    have e : mergedL L j q (lastT 0 (L.take j)) 0 ++ [ownE (lastT 0 (L.take j))] = mergedL L j (q + 1) (lastT 0 (L.take j)) 0 := by
      unfold mergedL
      rw [if_pos rfl, if_pos rfl, List.append_assoc, ← List.replicate_succ']
    rw [e]
  · rintro (h | h)
    · simp [ownE, own3, ByteArray.size] at h
    · unfold LogS.last at h
      simp only [hl] at h
      omega
  · show ¬ (lastT 0 (L.take j) + 1000 < _)
    omega
  · show ¬ ((decide (1 ≤ lastT 0 (L.take j) + 1000) && decide (lastT 0 (L.take j) + 1000 ≤ 1073741824)) = false)
    rw [decide_eq_true (by omega), decide_eq_true (by omega)]
    decide
theorem merge_new (L : List Ent) (j : Nat) (hg : Good 0 L) (hj : j ≤ L.length) (hlen : L.length ≤ 1000) : ∃ a c, (LogS.mk 0 0 []).merge 0 0 (L.take j) = (⟨0, 0, L.take j⟩, a, c, 0) := by
  have hw := (hg.take j).wrong 0 (by rw [List.length_take]; omega)
  have ht := termAt_eq ⟨0, 0, []⟩ 0 0 (by simp) (by simp)
  unfold LogS.merge
  rw [ht]
  simp only [List.take_nil, lastT, ne_eq, not_true_eq_false, if_false, hw]
  have hag : agree (([] : List Ent).drop (((0 : Int) - 0).toNat)) (L.take j) = 0 := by simp; cases L.take j <;> rfl
  rw [hag]
  split
  · rename_i h
    have : L.take j = [] := List.eq_nil_of_length_eq_zero h.symm
    rw [this]
    exact ⟨_, _, rfl⟩
  · rw [show ([] : List Ent) ++ (L.take j).drop 0 = L.take j from rfl]
    exact ⟨_, _, rfl⟩
theorem grown_terms (f : Nat → Int) (n : Nat) (hn : n ≤ 40) : ∀ x ∈ grownL f n, x.term ≤ 999 := by
  induction n with
  | zero => simp [grownL]
  | succ n ih =>
    intro x hx
    simp only [grownL, List.mem_append, List.mem_singleton] at hx
    rcases hx with hx | rfl
    · exact ih (by omega) x hx
    · have := (grownT_bounds f (n + 1)).2
      show grownT f (n + 1) ≤ 999
      omega
theorem lastT_le {L : List Ent} {t b : Int} (ht : t ≤ b) (h : ∀ x ∈ L, x.term ≤ b) : lastT t L ≤ b := by
  induction L generalizing t with
  | nil => exact ht
  | cons x L ih => exact ih (h x (by simp)) (fun y hy => h y (by simp [hy]))
end Go.Proofs.Ytpimpdgibcjbeaa
