import Derived.Test.YtpimpdgibcjbeaaRlZi
namespace Go.Proofs.Ytpimpdgibcjbeaa
open Go Go.RowKit
set_option linter.unusedVariables false
set_option linter.unusedSimpArgs false

/-! Merge one by one: plain. -/
theorem agree_le1 (a b : List Ent) : agree a b ≤ a.length := by
  induction a generalizing b with
  | nil => cases b <;> simp [agree]
  | cons x a ih =>
    cases b with
    | nil => simp [agree]
    | cons y b =>
      simp only [agree]
      split
      · simp [ih]
      · simp
theorem agree_get (a b : List Ent) (k : Nat) (h : k < agree a b) : ∃ x y, a[k]? = some x ∧ b[k]? = some y ∧ x.term = y.term := by
  induction a generalizing b k with
  | nil => cases b <;> simp [agree] at h
  | cons x a ih =>
    cases b with
    | nil => simp [agree] at h
    | cons y b =>
      simp only [agree] at h
      split at h
      · rename_i e
        cases k with
        | zero => exact ⟨x, y, rfl, rfl, e⟩
        | succ k =>
          obtain ⟨x', y', h1, h2, h3⟩ := ih b k (by omega)
          exact ⟨x', y', by simpa using h1, by simpa using h2, h3⟩
      · omega
theorem agree_stop (a b : List Ent) (x y : Ent) (hx : a[agree a b]? = some x) (hy : b[agree a b]? = some y) : x.term ≠ y.term := by
  induction a generalizing b with
  | nil => simp at hx
  | cons u a ih =>
    cases b with
    | nil => simp at hy
    | cons v b =>
      simp only [agree] at hx hy
      split at hx
      · rename_i e
        rw [if_pos e] at hy
        exact ih b (by simpa using hx) (by simpa using hy)
      · rename_i e
        rw [if_neg e] at hy
        simp at hx hy
        rw [← hx, ← hy]
        exact e
/-- Behind k entries: the list, what was cut. -/
def RM (L : List Ent) (a : Nat) (es : List Ent) (k : Nat) : List Ent × Int :=
  if k ≤ agree (L.drop a) es then (L, 0) else (L.take (a + agree (L.drop a) es) ++ (es.drop (agree (L.drop a) es)).take (k - agree (L.drop a) es), max 0 ((L.length : Int) - a - agree (L.drop a) es))
theorem RM_zero (L : List Ent) (a : Nat) (es : List Ent) : RM L a es 0 = (L, 0) := by unfold RM; rw [if_pos (Nat.zero_le _)]
/-- The three kinds of a step. -/
theorem RM_step (L : List Ent) (a : Nat) (es : List Ent) (k : Nat) (x : Ent) (ha : a ≤ L.length) (hx : es[k]? = some x) :
    (RM L a es k = (L, 0) ∧ RM L a es (k + 1) = (L, 0) ∧ a + k < L.length ∧ ∃ y, L[a + k]? = some y ∧ y.term = x.term) ∨
    (RM L a es k = (L, 0) ∧ RM L a es (k + 1) = (L.take (a + k) ++ [x], ((L.length - (a + k) : Nat) : Int)) ∧ a + k < L.length ∧ ∃ y, L[a + k]? = some y ∧ y.term ≠ x.term) ∨
    ((RM L a es k).1.length = a + k ∧ RM L a es (k + 1) = ((RM L a es k).1 ++ [x], (RM L a es k).2)) := by
  obtain ⟨hk, hxx⟩ := List.getElem?_eq_some_iff.1 hx
  have h1 := agree_le1 (L.drop a) es
  rw [List.length_drop] at h1
  rcases Nat.lt_trichotomy k (agree (L.drop a) es) with h | h | h
  · left
    obtain ⟨y, z, hy, hz, e⟩ := agree_get _ _ _ h
    rw [List.getElem?_drop] at hy
    rw [hz] at hx
    injection hx with hx
    refine ⟨by unfold RM; rw [if_pos (by omega)], by unfold RM; rw [if_pos (by omega)], by omega, y, hy, by rw [e, hx]⟩
  · have e1 : RM L a es k = (L, 0) := by unfold RM; rw [if_pos (by omega)]
    have e2 : RM L a es (k + 1) = (L.take (a + k) ++ [x], max 0 ((L.length : Int) - a - k)) := by
      unfold RM
      rw [if_neg (by omega), ← h]
      have : (es.drop k).take (k + 1 - k) = [x] := by
        rw [List.drop_eq_getElem_cons hk, show k + 1 - k = 1 by omega, List.take_succ_cons, List.take_zero, hxx]
      rw [this]
    rcases Nat.lt_or_ge (a + k) L.length with hl | hl
    · right; left
      refine ⟨e1, by rw [e2]; congr 1; omega, hl, L[a + k], List.getElem?_eq_getElem hl, ?_⟩
      exact agree_stop (L.drop a) es _ x (by rw [← h, List.getElem?_drop]; exact List.getElem?_eq_getElem hl) (by rw [← h]; exact hx)
    · right; right
      rw [e1, e2]
      have : a + k = L.length := by omega
      refine ⟨this.symm, ?_⟩
      rw [List.take_of_length_le (by omega)]
      congr 1
      omega
  · right; right
    obtain ⟨i, hi⟩ : ∃ i, agree (L.drop a) es = i := ⟨_, rfl⟩
    rw [hi] at h h1
    have e1 : ∀ j, i < j → RM L a es j = (L.take (a + i) ++ (es.drop i).take (j - i), max 0 ((L.length : Int) - a - i)) := fun j hj => by
      unfold RM; rw [hi, if_neg (by omega)]
    rw [e1 k h, e1 (k + 1) (by omega)]
    refine ⟨by simp only [List.length_append, List.length_take, List.length_drop]; omega, ?_⟩
    have : (es.drop i).take (k + 1 - i) = (es.drop i).take (k - i) ++ [x] := by
      rw [show k + 1 - i = (k - i) + 1 by omega, List.take_add_one, List.getElem?_drop, show i + (k - i) = k by omega, hx]
      rfl
    rw [this, List.append_assoc]
theorem RM_end (s : LogS) (prev term : Int) (es : List Ent) (a : Nat) (ha : prev = s.base + a) (ht : s.termAt prev = (term, 0)) (hw : wrongE prev term es = 0) :
    s.merge prev term es = (⟨s.base, s.term, (RM s.l a es es.length).1⟩, prev + es.length, (RM s.l a es es.length).2, 0) := by
  unfold LogS.merge
  rw [ht]
  simp only [ne_eq, not_true_eq_false, if_false, hw]
  rw [show (prev - s.base).toNat = a by omega]
  have hle := agree_le (s.l.drop a) es
  unfold RM
  by_cases h : agree (s.l.drop a) es = es.length
  · rw [if_pos h, if_pos (by omega)]
  · have e : (es.drop (agree (s.l.drop a) es)).take (es.length - agree (s.l.drop a) es) = es.drop (agree (s.l.drop a) es) := List.take_of_length_le (by rw [List.length_drop]; exact Nat.le_refl _)
    rw [if_neg h, if_neg (by omega), e]
theorem RM_length (L : List Ent) (a : Nat) (es : List Ent) (k : Nat) (ha : a ≤ L.length) (hk : k ≤ es.length) : (RM L a es k).1.length ≤ max L.length (a + k) := by
  unfold RM
  split
  · simp only; omega
  · simp only [List.length_append, List.length_take, List.length_drop]; omega
theorem RPost.trans {a b c : World} {F : Nat → Prop} {g : Nat} {s s' : LogS} (h : RPost a F g s b) (k : RPost b (grow F a b) g s' c) : RPost a F g s' c :=
  ⟨h.1.then_ k.1 (fun i hi => hi.elim .inl (fun h => .inr h.1)), k.2.mono fun q _ hq => grow_two h.1.size k.1.size hq⟩
end Go.Proofs.Ytpimpdgibcjbeaa
