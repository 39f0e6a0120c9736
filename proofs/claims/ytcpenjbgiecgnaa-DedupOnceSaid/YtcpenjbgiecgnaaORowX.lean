import Derived.Test.YtcpenjbgiecgnaaOSeg
namespace Go.Proofs.Ytcpenjbgiecgnaa
open Go Go.RowKit
set_option linter.unusedVariables false
set_option linter.unusedSimpArgs false

/-! Beginnings and ends of rows, whose append that is. -/
theorem own_ge {v1 v : Value} {H b n : Nat} (h : v1.ownBlock = v.ownBlock ∨ v1.ownBlock = some H) (hb : v.ownBlock = some b ∧ n ≤ b) (hH : n ≤ H) : ∀ k, v1.ownBlock = some k → n ≤ k := by
  intro k e
  rcases h with h | h
  · rw [h, hb.1] at e; injection e with e; omega
  · rw [h] at e; injection e with e; omega
theorem own_ge2 {v1 v : Value} {H n : Nat} (h : v1.ownBlock = v.ownBlock ∨ v1.ownBlock = some H) (hb : ∀ k, v.ownBlock = some k → n ≤ k) (hH : n ≤ H) : ∀ k, v1.ownBlock = some k → n ≤ k := by
  intro k e
  rcases h with h | h
  · exact hb k (h ▸ e)
  · rw [h] at e; injection e with e; omega
theorem Row.cap {α : Type} {w : World} {e sz n c : Nat} {A : Option Addr} {enc : α → List Value} {l : List α} (h : Row w e sz enc (.slice A n c) l) : l.length = n ∧ n ≤ c ∧ c ≤ 9223372036854775807 := by
  rcases h.2 with ⟨hv, h0⟩ | ⟨g, cap, cur, hv, _, hg, hc, hm, _⟩
  · simp only [Value.slice.injEq] at hv
    obtain ⟨_, rfl, rfl⟩ := hv
    exact ⟨h0, Nat.le_refl _, by decide⟩
  · simp only [Value.slice.injEq] at hv
    obtain ⟨_, rfl, rfl⟩ := hv
    exact ⟨rfl, hc, hm⟩
theorem Row.prefix_ {α : Type} {w : World} {e sz n c : Nat} {A : Option Addr} {enc : α → List Value} {l : List α} (h : Row w e sz enc (.slice A n c) l) (i : Nat) (hi : i ≤ l.length) (hs : ∀ x, (enc x).length = sz) : Row w e sz enc (.slice A i c) (l.take i) := by
  rcases h.2 with ⟨hv, h0⟩ | ⟨g, cap, cur, hv, _, hg, _⟩
  · simp only [Value.slice.injEq] at hv
    obtain ⟨rfl, _, rfl⟩ := hv
    obtain rfl : i = 0 := by omega
    rw [List.take_zero]
    exact Row.nil_ ..
  · simp only [Value.slice.injEq] at hv
    obtain ⟨rfl, rfl, rfl⟩ := hv
    obtain ⟨_, cur, hg, hc, hm, hz, ht⟩ := h.block
    refine Row.of_block hg (by rw [List.length_take]; omega) (by omega) hm hz hs ?_
    have e : (l.flatMap enc).take (i * sz) = (l.take i).flatMap enc := by
      have e1 : l.flatMap enc = (l.take i).flatMap enc ++ (l.drop i).flatMap enc := by rw [← List.flatMap_append, List.take_append_drop]
      rw [e1, List.take_left' (by rw [flat_length hs, List.length_take, Nat.min_eq_left hi])]
    rw [← e, ← ht, List.take_take, Nat.min_eq_left (Nat.mul_le_mul_right _ hi)]
/-- An end of a row, as Go cuts it. -/
def cutA (A : Option Addr) (c i sz : Nat) : Option Addr := if c = i then A else A.map (·.add (i * sz))
theorem Row.suffix {α : Type} {w : World} {e sz n c : Nat} {A : Option Addr} {enc : α → List Value} {l : List α} (h : Row w e sz enc (.slice A n c) l) (i : Nat) (hi : i ≤ l.length) (hs : ∀ x, (enc x).length = sz) : SegG w enc (.slice (cutA A c i sz) (n - i) (c - i)) (l.drop i) := by
  obtain ⟨hn, hc, hm⟩ := h.cap
  refine ⟨_, _, by rw [List.length_drop, hn], by rw [List.length_drop]; omega, by simp only [maxLen]; omega, fun h0 => ?_⟩
  have hl0 : 0 < l.length := by rw [List.length_drop] at h0; omega
  obtain ⟨g, c', hv, hgl, hcl⟩ := h.form hl0
  injection hv with hA hnn hcc
  subst hA hcc
  have hci : ¬ c = i := by rw [List.length_drop] at h0; omega
  refine ⟨(⟨g, 0, none⟩ : Addr).add (i * sz), by unfold cutA; rw [if_neg hci]; rfl, fun t u hu => ?_⟩
  have ht : t < (l.length - i) * sz := by rw [← List.length_drop, ← flat_length hs]; exact (List.getElem?_eq_some_iff.1 hu).1
  have hsz : 0 < sz := by rcases Nat.eq_zero_or_pos sz with h | h; (· subst h; simp at ht); exact h
  have hd : t / sz < l.length - i := Nat.div_lt_of_lt_mul (by rwa [Nat.mul_comm])
  have hmod := Nat.mod_lt t hsz
  have e0 := Nat.div_add_mod t sz
  rw [Nat.mul_comm] at e0
  have e1 := flat_get hs (l.drop i) (t / sz) (t % sz) (by rw [List.length_drop]; exact hd) hmod
  rw [e0, hu, List.getElem_drop] at e1
  have e2 := h.cell hs (i + t / sz) (t % sz) (by omega) hmod
  rw [← e1, Nat.add_mul, Nat.add_assoc, e0] at e2
  rw [addr0]
  unfold Addr.add
  split
  · rename_i h; subst h; simpa using e2
  · exact e2
theorem SegG.alloc {α : Type} {W : World} {enc : α → List Value} {v : Value} {l : List α} (h : SegG W enc v l) (o : Obj) : SegG (W.alloc o) enc v l := h.below ((Below.refl _ W).alloc (Nat.le_refl _) o)
/-- append of a stretch that is read. -/
theorem SegG.append_list {P : Program} {α : Type} {enc : α → List Value} {ops : Array Oper} {rest : List Oper} {o : Oper} {a : Act} {Q : Exit → Act → World → Prop} {W : World} (hgd : o.guard = none) (s x : Operand) (t e : TypeId) (z : Value) (sz bytes : Nat)
    (ho : o.op = .call { callee := .builtin .append, args := #[s, x], argTypes := #[t, t] })
    (ht : P.underlying t = some (.slice e)) (hinfo : (P.info? e).map (fun i => (i.zero, i.size, i.bytes)) = some (some z, sz, bytes)) (hz : z.cells.size = sz) (hs0 : 0 < sz) (hb0 : 0 < bytes)
    (v : Value) (A : Option Addr) (n c : Nat) (l ys : List α) (hs : a.eval s = v) (hx : a.eval x = .slice A n c) (HR : Row W e sz enc v l) (HY : SegG W enc (.slice A n c) ys) (hn : ys.length = n) (hAc : A = none → c = 0) (hlen : ∀ x, (enc x).length = sz)
    (h1 : ∀ x, ∀ u ∈ enc x, u.oneCell' = true) (hl : (l.length + n) * bytes ≤ 140737488355328)
    (h : ∀ v1 w1, Row w1 e sz enc v1 (l ++ ys) → W.grownBy w1 v.ownBlock → (v1.ownBlock = v.ownBlock ∨ v1.ownBlock = some W.heap.size) → wpList P ops Q rest (a.put o.dst v1) w1) :
    wpList P ops Q (o :: rest) a W := by
  cases A with
  | none =>
    obtain rfl := hAc rfl
    obtain rfl : ys = [] := by
      obtain ⟨A', c', hv, _, _, hc⟩ := HY
      rcases Nat.eq_zero_or_pos ys.length with h0 | h0
      · exact List.eq_nil_of_length_eq_zero h0
      · obtain ⟨ad, rfl, _⟩ := hc h0
        simp at hv
    obtain rfl : n = 0 := hn.symm
    exact Row.appendRow_list hgd s x t e z sz bytes ho ht hinfo hz hs0 hb0 v (.slice none 0 0) l [] hs hx HR (Row.nil_ ..) hlen h1 (by simpa using hl) h
  | some ad =>
    refine Row.append_list hgd s x t e z sz bytes ho ht hinfo hz hs0 hb0 v l ys hs ad n c hx HR hn hlen ?_ h1 hl h
    obtain ⟨A', c', hv, _, _, hc⟩ := HY
    rcases Nat.eq_zero_or_pos ys.length with h0 | h0
    · obtain rfl : ys = [] := List.eq_nil_of_length_eq_zero h0
      intro j u hu
      simp at hu
    · obtain ⟨ad', rfl, hc2⟩ := hc h0
      simp only [Value.slice.injEq, Option.some.injEq] at hv
      obtain ⟨rfl, _, _⟩ := hv
      exact hc2
/-- One cell of an element stored. -/
theorem flat_set_one {α : Type} {enc : α → List Value} {sz : Nat} (hlen : ∀ x, (enc x).length = sz) (l : List α) (i j : Nat) (x : α) (u : Value) (hi : i < l.length) (hj : j < sz) (hx : enc x = (enc l[i]).set j u) : (l.flatMap enc).set (i * sz + j) u = (l.set i x).flatMap enc := by
  induction l generalizing i with
  | nil => simp at hi
  | cons y l ih =>
    cases i with
    | zero =>
      rw [List.flatMap_cons, List.set_cons_zero, List.flatMap_cons, List.set_append_left _ _ (by rw [hlen]; omega), hx, Nat.zero_mul, Nat.zero_add]
      rfl
    | succ i =>
      rw [List.flatMap_cons, List.set_cons_succ, List.flatMap_cons, List.set_append_right _ _ (by rw [hlen, Nat.add_mul]; omega), hlen, show (i + 1) * sz + j - sz = i * sz + j by rw [Nat.add_mul]; omega]
      rw [ih i (by simpa using hi) (by simpa using hx)]
theorem Row.set_one {α : Type} {w : World} {e sz g n c : Nat} {enc : α → List Value} {l : List α} (h : Row w e sz enc (.slice (some ⟨g, 0, none⟩) n c) l) (hlen : ∀ x, (enc x).length = sz) (i j : Nat) (x : α) (u : Value) (hi : i < l.length) (hj : j < sz) (hx : enc x = (enc l[i]).set j u) :
    Row (w.setCell ⟨g, i * sz + j, none⟩ u) e sz enc (.slice (some ⟨g, 0, none⟩) n c) (l.set i x) := by
  obtain ⟨rfl, cur, hg, hc, hm, hs, ht⟩ := h.block
  refine Row.of_block (heap_setCell_same w g (i * sz + j) cur e u hg) (by simp) hc hm (by simpa using hs) hlen ?_
  rw [← flat_set_one hlen l i j x u hi hj hx, ← ht, Array.toList_setIfInBounds, List.take_set]
end Go.Proofs.Ytcpenjbgiecgnaa
