import Derived.Test.YtcpenjbgiecgnaaOArgs
import Derived.Test.YtcpenjbgiecgnaaORows
import Derived.Test.YtcpenjbgiecgnaaOShape
namespace Go.Proofs.Ytcpenjbgiecgnaa
open Go Go.RowKit
set_option linter.unusedVariables false
set_option linter.unusedSimpArgs false

def icell (x : Int) : List Value := [.int .i64 x]
/-- A stretch that is read, wherever it lies. -/
def SegG {α : Type} (w : World) (enc : α → List Value) (v : Value) (l : List α) : Prop :=
  ∃ A c, v = .slice A l.length c ∧ l.length ≤ c ∧ c ≤ maxLen ∧ (0 < l.length → ∃ ad, A = some ad ∧ ∀ j u, (l.flatMap enc)[j]? = some u → w.cell? (ad.add j) = some u)
theorem add_block (ad : Addr) (j : Nat) : (ad.add j).block = ad.block := by unfold Addr.add; split <;> rfl
section
variable {α : Type} {w w' : World} {enc : α → List Value} {v : Value} {l : List α}
theorem SegG.kept {S : Nat → Prop} (h : SegG w enc v l) (hk : Kept w w' S) (hS : ∀ k, v.ownBlock = some k → ¬ S k) : SegG w' enc v l := by
  obtain ⟨A, c, rfl, hc, hm, h⟩ := h
  refine ⟨A, c, rfl, hc, hm, fun h0 => ?_⟩
  obtain ⟨ad, rfl, hcell⟩ := h h0
  refine ⟨ad, rfl, fun j u hu => ?_⟩
  have hx := hcell j u hu
  rw [hk.cell (p := ad.add j) (World.block_lt_of_cell? w _ hx) (hS _ (by rw [add_block]; simp [Value.ownBlock]))]
  exact hx
theorem SegG.kept0 {S : Nat → Prop} (h : SegG w enc v l) (hk : Kept w w' S) (hS : 0 < l.length → ∀ k, v.ownBlock = some k → ¬ S k) : SegG w' enc v l := by
  rcases Nat.eq_zero_or_pos l.length with h0 | h0
  · obtain ⟨A, c, rfl, hc, hm, _⟩ := h
    exact ⟨A, c, rfl, hc, hm, fun h => by omega⟩
  · exact h.kept hk (hS h0)
theorem SegG.below (h : SegG w enc v l) (hb : Below w.heap.size w w') : SegG w' enc v l := h.kept (Kept.of_below hb fun _ => False) (fun _ _ h => h)
theorem SegG.shape (h : SegG w enc v l) : ∃ A c, v = .slice A l.length c ∧ l.length ≤ c ∧ c ≤ maxLen := by
  obtain ⟨A, c, rfl, hc, hm, h⟩ := h
  exact ⟨A, c, rfl, hc, hm⟩
theorem SegG.form (h : SegG w enc v l) (hn : 0 < l.length) : ∃ ad c, v = .slice (some ad) l.length c ∧ l.length ≤ c ∧ c ≤ maxLen := by
  obtain ⟨A, c, rfl, hc, hm, h⟩ := h
  obtain ⟨ad, rfl, _⟩ := h hn
  exact ⟨ad, c, rfl, hc, hm⟩
theorem SegG.cell {ad : Addr} {n c sz : Nat} (h : SegG w enc (.slice (some ad) n c) l) (hs : ∀ x, (enc x).length = sz) (i j : Nat) (hi : i < l.length) (hj : j < sz) : w.cell? (adr ad (i * sz) j) = (enc l[i])[j]? := by
  obtain ⟨A, c', hv, _, _, h⟩ := h
  obtain ⟨ad', hA, hcell⟩ := h (by omega)
  simp only [Value.slice.injEq] at hv
  obtain ⟨rfl, _, _⟩ := hv
  injection hA with hA
  subst hA
  have e1 := flat_get hs l i j hi hj
  obtain ⟨u, hu⟩ : ∃ u, (enc l[i])[j]? = some u := ⟨(enc l[i])[j]'(by rw [hs]; exact hj), List.getElem?_eq_getElem _⟩
  rw [hu] at e1 ⊢
  rw [adr_eq]
  exact hcell _ _ e1
end
theorem SegG.of_row {α : Type} {w : World} {enc : α → List Value} {v : Value} {l : List α} {e sz : Nat} (h : Row w e sz enc v l) : SegG w enc v l := by
  rcases h.2 with ⟨rfl, h0⟩ | ⟨g, cap, cur, rfl, hb, hg, hc, hm, rest⟩
  · exact ⟨none, 0, by rw [h0], by omega, by decide, fun h => by omega⟩
  · exact ⟨_, cap, rfl, hc, hm, fun _ => ⟨_, rfl, h.news⟩⟩
/-! What came in: rows of rows. -/
theorem segG_of_rows {α : Type} {w : World} {enc : α → List Value} {sz : Nat} (hs : ∀ x, (enc x).length = sz) (h0 : 0 < sz) {A : Option Addr} {len cap : Nat} {rows : List (List Value)} (xs : List α) (hx : rows = xs.map enc) (hl : rows.length = len) (hlc : len ≤ cap) (hm : cap ≤ maxLen)
    (hc : 0 < len → ∃ a, A = some a ∧ ∀ (j : Nat) (r : List Value), rows[j]? = some r → ∀ (i : Nat) (u : Value), r[i]? = some u → w.cell? (a.add (j * sz + i)) = some u) : SegG w enc (.slice A len cap) xs := by
  have hxl : xs.length = len := by rw [← hl, hx, List.length_map]
  refine ⟨A, cap, by rw [hxl], by omega, hm, fun hp => ?_⟩
  obtain ⟨a, rfl, hcell⟩ := hc (by omega)
  refine ⟨a, rfl, fun t u hu => ?_⟩
  have ht : t < xs.length * sz := by rw [← flat_length hs]; exact (List.getElem?_eq_some_iff.1 hu).1
  have hd : t / sz < xs.length := Nat.div_lt_of_lt_mul (by rwa [Nat.mul_comm])
  have hmod := Nat.mod_lt t h0
  have e := Nat.div_add_mod t sz
  rw [Nat.mul_comm] at e
  have hg := flat_get hs xs (t / sz) (t % sz) hd hmod
  rw [e, hu] at hg
  have := hcell (t / sz) (enc xs[t / sz]) (by rw [hx, List.getElem?_map, List.getElem?_eq_getElem hd]; rfl) (t % sz) u hg.symm
  rwa [e] at this
theorem rows_map {α : Type} {R : List Value → Prop} (enc : α → List Value) (D : α → Prop) (hmk : ∀ r, R r → ∃ x, r = enc x ∧ D x) : ∀ (rows : List (List Value)), (∀ r ∈ rows, R r) → ∃ xs : List α, rows = xs.map enc ∧ ∀ x ∈ xs, D x
  | [], _ => ⟨[], rfl, fun x hx => by cases hx⟩
  | r :: rows, h => by
    obtain ⟨x, hk, hd⟩ := hmk r (h r List.mem_cons_self)
    obtain ⟨xs, hl, hD⟩ := rows_map enc D hmk rows (fun r' hr' => h r' (List.mem_cons_of_mem _ hr'))
    refine ⟨x :: xs, by simp [hk, hl], fun x' hx' => ?_⟩
    rcases List.mem_cons.1 hx' with rfl | hx'
    · exact hd
    · exact hD x' hx'
open Shape in
theorem oks_cons {P : Program} {w : World} {k : SK} {ks : List SK} {vs : List Value} (h : SK.oks P w (k :: ks) vs) : ∃ v vs', vs = v :: vs' ∧ SK.ok P w k v ∧ SK.oks P w ks vs' := by
  cases vs with
  | nil => simp [SK.oks] at h
  | cons v vs => simp only [SK.oks] at h; exact ⟨v, vs, rfl, h.1, h.2⟩
open Shape in
theorem oks_nil {P : Program} {w : World} {vs : List Value} (h : SK.oks P w [] vs) : vs = [] := by
  cases vs with
  | nil => rfl
  | cons v vs => simp [SK.oks] at h
open Shape in
theorem open_int1 {P : Program} {w : World} (r : List Value) (h : SK.oks P w [.int .i64] r) : ∃ x : Int, r = icell x ∧ True := by
  obtain ⟨v1, r1, rfl, h1, h⟩ := oks_cons h
  obtain rfl := oks_nil h
  simp only [SK.ok] at h1
  obtain ⟨t, rfl, _⟩ := h1
  exact ⟨t, rfl, trivial⟩
end Go.Proofs.Ytcpenjbgiecgnaa
