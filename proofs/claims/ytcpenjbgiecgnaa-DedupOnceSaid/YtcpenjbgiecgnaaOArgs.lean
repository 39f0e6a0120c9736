import Derived.Test.YtcpenjbgiecgnaaOCall
import Derived.Test.YtcpenjbgiecgnaaOpen
namespace Go.Proofs.Ytcpenjbgiecgnaa
open Go Go.RowKit
set_option linter.unusedVariables false
set_option linter.unusedSimpArgs false

theorem add_field' (a : Addr) (x j : Nat) (h : 0 < j) : a.add (x + j) = ⟨(a.add x).block, (a.add x).off + j, none⟩ := by
  unfold Addr.add
  rw [if_neg (by omega)]
  split
  · rename_i h0; simp [h0]
  · simp [Nat.add_assoc]
def adr (ad : Addr) (o : Nat) : Nat → Addr
  | 0 => ad.add o
  | j + 1 => ⟨(ad.add o).block, (ad.add o).off + (j + 1), none⟩
theorem adr_eq (ad : Addr) (o j : Nat) : adr ad o j = ad.add (o + j) := by
  cases j with
  | zero => rfl
  | succ j => rw [add_field' _ _ _ (by omega)]; rfl
/-- A slice that came in: its elements' cells. -/
def Args {α : Type} (w : World) (A : Option Addr) (n sz : Nat) (enc : α → List Value) (P : α → Prop) (f : Nat → α) : Prop :=
  (∀ i, i < n → P (f i)) ∧ (0 < n → ∃ ad, A = some ad ∧ ∀ i, i < n → ∀ j v, (enc (f i))[j]? = some v → w.cell? (adr ad (i * sz) j) = some v)
theorem args_of {α : Type} [Inhabited α] {w : World} {ks : List Open.FK} {A : Option Addr} {len cap : Nat} {rows : List (List Value)} (h : Open.Rows w ks A len cap rows) (enc : α → List Value) (P : α → Prop) (sz : Nat) (hsz : ks.length = sz)
    (ho : ∀ r, Open.RowK ks r → ∃ x, r = enc x ∧ P x) : ∃ f, Args w A len sz enc P f := by
  subst hsz
  obtain ⟨hl, _, _, hr, hc⟩ := h
  have ha : ∀ i, ∃ x : α, i < rows.length → rows[i]? = some (enc x) ∧ P x := by
    intro i
    by_cases hi : i < rows.length
    · obtain ⟨x, hx, hp⟩ := ho rows[i] (hr _ (List.getElem_mem hi))
      exact ⟨x, fun _ => ⟨by rw [List.getElem?_eq_getElem hi, hx], hp⟩⟩
    · exact ⟨default, fun h => absurd h hi⟩
  refine ⟨fun i => (ha i).choose, fun i hi => ((ha i).choose_spec (by omega)).2, fun h0 => ?_⟩
  obtain ⟨ad, hA, hcell⟩ := hc h0
  refine ⟨ad, hA, fun i hi j v hv => ?_⟩
  rw [adr_eq]
  exact hcell i _ ((ha i).choose_spec (by omega)).1 j v hv
theorem adr_block (ad : Addr) (o j : Nat) : (adr ad o j).block = ad.block := by
  rw [adr_eq]
  unfold Addr.add
  split <;> rfl
theorem Args.below {α : Type} {w w' : World} {A : Option Addr} {n sz : Nat} {enc : α → List Value} {P : α → Prop} {f : Nat → α} (h : Args w A n sz enc P f) (hb : Below w.heap.size w w') : Args w' A n sz enc P f := by
  refine ⟨h.1, fun h0 => ?_⟩
  obtain ⟨ad, hA, hc⟩ := h.2 h0
  refine ⟨ad, hA, fun i hi j v hv => ?_⟩
  have := hc i hi j v hv
  exact (hb.cell (World.block_lt_of_cell? w _ this)).trans this

/-- 'among': a number from 0 to n - 1. -/
def amg (a b : Int) : Int := (wrap64 (a.tmod b + b)).tmod b
theorem amg_bounds (a b : Int) (h : 0 < b) (hb : b ≤ 4611686018427387904) : 0 ≤ amg a b ∧ amg a b < b := by
  have h1 := Int.tmod_lt_of_pos a h
  have h2 : -b < a.tmod b := by
    have := Int.lt_tmod_of_pos a h
    omega
  have hw : wrap64 (a.tmod b + b) = a.tmod b + b := by unfold wrap64; omega
  unfold amg
  rw [hw]
  exact ⟨Int.tmod_nonneg _ (by omega), Int.tmod_lt_of_pos _ h⟩
end Go.Proofs.Ytcpenjbgiecgnaa
