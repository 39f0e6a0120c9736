import Derived.Test.YtkmbbipempbilaaFn4
import Derived.Test.YtkmbbipempbilaaOpen
/-! Lists of fields that came in. -/
namespace Go.Proofs.Ytkmbbipempbilaa.Fn
set_option linter.unusedVariables false
set_option linter.unusedSimpArgs false
open Go Go.RowKit Go.Proofs.YtkmbbipempbilaaW.PrintWords Go.Proofs.Ytkmbbipempbilaa.PAll Go.Proofs.Ytkmbbipempbilaa.Bytes

theorem wf_i64 {x : Int} (h : (Lit.int .i64 x).wf = true) : -9223372036854775808 ≤ x ∧ x ≤ 9223372036854775807 := by
  simp [Lit.wf, IntKind.min, IntKind.max, IntKind.signed, IntKind.bits] at h
  omega
def toS : List Value → S35
  | [.bool b, .int _ n, .string s] => ⟨b, n, s⟩
  | _ => ⟨false, 0, ⟨#[]⟩⟩
/-- Fields as any list has them. -/
def Wide (xs : List S35) : Prop := ∀ x ∈ xs, wfS x ∧ x.f2.size ≤ 140737488351232
theorem rowS {r : List Value} (h : Open.RowK [.bool, .int .i64, .str] r) : r = [.bool (toS r).f0, .int .i64 (toS r).f1, .string (toS r).f2] ∧ wfS (toS r) ∧ (toS r).f2.size ≤ 140737488351232 := by
  obtain ⟨hl, hk⟩ := h
  match r, hl with
  | [x, y, z], _ =>
    obtain ⟨a, rfl⟩ := hk 0 _ _ rfl rfl
    obtain ⟨b, rfl, hb⟩ := hk 1 _ _ rfl rfl
    obtain ⟨c, rfl, hc⟩ := hk 2 _ _ rfl rfl
    exact ⟨rfl, wf_i64 hb, hc⟩
theorem lists_of {w : World} {A : Option Addr} {len cap : Nat} {rows : List (List Value)} (h : Open.Rows w [.bool, .int .i64, .str] A len cap rows) :
    ∃ xs : List S35, xs.length = len ∧ Kd.C k35 w A xs.length xs ∧ xs.length ≤ cap ∧ Wide xs := by
  obtain ⟨hl, hc, hm, hr, hcell⟩ := h
  have hmx : len ≤ 9223372036854775807 := by unfold maxLen at hm; omega
  refine ⟨rows.map toS, by simp [hl], ⟨rfl, by simp only [List.length_map]; omega, fun h0 => ?_⟩, by simp only [List.length_map]; omega, fun x hx => ?_⟩
  · simp only [List.length_map] at h0
    obtain ⟨a, hA, hv⟩ := hcell (by omega)
    refine ⟨a, hA, fun j p hp => ?_⟩
    rw [List.getElem?_map] at hp
    obtain ⟨r, hr0, rfl⟩ := Option.map_eq_some_iff.1 hp
    obtain ⟨e, _⟩ := rowS (hr r (List.mem_of_getElem? hr0))
    refine ⟨_, rfl, k35_mk w (toS r), fun i u hu => ?_⟩
    rw [← e] at hu
    exact hv j r hr0 i u hu
  · obtain ⟨r, hr0, rfl⟩ := List.mem_map.1 hx
    exact (rowS (hr r hr0)).2
end Go.Proofs.Ytkmbbipempbilaa.Fn
