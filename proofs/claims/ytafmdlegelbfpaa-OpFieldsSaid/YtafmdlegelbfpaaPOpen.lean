-- written by a program of ours (a template of wip/pure, filled for this seat)
import Derived.Test.YtafmdlegelbfpaaPAllx0
import Derived.Test.YtafmdlegelbfpaaOpen
import Derived.Test.YtafmdlegelbfpaaLists
/-! Lists of operations that came in. -/
namespace Go.Proofs.Ytafmdlegelbfpaa.Pure
set_option linter.unusedVariables false
set_option linter.unusedSimpArgs false
open Go Go.RowKit Go.Proofs.Ytafmdlegelbfpaa.PAll Go.Proofs.YtafmdlegelbfpaaW.PrintWords Go.Proofs.YtafmdlegelbfpaaW.PrintLast Go.Proofs.Ytafmdlegelbfpaa.Bytes Go.Proofs.Ytafmdlegelbfpaa.Fn
def toOp : List Value → S27
  | [.int _ a, .string b, .string c, .int _ d, .int _ e, .int _ f] => ⟨a, b, c, d, e, f⟩
  | _ => ⟨0, ⟨#[]⟩, ⟨#[]⟩, 0, 0, 0⟩
def In64 (x : Int) : Prop := -9223372036854775808 ≤ x ∧ x ≤ 9223372036854775807
/-- Operations as any list has them. -/
def WideOp (x : S27) : Prop := In64 x.f0 ∧ x.f1.size ≤ 140737488351232 ∧ x.f2.size ≤ 140737488351232 ∧ In64 x.f3 ∧ In64 x.f4 ∧ In64 x.f5
def opKs : List Open.FK := [.int .i64, .str, .str, .int .i64, .int .i64, .int .i64]
theorem rowOp {r : List Value} (h : Open.RowK [.int .i64, .str, .str, .int .i64, .int .i64, .int .i64] r) : r = [.int .i64 (toOp r).f0, .string (toOp r).f1, .string (toOp r).f2, .int .i64 (toOp r).f3, .int .i64 (toOp r).f4, .int .i64 (toOp r).f5] ∧ WideOp (toOp r) := by
  obtain ⟨hl, hk⟩ := h
  match r, hl with
  | [x, y, z, u, v, t], _ =>
    obtain ⟨a, rfl, ha⟩ := hk 0 _ _ rfl rfl
    obtain ⟨b, rfl, hb⟩ := hk 1 _ _ rfl rfl
    obtain ⟨c, rfl, hc⟩ := hk 2 _ _ rfl rfl
    obtain ⟨d, rfl, hd⟩ := hk 3 _ _ rfl rfl
    obtain ⟨e, rfl, he⟩ := hk 4 _ _ rfl rfl
    obtain ⟨f, rfl, hf⟩ := hk 5 _ _ rfl rfl
    exact ⟨rfl, wf_i64 ha, hb, hc, wf_i64 hd, wf_i64 he, wf_i64 hf⟩
theorem ops_of {w : World} {A : Option Addr} {len cap : Nat} {rows : List (List Value)} (h : Open.Rows w [.int .i64, .str, .str, .int .i64, .int .i64, .int .i64] A len cap rows) :
    ∃ xs : List S27, xs.length = len ∧ Kd.C k27 w A xs.length xs ∧ xs.length ≤ cap ∧ ∀ x ∈ xs, WideOp x := by
  obtain ⟨hl, hc, hm, hr, hcell⟩ := h
  have hmx : len ≤ 9223372036854775807 := by unfold maxLen at hm; omega
  refine ⟨rows.map toOp, by simp [hl], ⟨rfl, by simp only [List.length_map]; omega, fun h0 => ?_⟩, by simp only [List.length_map]; omega, fun x hx => ?_⟩
  · simp only [List.length_map] at h0
    obtain ⟨a, hA, hv⟩ := hcell (by omega)
    refine ⟨a, hA, fun j p hp => ?_⟩
    rw [List.getElem?_map] at hp
    obtain ⟨r, hr0, rfl⟩ := Option.map_eq_some_iff.1 hp
    obtain ⟨e, _⟩ := rowOp (hr r (List.mem_of_getElem? hr0))
    refine ⟨_, rfl, k27_mk w (toOp r), fun i u hu => ?_⟩
    rw [← e] at hu
    exact hv j r hr0 i u hu
  · obtain ⟨r, hr0, rfl⟩ := List.mem_map.1 hx
    exact (rowOp (hr r hr0)).2
end Go.Proofs.Ytafmdlegelbfpaa.Pure
