-- written by a program of ours (a template of wip/pure, filled for this seat)
import Derived.Test.YtafmdlegelbfpaaPAllx0
import Derived.Test.YtafmdlegelbfpaaFn4
/-! Lists of fields that came in. -/
namespace Go.Proofs.Ytafmdlegelbfpaa.Fn
set_option linter.unusedVariables false
set_option linter.unusedSimpArgs false
open Go Go.RowKit Go.Proofs.YtafmdlegelbfpaaW.PrintWords Go.Proofs.Ytafmdlegelbfpaa.PAll Go.Proofs.Ytafmdlegelbfpaa.Bytes

theorem wf_i64 {x : Int} (h : (Lit.int .i64 x).wf = true) : -9223372036854775808 ≤ x ∧ x ≤ 9223372036854775807 := by
  simp [Lit.wf, IntKind.min, IntKind.max, IntKind.signed, IntKind.bits] at h
  omega
def Wide (xs : List S110) : Prop := ∀ x ∈ xs, wfS x ∧ x.f2.size ≤ 140737488351232
end Go.Proofs.Ytafmdlegelbfpaa.Fn
