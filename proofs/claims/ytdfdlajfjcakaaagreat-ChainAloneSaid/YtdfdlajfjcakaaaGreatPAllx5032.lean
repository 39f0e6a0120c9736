-- written by a program of ours (wip/printx: the kit's print, changed in a few places)
import Derived.Test.YtdfdlajfjcakaaaGreatPAllx0
namespace Go.Proofs.YtdfdlajfjcakaaaGreat.PAll
open Go.RowKit Go.Proofs.YtdfdlajfjcakaaaGreat.Extra Go.Proofs.YtdfdlajfjcakaaaGreatW.PrintWords Go.Proofs.YtdfdlajfjcakaaaGreatW.PrintLast Go.Proofs.YtdfdlajfjcakaaaGreatW.PrintMore
attribute [local go_sem] max2_int min2_int max_two min_two max_three min_three max_four min_four   -- for this text's walks alone
set_option linter.unusedVariables false
set_option linter.unusedSimpArgs false

theorem eqA32 (d : Nat) (w : World) (x0 y0 : Int) (x1 y1 : Int) :
    (Op.equalIn (d + 2) 32 (.agg #[.int .i64 x0, .int .i64 x1]) (.agg #[.int .i64 y0, .int .i64 y1])).run Tryz.prog w = .ok (x0 == y0 && (x1 == y1)) w := by
  refine eqA_of Tryz.underlying32 (by kernel_rfl) ?_
  refine eqf_cons (by rfl) (by go_simp; rfl) (by go_simp; rfl) (by go_simp) ?_
  exact eqf_last (by rfl) (by go_simp; rfl) (by go_simp; rfl) (by go_simp)
end Go.Proofs.YtdfdlajfjcakaaaGreat.PAll
