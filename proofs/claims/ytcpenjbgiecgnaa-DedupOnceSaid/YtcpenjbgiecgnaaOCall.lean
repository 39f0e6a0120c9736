import Derived.Test.YtcpenjbgiecgnaaOBase
namespace Go.Proofs.Ytcpenjbgiecgnaa
open Go Go.RowKit
set_option linter.unusedVariables false
set_option linter.unusedSimpArgs false

/-- A call of a Go function as a step of a region that draws its order: for go_region_law. -/
theorem step_call {P : Program} {ops : Array Oper} {o : Oper} {a : Act} {w : World} {K : Act → World → Prop} {Q : Exit → Act → World → Prop} {E : Prop} {f : FuncId} (he : Enters P f) (xs : Array Operand) (ts : Array TypeId) (args : Array Value)
    (hgd : o.guard = none) (hop : o.op = .call { callee := .value (.func f), args := xs, argTypes := ts }) (hargs : xs.map a.eval = args)
    (h : Calls P f args w fun e w' => ∃ v, e = .returned v ∧ K (a.put o.dst v) w') : if Region.wanted o (yielded ops a.tmps) = true then Oper.wp P o a w K Q else E := by
  have hw : Region.wanted o (yielded ops a.tmps) = true := by simp [Region.wanted, hgd]
  rw [if_pos hw]
  have hrun : (execOp a.eval o).run P w = .ok (.enter f args) w := by
    have he' := he args w
    unfold execOp
    simp [hop, resolve, Deferred.ofValue, invoke, Act.eval, hargs, he']
  unfold Oper.wp
  rw [hrun, Oper.upon_enter]
  refine h.mono fun e w'' hh => ?_
  obtain ⟨v, rfl, hk⟩ := hh
  exact hk
theorem Row.shape_n {α : Type} {w : World} {e sz n : Nat} {enc : α → List Value} {v : Value} {l : List α} (h : Row w e sz enc v l) (hn : l.length = n) : ∃ A c, v = .slice A n c := by
  subst hn
  exact h.shape
end Go.Proofs.Ytcpenjbgiecgnaa
