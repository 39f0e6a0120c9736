-- written by a program of ours
import Derived.Test.YtdfdlajfjcakaaaGreatPAllx0
import Derived.Test.YtdfdlajfjcakaaaGreatPAllx1040
namespace Go.Proofs.YtdfdlajfjcakaaaGreat.PAll
open Go.RowKit Go.Proofs.YtdfdlajfjcakaaaGreat.Extra Go.Proofs.YtdfdlajfjcakaaaGreatW.PrintWords Go.Proofs.YtdfdlajfjcakaaaGreatW.PrintLast Go.Proofs.YtdfdlajfjcakaaaGreatW.PrintMore
attribute [local go_sem] max2_int min2_int max_two min_two max_three min_three max_four min_four
set_option linter.unusedVariables false
set_option linter.unusedSimpArgs false

/-! op.in and op.key, for seats whose print has no op.Check. -/
def op_key.f (a0 : ByteArray) : Option Bool := (op_in.f (a0.size : Int) 1 64).bind fun t => some t
theorem op_key.calls (a0 : ByteArray) (r : Bool) (w : World) (h : op_key.f a0 = some r) :
    Calls Tryz.prog 63 #[.string a0] w fun e w' => e = .returned (.bool r) ∧ Drawn0 w w' := by
  have h2 : op_in.f (a0.size : Int) 1 64 = some r := by
    unfold op_key.f at h
    cases hh : op_in.f (a0.size : Int) 1 64 with
    | none => rw [hh] at h; cases h
    | some t => rw [hh] at h; exact h
  have hc := fun W => op_in.calls (a0.size : Int) 1 64 r W h2
  clear h h2
  go_enter Tryz.func63, Tryz.ntmps63
  go_wp2_with (fail)
  refine (hc _).mono ?_
  rintro e wq ⟨rfl, hD⟩
  go_wp2
  go_ret
  exact ⟨rfl, hD⟩
end Go.Proofs.YtdfdlajfjcakaaaGreat.PAll
