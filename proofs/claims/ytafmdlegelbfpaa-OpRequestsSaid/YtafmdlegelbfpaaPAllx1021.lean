-- written by a program of ours (wip/printx: the kit's print, changed in a few places)
import Derived.Test.YtafmdlegelbfpaaPAllx0
namespace Go.Proofs.Ytafmdlegelbfpaa.PAll
open Go.RowKit Go.Proofs.Ytafmdlegelbfpaa.Extra Go.Proofs.YtafmdlegelbfpaaW.PrintWords Go.Proofs.YtafmdlegelbfpaaW.PrintLast Go.Proofs.YtafmdlegelbfpaaW.PrintMore
attribute [local go_sem] max2_int min2_int max_two min_two max_three min_three max_four min_four   -- for this text's walks alone
set_option linter.unusedVariables false
set_option linter.unusedSimpArgs false

/-! ### skylarklaw08_names: function 21 -/
def skylarklaw08_names.f  : Option (Bool) := some true
set_option maxHeartbeats 8000000 in
set_option maxRecDepth 100000 in
theorem skylarklaw08_names.calls  (r : Bool) (w : World) (h : skylarklaw08_names.f  = some r) :
    Calls Try.prog 21 #[] w fun e w' => e = .returned (.bool r) ∧ Drawn0 w w' := by
  have H : (some true) = some r := h
  clear h
  obtain rfl := Option.some.inj H
  go_enter Try.func21, Try.ntmps21
  go_wp2
  go_ret
  exact ⟨by first | rfl | (simp; done) | (simp [*]; done), by repeat (first | exact Drawn0.refl _ | apply Drawn0.step)⟩

end Go.Proofs.Ytafmdlegelbfpaa.PAll
