import Derived.Test.YtodplpjoonkniaaProg
import Derived.Test.YtodplpjoonkniaaBase
namespace Go.Proofs.Ytodplpjoonkniaa
open Go Go.RowKit
set_option linter.unusedVariables false
set_option linter.unusedSimpArgs false

def nxt (wd : Int) : Int := IntKind.u64.wrap (wd + 11400714819323198485)
def mix (z : Int) : Int :=
  let y := IntKind.u64.wrap (Go.bits .xor .u64 z (z / 1073741824) * 13787848793156543929)
  let x := IntKind.u64.wrap (Go.bits .xor .u64 y (y / 134217728) * 10723151780598845931)
  Go.bits .xor .u64 x (x / 2147483648)

set_option maxHeartbeats 400000 in
theorem next_calls (g : Nat) (v0 : Value) (wd : Int) (w : World) (h : Blk w g 37 #[v0, .int .u64 wd]) :
    Calls Try.prog 27 #[.pointer (some ⟨g, 1, none⟩)] w fun e w' => e = .returned (.int .u64 (mix (nxt wd))) ∧ w' = w.setCell ⟨g, 1, none⟩ (.int .u64 (nxt wd)) := by
  have hc : w.cell? ⟨g, 1, none⟩ = some (.int .u64 wd) := h.cell 1
  have hf := h.frozen 1
  go_enter Try.func27, Try.ntmps27
  go_wp2
  go_ret
  exact ⟨rfl, rfl⟩
end Go.Proofs.Ytodplpjoonkniaa
