import Derived.Test.YtpimpdgibcjbeaaRlG
import Derived.Test.YtpimpdgibcjbeaaOArgs
import Derived.Laws.StructEq
namespace Go.Proofs.Ytpimpdgibcjbeaa
open Go Go.RowKit
set_option linter.unusedVariables false
set_option linter.unusedSimpArgs false

theorem among_calls (a b : Int) (w : World) (h : 0 < b) : Calls Try.prog 12 #[.int .i64 a, .int .i64 b] w fun e w' => e = .returned (.int .i64 (amg a b)) ∧ w' = w := by
  have h0 : (b == 0) = false := by simp; omega
  have hb : b ≠ 0 := by omega
  go_enter Try.func12, Try.ntmps12
  go_wp2
  go_ret
  exact ⟨rfl, rfl⟩
/-- An entry is itself. -/
theorem neq_entry (x : Ent) (w : World) : (binOp .neq 44 (.agg #[.int .i64 x.term, .string x.data]) (.agg #[.int .i64 x.term, .string x.data])).run Try.prog w = .ok (.bool false) w := by
  have u3 := Try.underlying3
  have a3 := Try.isAgg3
  have z3 := Try.sizeOf3
  have u9 := Try.underlying9
  have a9 := Try.isAgg9
  have z9 := Try.sizeOf9
  have hS : Try.prog.underlying 44 = some (.struct (Try.prog.fieldsOf 44)) := by kernel_rfl
  have hp : Try.prog.stoodInHeld 44 = false := by kernel_rfl
  rw [run_neq_struct, show (10000 : Nat) = 9999 + 1 from rfl, run_equalIn_agg w 9999 44 _ _ hS hp]
  simp only [Program.fieldsOf, Try.underlying44]
  go_simp
end Go.Proofs.Ytpimpdgibcjbeaa
