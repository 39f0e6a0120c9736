import Derived.Test.YtcpenjbgiecgnaaHReader
import Derived.Test.YtcpenjbgiecgnaaHField
namespace Go.Proofs.Ytcpenjbgiecgnaa.PAll
open Go.RowKit Go.Proofs.Ytcpenjbgiecgnaa.Extra Go.Proofs.YtcpenjbgiecgnaaW.PrintWords Go.Proofs.YtcpenjbgiecgnaaW.PrintLast Go.Proofs.YtcpenjbgiecgnaaW.PrintMore
set_option linter.unusedVariables false
set_option linter.unusedSimpArgs false

/-! What HDecode tells of readers, for seats without op.Decode. -/
theorem rnum_range (s : List S62 × Bool) : 0 ≤ (rnum s).1 ∧ (rnum s).1 ≤ 1099511627776 := by
  obtain ⟨l, ok⟩ := s
  cases l with
  | nil => exact ⟨Int.le_refl _, by show (0 : Int) ≤ _; omega⟩
  | cons x l =>
    show 0 ≤ (rdX false (x :: l)).f1 ∧ (rdX false (x :: l)).f1 ≤ 1099511627776
    have e : rdX false (x :: l) = if fldOk false x = true then x else ⟨false, 0, ⟨#[]⟩⟩ := rfl
    rw [e]
    by_cases h : fldOk false x = true
    · rw [if_pos h]
      unfold fldOk at h
      rw [Bool.and_eq_true] at h
      exact of_decide_eq_true h.2
    · rw [if_neg h]
      exact ⟨Int.le_refl _, by show (0 : Int) ≤ _; omega⟩
theorem rd_blk {w0 w : World} {g : Nat} {l : List S62} {ok : Bool} (h : Rd w0 w g l ok) : ∃ cells, w.heap[g]? = some (.cells cells 105 (0, 0)) := by
  obtain ⟨A, c, h1, _⟩ := h
  exact ⟨_, h1⟩
end Go.Proofs.Ytcpenjbgiecgnaa.PAll
