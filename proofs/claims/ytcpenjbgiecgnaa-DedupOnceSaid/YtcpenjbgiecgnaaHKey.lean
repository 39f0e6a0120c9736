import Derived.Test.YtcpenjbgiecgnaaHWriter
import Derived.Test.YtcpenjbgiecgnaaPAllx0
import Derived.Test.YtcpenjbgiecgnaaPAllx1034
namespace Go.Proofs.Ytcpenjbgiecgnaa.PAll
open Go.RowKit Go.Proofs.Ytcpenjbgiecgnaa.Extra Go.Proofs.YtcpenjbgiecgnaaW.PrintWords Go.Proofs.YtcpenjbgiecgnaaW.PrintLast Go.Proofs.YtcpenjbgiecgnaaW.PrintMore
attribute [local go_sem] max2_int min2_int max_two min_two max_three min_three max_four min_four
set_option linter.unusedVariables false
set_option linter.unusedSimpArgs false

/-! op.in and op.key, for seats whose print has no op.Check. -/
theorem op_Check.in_f (a m n : Int) : op_in.f a m n = some (decide (m ≤ a ∧ a ≤ n)) := by
  unfold op_in.f
  by_cases h : a ≥ m
  · rw [if_pos h]; congr 1; simp; omega
  · rw [if_neg h]; congr 1; simp; omega
def op_key.f (a0 : ByteArray) : Option Bool := (op_in.f (a0.size : Int) 1 64).bind fun t => some t
theorem op_key.calls (a0 : ByteArray) (r : Bool) (w : World) (h : op_key.f a0 = some r) :
    Calls Try.prog 50 #[.string a0] w fun e w' => e = .returned (.bool r) ∧ Drawn0 w w' := by
  have h2 : op_in.f (a0.size : Int) 1 64 = some r := by
    unfold op_key.f at h
    cases hh : op_in.f (a0.size : Int) 1 64 with
    | none => rw [hh] at h; cases h
    | some t => rw [hh] at h; exact h
  have hc := fun W => op_in.calls (a0.size : Int) 1 64 r W h2
  clear h h2
  go_enter Try.func50, Try.ntmps50
  go_wp2_with (fail)
  refine (hc _).mono ?_
  rintro e wq ⟨rfl, hD⟩
  go_wp2
  go_ret
  exact ⟨rfl, hD⟩
theorem flat_snoc {α β : Type} (l : List α) (f : α → List β) (i : Nat) (h : i < l.length) : (l.take (i + 1)).flatMap f = (l.take i).flatMap f ++ f l[i] := by
  rw [take_snoc_ l i h, List.flatMap_append, List.flatMap_cons, List.flatMap_nil, List.append_nil]
end Go.Proofs.Ytcpenjbgiecgnaa.PAll
