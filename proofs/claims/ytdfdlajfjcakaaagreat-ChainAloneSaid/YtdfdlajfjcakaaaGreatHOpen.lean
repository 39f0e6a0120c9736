-- written by a program of ours (wip/printx: the kit's print, changed in a few places)
import Derived.Test.YtdfdlajfjcakaaaGreatPAllx0
import Derived.Test.YtdfdlajfjcakaaaGreatPAllx1069
import Derived.Test.YtdfdlajfjcakaaaGreatPAllx5032
import Derived.Test.YtdfdlajfjcakaaaGreatHReader
import Derived.Test.YtdfdlajfjcakaaaGreatHWriter
namespace Go.Proofs.YtdfdlajfjcakaaaGreat.PAll
open Go.RowKit Go.Proofs.YtdfdlajfjcakaaaGreat.Extra Go.Proofs.YtdfdlajfjcakaaaGreatW.PrintWords Go.Proofs.YtdfdlajfjcakaaaGreatW.PrintLast Go.Proofs.YtdfdlajfjcakaaaGreatW.PrintMore
attribute [local go_sem] max2_int min2_int max_two min_two max_three min_three max_four min_four   -- for this text's walks alone
set_option linter.unusedVariables false
set_option linter.unusedSimpArgs false

attribute [local go_sem high] eqA32 in
set_option maxHeartbeats 2000000 in
set_option maxRecDepth 100000 in
/-- Bytes that are none. -/
theorem op_open.bad (k : Nat) (b : ByteArray) (l : List S136) (fa fc : Int) (w : World) (h : code_Decode.f k b = some (l, fa, fc)) (c : Int) (hc : (262144 < b.size ∧ c = 2) ∨ (b.size ≤ 262144 ∧ ¬ (fa = 0 ∧ fc = 0) ∧ c = 80)) :
    Calls Tryz.prog 91 #[.string b] w fun e w' => e = .returned (.tuple #[.pointer none, .int .i64 c]) ∧ Below w.heap.size w w' := by
  have hu := Tryz.underlying32
  have HP := Aside0.mk (code_Decode.calls k b l fa fc w h)
  clear h
  go_enter Tryz.func91, Tryz.ntmps91
  go_wp2_with (fail)
  refine HP.out.mono ?_
  rintro e w1 ⟨v1, rfl, hR, hB⟩
  obtain ⟨A1, n1, c1, rfl⟩ := R_form3 hR
  have HB := Aside0.mk hB
  clear hR hB HP
  rcases hc with ⟨h1, rfl⟩ | ⟨h1, h2, rfl⟩
  · have q1 : decide ((262144 : Int) < (b.size : Int)) = true := decide_eq_true (by omega)
    clear h1
    go_wp2
    go_ret2
    exact ⟨rfl, HB.out.alloc HB.out.size _⟩
  · have q1 : decide ((262144 : Int) < (b.size : Int)) = false := decide_eq_false (by omega)
    have q2 : (fa == 0 && (fc == 0)) = false := by rw [Bool.eq_false_iff]; simpa using h2
    clear h1 h2
    go_wp2
    go_ret2
    exact ⟨rfl, HB.out.alloc HB.out.size _⟩
attribute [local go_sem high] eqA32 in
set_option maxHeartbeats 2000000 in
set_option maxRecDepth 100000 in
/-- A reader of the list. -/
theorem op_open.good (k : Nat) (b : ByteArray) (l : List S136) (w : World) (h : code_Decode.f k b = some (l, 0, 0)) (hb : b.size ≤ 262144) :
    Calls Tryz.prog 91 #[.string b] w fun e w' => ∃ (g : Nat) (w0 : World), e = .returned (.tuple #[.pointer (some ⟨g, 0, none⟩), .int .i64 0]) ∧ Rd w0 w' g l true ∧ Below w0.heap.size w0 w' ∧ Below w.heap.size w w0 := by
  have hu := Tryz.underlying32
  have HP := Aside0.mk (code_Decode.calls k b l 0 0 w h)
  clear h
  go_enter Tryz.func91, Tryz.ntmps91
  go_wp2_with (fail)
  refine HP.out.mono ?_
  rintro e w1 ⟨v1, rfl, hR, hB⟩
  obtain ⟨A1, c1, rfl⟩ := Kd.R_slice hR
  have hRd := Kd.R_reads' hR
  have hle := hRd.2.1
  have HC := Aside0.mk hRd.2.2
  have HB := Aside0.mk hB
  clear hR hB HP hRd
  have q1 : decide ((262144 : Int) < (b.size : Int)) = false := decide_eq_false (by omega)
  clear hb
  go_wp2
  go_ret2
  have hA := (Below.refl w1.heap.size w1).alloc (Nat.le_refl _) (.cells #[.int .i64 0, .int .i64 0] 32)
  refine ⟨w1.heap.size + 1, w1, rfl, ⟨A1, c1, alloc_at (by simp), by omega, hle, HC.out⟩, hA.alloc hA.size _, HB.out⟩

end Go.Proofs.YtdfdlajfjcakaaaGreat.PAll
