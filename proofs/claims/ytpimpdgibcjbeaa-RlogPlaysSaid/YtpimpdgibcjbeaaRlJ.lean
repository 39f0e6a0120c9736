import Derived.Test.YtpimpdgibcjbeaaRlI
namespace Go.Proofs.Ytpimpdgibcjbeaa
open Go Go.RowKit
set_option linter.unusedVariables false
set_option linter.unusedSimpArgs false

theorem log_compact_bad (F : Nat → Prop) (g : Nat) (s : LogS) (i : Int) (w : World) (h : LogAt w F g s) (hb0 : 0 ≤ s.base) (hb1 : s.base ≤ 1048576) (hl : s.l.length ≤ 1048576) (hi : i < s.base ∨ s.base + s.l.length < i) :
    Calls Try.prog 23 #[.pointer (some ⟨g, 0, none⟩), .int .i64 i] w fun e w' => e = .returned (.int .i64 140) ∧ Below w.heap.size w w' := by
  have ht := log_term F g s i w h hb0 hb1 hl
  have e1 : s.termAt i = (0, 140) := by unfold LogS.termAt; rw [if_pos hi]
  rw [e1] at ht
  clear h e1 hi
  go_enter Try.func23, Try.ntmps23
  go_wp2_with (fail)
  refine ht.mono ?_
  rintro e w2 ⟨rfl, hb2⟩
  go_wp2
  go_ret
  exact ⟨rfl, hb2⟩
end Go.Proofs.Ytpimpdgibcjbeaa
