import Derived.Test.YtpimpdgibcjbeaaRlF
namespace Go.Proofs.Ytpimpdgibcjbeaa
open Go Go.RowKit
set_option linter.unusedVariables false
set_option linter.unusedSimpArgs false

def LogS.behind (s : LogS) (i t : Int) : Bool := decide (s.lastTerm < t) || (decide (t = s.lastTerm) && decide (s.last ≤ i))
theorem log_behind (F : Nat → Prop) (g : Nat) (s : LogS) (i t : Int) (w : World) (h : LogAt w F g s) (hb0 : 0 ≤ s.base) (hb1 : s.base ≤ 1048576) (hl : s.l.length ≤ 1048576) :
    Calls Try.prog 24 #[.pointer (some ⟨g, 0, none⟩), .int .i64 i, .int .i64 t] w fun e w' => e = .returned (.bool (s.behind i t)) ∧ Below w.heap.size w w' := by
  have hlast := log_last F g s w h hb0 hb1 hl
  unfold LogS.behind
  generalize s.lastTerm = lt at hlast ⊢
  generalize s.last = la at hlast ⊢
  clear h hb0 hb1 hl
  by_cases h1 : lt < t
  · rw [decide_eq_true h1, Bool.true_or]
    go_enter Try.func24, Try.ntmps24
    go_wp2_with (fail)
    refine hlast.mono ?_
    rintro e w2 ⟨rfl, hb2⟩
    go_wp2
    go_ret
    first | exact ⟨rfl, hb2⟩ | (refine ⟨?_, hb2⟩; simp [*]) | (refine ⟨?_, hb2⟩; simp; omega)
  · by_cases h2 : t = lt
    · subst h2
      rw [decide_eq_false h1, decide_eq_true rfl, Bool.false_or, Bool.true_and]
      by_cases h3 : la ≤ i
      · rw [decide_eq_true h3]
        clear h1
        go_enter Try.func24, Try.ntmps24
        go_wp2_with (fail)
        refine hlast.mono ?_
        rintro e w2 ⟨rfl, hb2⟩
        go_wp2
        go_ret
        first | exact ⟨rfl, hb2⟩ | (refine ⟨?_, hb2⟩; simp [*]) | (refine ⟨?_, hb2⟩; simp; omega)
      · rw [decide_eq_false h3]
        have h5 : i < la := by omega
        have q1 : decide (t < t) = false := decide_eq_false h1
        have q3 : decide (la ≤ i) = false := decide_eq_false h3
        clear h1
        go_enter Try.func24, Try.ntmps24
        go_wp2_with (fail)
        refine hlast.mono ?_
        rintro e w2 ⟨rfl, hb2⟩
        go_wp2
        go_ret
        first | exact ⟨rfl, hb2⟩ | (refine ⟨?_, hb2⟩; simp [*]) | (refine ⟨?_, hb2⟩; simp; omega)
    · rw [decide_eq_false h1, decide_eq_false h2, Bool.false_or, Bool.false_and]
      have h4 : t < lt := by omega
      have q1 : decide (lt < t) = false := decide_eq_false h1
      have q2 : decide (t = lt) = false := decide_eq_false h2
      clear h1
      go_enter Try.func24, Try.ntmps24
      go_wp2_with (fail)
      refine hlast.mono ?_
      rintro e w2 ⟨rfl, hb2⟩
      go_wp2
      go_ret
      first | exact ⟨rfl, hb2⟩ | (refine ⟨?_, hb2⟩; simp [*]) | (refine ⟨?_, hb2⟩; simp; omega)
end Go.Proofs.Ytpimpdgibcjbeaa
