import Derived.Test.YtpimpdgibcjbeaaRlA
namespace Go.Proofs.Ytpimpdgibcjbeaa
open Go Go.RowKit
set_option linter.unusedVariables false
set_option linter.unusedSimpArgs false

def LogS.termAt (s : LogS) (i : Int) : Int × Int :=
  if i < s.base ∨ s.base + s.l.length < i then (0, 140) else if i = s.base then (s.term, 0) else ((match s.l[(i - s.base - 1).toNat]? with | some e => e.term | none => 0), 0)
set_option maxHeartbeats 1000000 in
theorem log_term (F : Nat → Prop) (g : Nat) (s : LogS) (i : Int) (w : World) (h : LogAt w F g s) (hb0 : 0 ≤ s.base) (hb1 : s.base ≤ 1048576) (hl : s.l.length ≤ 1048576) :
    Calls Try.prog 14 #[.pointer (some ⟨g, 0, none⟩), .int .i64 i] w fun e w' => e = .returned (.tuple #[.int .i64 (s.termAt i).1, .int .i64 (s.termAt i).2]) ∧ Below w.heap.size w w' := by
  obtain ⟨vl, hb, r1, hg, f1⟩ := h
  have hlt := hb.lt
  have c0 := hb.cell 0
  have c1 := hb.cell 1
  have c2 := hb.cell 2
  have hl1 : (s.l.length : Int) ≤ 1048576 := by omega
  have hw : IntKind.i64.wrap (s.base + (s.l.length : Int)) = s.base + (s.l.length : Int) := by rw [IntKind.wrap_i64]; omega
  by_cases h1 : i < s.base
  · have e1 : s.termAt i = (0, 140) := by unfold LogS.termAt; rw [if_pos (.inl h1)]
    rw [e1]
    obtain ⟨A, c, rfl⟩ := r1.shape
    clear hb r1 e1
    have q1 : decide (i < s.base) = true := decide_eq_true h1
    go_enter Try.func14, Try.ntmps14
    go_wp2_with (fail)
    go_quiet (fail)
    go_wp2
    go_ret2
    exact ⟨rfl, pw_drewN (Below.refl _ _) _⟩
  by_cases h2 : s.base + (s.l.length : Int) < i
  · have e1 : s.termAt i = (0, 140) := by unfold LogS.termAt; rw [if_pos (.inr h2)]
    rw [e1]
    obtain ⟨A, c, rfl⟩ := r1.shape
    clear hb r1 e1
    have q1 : decide (i < s.base) = false := decide_eq_false h1
    have q2 : decide (s.base + (s.l.length : Int) < i) = true := decide_eq_true h2
    go_enter Try.func14, Try.ntmps14
    go_wp2_with (fail)
    go_quiet (fail)
    go_wp2
    go_ret2
    exact ⟨rfl, pw_drewN (Below.refl _ _) _⟩
  by_cases h3 : i = s.base
  · have e1 : s.termAt i = (s.term, 0) := by unfold LogS.termAt; rw [if_neg (by omega), if_pos h3]
    rw [e1]
    obtain ⟨A, c, rfl⟩ := r1.shape
    subst h3
    have q1 : decide (s.base < s.base) = false := decide_eq_false h1
    have q2 : decide (s.base + (s.l.length : Int) < s.base) = false := decide_eq_false h2
    clear hb r1 e1
    go_enter Try.func14, Try.ntmps14
    go_wp2_with (fail)
    go_quiet (fail)
    go_wp2
    go_ret2
    exact ⟨rfl, pw_drewN (Below.refl _ _) _⟩
  · obtain ⟨j, hj⟩ : ∃ j : Nat, i - s.base - 1 = (j : Int) := Int.eq_ofNat_of_zero_le (by omega)
    have hjl : j < s.l.length := by omega
    have e1 : s.termAt i = ((s.l[j]'hjl).term, 0) := by
      unfold LogS.termAt
      rw [if_neg (by omega), if_neg h3, hj, Int.toNat_natCast, List.getElem?_eq_getElem hjl]
    rw [e1]
    obtain ⟨gb, c, rfl, hgl, hcl⟩ := r1.form (by omega)
    have q0 := r1.cell (fun _ => rfl) j 0 hjl (by omega)
    generalize s.l[j] = x at q0
    simp only [Ent.cells, List.getElem?_cons_zero, Nat.add_zero] at q0
    have j1 : (0 : Int) ≤ (j : Int) := by omega
    have j2 : (j : Int) < (s.l.length : Int) := by omega
    have hn0 : (0 : Int) ≤ (s.l.length : Int) := by omega
    have p1 : s.base < i := by omega
    have p2 : i ≤ s.base + (s.l.length : Int) := by omega
    have q1 : decide (i < s.base) = false := decide_eq_false h1
    have q2 : decide (s.base + (s.l.length : Int) < i) = false := decide_eq_false h2
    have q3 : decide (i = s.base) = false := decide_eq_false h3
    clear hb r1 e1 hcl hjl hl h1 h2
    generalize s.l.length = n at *
    go_enter Try.func14, Try.ntmps14
    go_wp2_with (fail)
    go_quiet (fail)
    go_wp2_with (fail)
    go_quiet (fail)
    go_wp2
    go_ret2
    exact ⟨rfl, pw_drewN (pw_drewN (Below.refl _ _) _) _⟩
end Go.Proofs.Ytpimpdgibcjbeaa
