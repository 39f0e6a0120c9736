import Derived.Test.YtpimpdgibcjbeaaRlH
namespace Go.Proofs.Ytpimpdgibcjbeaa
open Go Go.RowKit
set_option linter.unusedVariables false
set_option linter.unusedSimpArgs false

set_option maxHeartbeats 2000000 in
/-- Two rows of the same entries. -/
theorem same_true (v v' : Value) (l : List Ent) (w : World) (h : Row w 44 2 Ent.cells v l) (h' : Row w 44 2 Ent.cells v' l) (hl : l.length ≤ 4611686018427387904) :
    Calls Try.prog 19 #[v, v'] w fun e w' => e = .returned (.bool true) ∧ Below w.heap.size w w' := by
  obtain ⟨A, c, rfl⟩ := h.shape
  obtain ⟨A', c', rfl⟩ := h'.shape
  have H := Lib.hid h
  have H' := Lib.hid h'
  clear h h'
  obtain ⟨n, hn⟩ : ∃ n, l.length = n := ⟨_, rfl⟩
  rw [hn] at hl ⊢
  have HN := Lib.hid hn
  clear hn
  go_enter Try.func19, Try.ntmps19
  go_wp2_with (fail)
  go_loopg [5] n (fun gg s5 wr => ∃ k : Nat, k ≤ n ∧ n - k ≤ gg ∧ s5 = .int .i64 k ∧ Hid (Below w.heap.size w wr))
  case atStart => exact ⟨0, Nat.zero_le _, by omega, rfl, Lib.hid (Below.refl _ _)⟩
  case round =>
    obtain ⟨k, hk, hg, rfl, HB⟩ := hrel
    by_cases hlt : k < n
    · have g1 : (k : Int) < (n : Int) := by omega
      have g0 : (0 : Int) ≤ (k : Int) := by omega
      have hkl : k < l.length := by rw [HN.out]; exact hlt
      have R := (H.out.kept (Kept.of_below HB.out fun _ => False) (fun _ _ h => h))
      have R' := (H'.out.kept (Kept.of_below HB.out fun _ => False) (fun _ _ h => h))
      obtain ⟨gb, c2, hv, _, _⟩ := R.form (by omega)
      obtain ⟨gb', c2', hv', _, _⟩ := R'.form (by omega)
      injection hv with hA _ hc
      injection hv' with hA' _ hc'
      subst hA hc hA' hc'
      have x0 := R.cell (fun _ => rfl) k 0 hkl (by omega)
      have x1 := R.cell (fun _ => rfl) k 1 hkl (by omega)
      have y0 := R'.cell (fun _ => rfl) k 0 hkl (by omega)
      have y1 := R'.cell (fun _ => rfl) k 1 hkl (by omega)
      generalize l[k] = x at x0 x1 y0 y1
      simp only [Ent.cells, List.getElem?_cons_zero, List.getElem?_cons_succ, Nat.add_zero] at x0 x1 y0 y1
      have hneq := neq_entry x
      clear R R' hkl
      go_wp2_with (fail)
      go_quiet (fail)
      go_wp2
      go_roundg (n - (k + 1))
      case measure => omega
      case rel => exact ⟨k + 1, by omega, Nat.le_refl _, by go_num, Lib.hid (pw_drewN HB.out _)⟩
    · have g1 : ¬ ((k : Int) < (n : Int)) := by omega
      clear hlt
      go_wp2
      go_ret
      exact ⟨rfl, HB.out⟩
end Go.Proofs.Ytpimpdgibcjbeaa
