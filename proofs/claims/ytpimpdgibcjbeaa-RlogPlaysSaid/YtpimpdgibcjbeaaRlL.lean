import Derived.Test.YtpimpdgibcjbeaaRlK
namespace Go.Proofs.Ytpimpdgibcjbeaa
open Go Go.RowKit
set_option linter.unusedVariables false
set_option linter.unusedSimpArgs false

/-- A log of the call's own: all it owns is behind block B. -/
structure LoneL (B : Nat) (w0 w : World) (F : Nat → Prop) (g : Nat) (s : LogS) : Prop where
  log : LogAt w F g s
  foot : ∀ k, F k → B ≤ k ∧ k < w.heap.size
  back : Below B w0 w
  base : B ≤ w0.heap.size
section
variable {B : Nat} {w0 w w' : World} {g : Nat} {s s' : LogS} {F S : Nat → Prop}
theorem LoneL.of (h : LoneL B w0 w F g s) (hp : LogPost w F g s' w') : LoneL B w0 w' (grow F w w') g s' := by
  have hz := h.back.size
  have hb := h.base
  refine ⟨hp.2, fun k hk => ?_, h.back.trans (hp.1.below (by omega) (fun k hk hf => by have := (h.foot k hf).1; omega)), h.base⟩
  rcases hk with hk | hk
  · exact ⟨(h.foot k hk).1, Nat.lt_of_lt_of_le (h.foot k hk).2 hp.1.size⟩
  · exact ⟨by omega, hk.2⟩
theorem LoneL.below (h : LoneL B w0 w F g s) (hb : Below w.heap.size w w') : LoneL B w0 w' F g s := by
  have hz := h.back.size
  have hB := h.base
  exact ⟨h.log.below hb, fun k hk => ⟨(h.foot k hk).1, Nat.lt_of_lt_of_le (h.foot k hk).2 hb.size⟩, h.back.trans (hb.mono (by omega)), h.base⟩
theorem LoneL.kept (h : LoneL B w0 w F g s) (hk : Kept w w' S) (hn : ∀ k, F k → ¬ S k) (hS : ∀ k, S k → B ≤ k) : LoneL B w0 w' F g s := by
  have hz := h.back.size
  have hB := h.base
  exact ⟨h.log.kept hk (fun k _ hf => hn k hf), fun k hf => ⟨(h.foot k hf).1, Nat.lt_of_lt_of_le (h.foot k hf).2 hk.size⟩, h.back.trans (hk.below (by omega) (fun k hk' hs => by have := hS k hs; omega)), h.base⟩
theorem LoneL.drewN (h : LoneL B w0 w F g s) (n : Nat) : LoneL B w0 (w.drewN n) F g s := ⟨h.log, h.foot, pw_drewN h.back n, h.base⟩
end
theorem LoneL.new {w : World} : Calls Try.prog 16 #[] w fun e w' => e = .returned (.pointer (some ⟨w.heap.size, 0, none⟩)) ∧ LoneL w.heap.size w w' (fun k => k = w.heap.size) w.heap.size ⟨0, 0, []⟩ := by
  refine (log_new w).mono ?_
  rintro e w' ⟨rfl, hb, hl, hs⟩
  exact ⟨rfl, hl, fun k hk => ⟨by omega, by omega⟩, hb, Nat.le_refl _⟩
end Go.Proofs.Ytpimpdgibcjbeaa
