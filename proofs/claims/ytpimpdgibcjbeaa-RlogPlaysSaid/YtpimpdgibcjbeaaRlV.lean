import Derived.Test.YtpimpdgibcjbeaaRlU
namespace Go.Proofs.Ytpimpdgibcjbeaa
open Go Go.RowKit
set_option linter.unusedVariables false
set_option linter.unusedSimpArgs false

def LogS.agreed (s : LogS) (zs : List Int) (term commit : Int) : Int × Int := if zs = [] ∨ commit < 0 then (0, 1) else (s.agreedN (medZ zs) term commit, 0)
set_option maxRecDepth 100000 in
set_option maxHeartbeats 1000000 in
theorem agreed_bad (g : Nat) (A : Option Addr) (m cap : Nat) (term commit : Int) (w : World) (hbad : m = 0 ∨ commit < 0) :
    Calls Try.prog 13 #[.pointer (some ⟨g, 0, none⟩), .slice A m cap, .int .i64 term, .int .i64 commit] w fun e w' => e = .returned (.tuple #[.int .i64 0, .int .i64 1]) ∧ Below w.heap.size w w' := by
  have hB : Below w.heap.size w ((((w.alloc (.cells #[.int .i64 term] 3)).alloc (.cells #[.int .i64 0] 3)).alloc (.cells #[.int .i64 1] 29))) := ((((Below.refl _ w).alloc (Nat.le_refl _) _).alloc (by simp) _).alloc (by simp; omega) _)
  have h8 : ((((w.alloc (.cells #[.int .i64 term] 3)).alloc (.cells #[.int .i64 0] 3)).alloc (.cells #[.int .i64 1] 29))).cell? ⟨w.heap.size + 1, 0, none⟩ = some (.int .i64 0) := by
    have := (Blk.new (w.alloc (.cells #[.int .i64 term] 3)) 3 #[.int .i64 0]).alloc (.cells #[.int .i64 1] 29)
    rw [World.size_alloc] at this
    exact this.cell 0
  have h9 : ((((w.alloc (.cells #[.int .i64 term] 3)).alloc (.cells #[.int .i64 0] 3)).alloc (.cells #[.int .i64 1] 29))).cell? ⟨w.heap.size + 1 + 1, 0, none⟩ = some (.int .i64 1) := by
    have := Blk.new ((w.alloc (.cells #[.int .i64 term] 3)).alloc (.cells #[.int .i64 0] 3)) 29 #[.int .i64 1]
    rw [World.size_alloc, World.size_alloc] at this
    exact this.cell 0
  by_cases hm : m = 0
  · subst hm
    clear hbad
    go_enter Try.func13, Try.ntmps13
    go_wp2
    refine bodyPost_ret (v := .tuple #[.int .i64 0, .int .i64 1]) ?_ rfl ⟨rfl, hB⟩
    simp [results, Try.results13, go_sem, h8, h9]
  · have hc : commit < 0 := by omega
    have q0 : ((m : Int) == 0) = false := by simp; omega
    have q1 : decide (commit < 0) = true := decide_eq_true hc
    clear hbad hm
    go_enter Try.func13, Try.ntmps13
    go_wp2
    refine bodyPost_ret (v := .tuple #[.int .i64 0, .int .i64 1]) ?_ rfl ⟨rfl, hB⟩
    simp [results, Try.results13, go_sem, h8, h9]
theorem agreed_nil (A : Option Addr) (c : Nat) (w : World) : ∀ zs : List Int, Seg w icell (.slice A zs.length c) zs → 0 < zs.length → ∃ b, A = some ⟨b, 0, none⟩ ∧ zs.length ≤ c ∧ ∀ j, j < zs.length → w.cell? ⟨b, j, none⟩ = some (.int .i64 (zs[j]?.getD 0)) := by
  intro zs h hp
  obtain ⟨A', c', hv, hc, _, hcell⟩ := h
  simp only [Value.slice.injEq] at hv
  obtain ⟨rfl, _, rfl⟩ := hv
  obtain ⟨b, rfl, hcl⟩ := hcell hp
  refine ⟨b, rfl, hc, fun j hj => hcl j _ ?_⟩
  rw [icells_map, List.getElem?_map, List.getElem?_eq_getElem hj]
  rfl
theorem log_agreed (F : Nat → Prop) (g : Nat) (s : LogS) (v : Value) (zs : List Int) (term commit : Int) (w : World) (h : LogAt w F g s) (hb0 : 0 ≤ s.base) (hl : s.base + s.l.length ≤ 1048576) (hS : Seg w icell v zs) (hreach : zs.length * 8 ≤ 140737488351232) :
    Calls Try.prog 13 #[.pointer (some ⟨g, 0, none⟩), v, .int .i64 term, .int .i64 commit] w fun e w' => e = .returned (.tuple #[.int .i64 (s.agreed zs term commit).1, .int .i64 (s.agreed zs term commit).2]) ∧ Below w.heap.size w w' := by
  obtain ⟨A, c, rfl, _⟩ := hS.shape
  unfold LogS.agreed
  by_cases hbad : zs = [] ∨ commit < 0
  · rw [if_pos hbad]
    exact agreed_bad g A zs.length c term commit w (hbad.imp (fun h => by rw [h]; rfl) id)
  · rw [if_neg hbad]
    have hne : 0 < zs.length := List.length_pos_iff.2 fun h => hbad (.inl h)
    obtain ⟨b, rfl, hc, hI⟩ := agreed_nil A c w zs hS hne
    exact (callsIn_wide (n := 10)).1 (agreed_in 10 (Nat.le_refl _) F g s b c zs term commit hb0 hl hne hc hreach (by rcases Int.lt_or_le commit 0 with h | h; exact absurd (.inr h) hbad; exact h) w h hI)
end Go.Proofs.Ytpimpdgibcjbeaa
