import Derived.Test.YtcpenjbgiecgnaaBkG
import Derived.Test.YtcpenjbgiecgnaaKI
namespace Go.Proofs.Ytcpenjbgiecgnaa
open Go Go.RowKit Go.Shelf
open Go.Maps (Keyed IsMap)
set_option linter.unusedVariables false
set_option linter.unusedSimpArgs false
attribute [local go_sem] Oper.semAt_some

/-! Clients. -/
theorem isort_rise {ys : List Int} (h : ys.Nodup) : (isort ys).Pairwise (· < ·) := by
  have h1 : (isort ys).Pairwise fun a b => decide (a ≤ b) = true := List.pairwise_mergeSort (le := fun x y : Int => decide (x ≤ y)) (fun a b c h1 h2 => decide_eq_true (Int.le_trans (of_decide_eq_true h1) (of_decide_eq_true h2))) (fun a b => by rcases Int.le_total a b with h | h <;> simp <;> omega) ys
  have h2 : (isort ys).Nodup := (List.mergeSort_perm ys _).nodup_iff.2 h
  refine (h1.and h2).imp fun {a b} ⟨h1, h2⟩ => ?_
  have := of_decide_eq_true h1
  omega
theorem isort_mem {ys : List Int} (k : Int) : k ∈ isort ys ↔ k ∈ ys := (List.mergeSort_perm ys _).mem_iff
set_option maxRecDepth 100000 in
set_option maxHeartbeats 2000000 in
theorem bk_clients (F : Nat → Prop) (g d nb : Nat) (S : Int → List Int) (w : World) (h : BkAt w F g d nb S) (hnb : nb ≤ 1000000) :
    Calls Try.prog 19 #[.pointer (some ⟨g, 0, none⟩)] w fun e w' => ∃ v cs, e = .returned v ∧ Row w' 3 1 icl v cs ∧ cs.Pairwise (· < ·) ∧ (∀ c, c ∈ cs ↔ S c ≠ [] ∧ (Lit.int .i64 c).wf = true) ∧ Below w.heap.size w w' ∧ ∀ k, v.ownBlock = some k → w.heap.size ≤ k := by
  refine (callsIn_wide (n := 6)).1 ?_
  obtain ⟨mb, m, L, h, hl⟩ := h
  have hlt := h.blk.lt
  have c1 := h.blk.cell 1
  obtain ⟨D, hown, hi, hD⟩ := h.im
  have hsz : Maps.size D ≤ nb := by
    obtain ⟨es, clock, hb, F', hs, rfl⟩ := hown
    simpa [Maps.size, Go.length_sorted] using hs
  have hown' : (w.alloc (.cells #[.map (some mb)] 51)).ownsMap Try.prog 3 tokR mb nb D := by
    have hbl := hown.lt
    obtain ⟨es, clock, hb, rest⟩ := hown
    exact ⟨es, clock, (Below.heap_alloc w _ mb hbl).trans hb, rest⟩
  have hseq := ikeys_stops (6 - 1 - 1 - 1 - 1) (by omega) w.heap.size mb nb D (w.alloc (.cells #[.map (some mb)] 51)) (by simp) (by have := (Blk.new w 51 #[.map (some mb)]).cell 0; exact this) hown'
  have cK : ∀ mb W, CallsIn Fence.wide 5 Try.prog 30 #[.map mb] W _ := fun mb W => ikeys_in 5 mb W
  have cS := isorted_in 5 (by omega) 40 #[.pointer (some ⟨w.heap.size, 0, none⟩)] (enters_of Try.func40 (by kernel_rfl) rfl) _ (Maps.size D) (by omega) _ hseq
  have hfK : Fence.wide.fn 30 := trivial
  have hfS : Fence.wide.fn 29 := trivial
  have HH := Lib.hid h
  have HL := Lib.hid hl
  have HD := Lib.hid hD
  clear hseq h hl hown hown' hsz hD
  refine callsIn_of_wp Try.func19 rfl trivial ?_ rfl
  simp only [Try.ntmps19, List.size_toArray, List.length_cons, List.length_nil, Nat.reduceAdd, Nat.reduceSub, Array.replicate_succ, Array.replicate_zero, List.push_toArray, List.append_toArray, List.nil_append, List.cons_append]
  gi_wp2_with (first
    | (gi_at_call 30; refine (cK _ _).mono ?_; rintro e w' ⟨rfl, rfl⟩)
    | (gi_at_call 29; refine cS.mono ?_; rintro e w' ⟨v, ys, rfl, hS, hrow, hb⟩))
  go_ret
  obtain ⟨hnd, hwf, hmem⟩ := hS
  have hr2 : w'.ownsRow 0 3 1 v (isort ys).length ((isort ys).flatMap icl) := by
    have := hrow
    rw [isort_length]
    have e1 : (isort ys).map (Value.int .i64) = (isort ys).flatMap icl := by
      induction isort ys with
      | nil => rfl
      | cons x l ih => rw [List.map_cons, List.flatMap_cons, ih]; rfl
    rw [← e1]
    refine ⟨this.1, ?_⟩
    rcases this.2 with h | ⟨g, cap, cur, h1, h2, h3⟩
    · exact .inl h
    · exact .inr ⟨g, cap, cur, h1, Nat.zero_le _, h3⟩
  refine ⟨v, isort ys, rfl, hr2, isort_rise hnd, fun c => ?_, ((Below.refl _ w).alloc (Nat.le_refl _) _).trans (hb.mono (by simp)), fun k hk => ?_⟩
  · rw [isort_mem, hmem]
    constructor
    · intro hc
      have hw := hwf c ((hmem c).2 hc)
      refine ⟨?_, hw⟩
      rw [(HD.out c hw).1] at hc
      have := (HH.out.sup c).1 hc
      rw [← HL.out c]
      intro e
      exact this (List.map_eq_nil_iff.1 e)
    · rintro ⟨hc, hw⟩
      rw [(HD.out c hw).1]
      refine (HH.out.sup c).2 fun e => hc ?_
      rw [← HL.out c, e]
      rfl
  · have := (World.ownsRow.lt hrow k hk).1
    simp at this
    omega
end Go.Proofs.Ytcpenjbgiecgnaa
