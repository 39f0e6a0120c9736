import Derived.Test.YtcpenjbgiecgnaaBkH
namespace Go.Proofs.Ytcpenjbgiecgnaa
open Go Go.RowKit
set_option linter.unusedVariables false
set_option linter.unusedSimpArgs false
set_option maxRecDepth 100000

/-! DedupDeeper: the plain law, and two books of the call's own. -/
structure DP (d1 d2 : Nat) (S T Q : Int → List Int) : Prop where
  s : ∀ c, S c = cutN d1 (Q c)
  t : ∀ c, T c = cutN d2 (Q c)
  rise : ∀ c, (Q c).Pairwise (· < ·)
section
variable {d1 d2 : Nat} {S T Q : Int → List Int}
theorem DP.last (h : DP d1 d2 S T Q) (h1 : 1 ≤ d1) (h2 : 1 ≤ d2) (c : Int) : lastN (T c) = lastN (S c) := by
  rw [h.s, h.t, lastN_cut h1, lastN_cut h2]
theorem DP.sub (h : DP d1 d2 S T Q) (hd : d1 ≤ d2) (c n : Int) (hn : n ∈ S c) : n ∈ T c := by
  rw [h.s] at hn
  rw [h.t]
  unfold cutN at *
  obtain ⟨i, hi, he⟩ := List.getElem_of_mem hn
  rw [List.getElem_drop] at he
  rw [List.length_drop] at hi
  refine List.mem_iff_getElem.2 ⟨(Q c).length - d1 + i - ((Q c).length - d2), by rw [List.length_drop]; omega, ?_⟩
  rw [List.getElem_drop, ← he]
  congr 1
  omega
theorem refused {l : List Int} {n : Int} (h : n ∈ l ∨ n ≤ lastN l) : noteE l n = 6 ∨ noteE l n = 230 := by
  unfold noteE askE
  by_cases h1 : n ∈ l
  · rw [if_pos h1]; exact .inl rfl
  · rw [if_neg h1, if_pos (h.resolve_left h1)]; exact .inr rfl
theorem DP.note (h : DP d1 d2 S T Q) (h1 : 1 ≤ d1) (h2 : 1 ≤ d2) (c n : Int) :
    ((noteE (S c) n = 0 ∧ noteE (T c) n = 0) ∨ ((noteE (S c) n = 6 ∨ noteE (S c) n = 230) ∧ (noteE (T c) n = 6 ∨ noteE (T c) n = 230))) ∧ ∃ Q', DP d1 d2 (noteS d1 S c n) (noteS d2 T c n) Q' := by
  have e1 : lastN (S c) = lastN (Q c) := by rw [h.s, lastN_cut h1]
  have e2 : lastN (T c) = lastN (Q c) := by rw [h.t, lastN_cut h2]
  by_cases hn : n ≤ lastN (Q c)
  · have r1 : n ∈ S c ∨ n ≤ lastN (S c) := .inr (by omega)
    have r2 : n ∈ T c ∨ n ≤ lastN (T c) := .inr (by omega)
    refine ⟨.inr ⟨refused r1, refused r2⟩, Q, ?_⟩
    unfold noteS
    rw [if_pos r1, if_pos r2]
    exact h
  · have m1 : n ∉ S c := fun hm => by
      rw [h.s] at hm
      have := rise_last (h.rise c) (List.mem_of_mem_drop hm)
      omega
    have m2 : n ∉ T c := fun hm => by
      rw [h.t] at hm
      have := rise_last (h.rise c) (List.mem_of_mem_drop hm)
      omega
    refine ⟨.inl ⟨?_, ?_⟩, addQ Q c n, ?_⟩
    · unfold noteE askE
      rw [if_neg m1, if_neg (by omega)]
    · unfold noteE askE
      rw [if_neg m2, if_neg (by omega)]
    unfold noteS
    rw [if_neg (fun e => e.elim m1 (by omega)), if_neg (fun e => e.elim m2 (by omega))]
    refine ⟨fun j => ?_, fun j => ?_, fun j => ?_⟩
    · unfold addQ
      by_cases hj : j = c
      · simp only [hj, if_pos]
        rw [h.s c, cut_cut h1]
      · simp only [if_neg hj]
        exact h.s j
    · unfold addQ
      by_cases hj : j = c
      · simp only [hj, if_pos]
        rw [h.t c, cut_cut h2]
      · simp only [if_neg hj]
        exact h.t j
    · unfold addQ
      by_cases hj : j = c
      · simp only [hj, if_pos]
        refine List.pairwise_append.2 ⟨h.rise c, by simp, fun a ha b hb => ?_⟩
        rw [List.mem_singleton.1 hb]
        have := rise_last (h.rise c) ha
        omega
      · simp only [if_neg hj]
        exact h.rise j
end
/-- Two books. -/
structure DU (w0 w : World) (F G : Nat → Prop) (a d1 nb1 : Nat) (S : Int → List Int) (b d2 nb2 : Nat) (T : Int → List Int) : Prop where
  l1 : LB w0 w F a d1 nb1 S
  l2 : LB w0 w G b d2 nb2 T
  dis : ∀ k, F k → ¬ G k
section
variable {w0 w w' : World} {F G : Nat → Prop} {a d1 nb1 b d2 nb2 : Nat} {S T : Int → List Int} {c n : Int} {rv : Value}
theorem DU.below (h : DU w0 w F G a d1 nb1 S b d2 nb2 T) (hb : Below w.heap.size w w') : DU w0 w' F G a d1 nb1 S b d2 nb2 T := ⟨h.l1.below hb, h.l2.below hb, h.dis⟩
theorem DU.alloc (h : DU w0 w F G a d1 nb1 S b d2 nb2 T) (o : Obj) : DU w0 (w.alloc o) F G a d1 nb1 S b d2 nb2 T := h.below ((Below.refl _ _).alloc (Nat.le_refl _) o)
theorem DU.drewN (h : DU w0 w F G a d1 nb1 S b d2 nb2 T) (n : Nat) : DU w0 (w.drewN n) F G a d1 nb1 S b d2 nb2 T := h.below (Kept.below ((Kept.refl w fun _ => False).drewN n) (Nat.le_refl _) (fun _ _ h => h))
theorem DU.drew (h : DU w0 w F G a d1 nb1 S b d2 nb2 T) : DU w0 w.drew F G a d1 nb1 S b d2 nb2 T := h.below (Kept.below ((Kept.refl w fun _ => False).drew) (Nat.le_refl _) (fun _ _ h => h))
theorem DU.note1 (h : DU w0 w F G a d1 nb1 S b d2 nb2 T) (hr : One w rv n) (hc : 0 ≤ c) (hc2 : c ≤ 1000) (hn : 1 ≤ n) (hn2 : n ≤ 1048576) (hd1 : 1 ≤ d1) (hd : d1 ≤ 64) (hS : (S c).length ≤ 64) (hnb : nb1 < 1000000) :
    Calls Try.prog 10 #[.pointer (some ⟨a, 0, none⟩), .agg #[.int .i64 c, .int .i64 n, rv, .int .i64 0, .int .i64 0]] w fun e w' => e = .returned (.int .i64 (noteE (S c) n)) ∧ ∃ F' nb', DU w0 w' F' G a d1 nb' (noteS d1 S c n) b d2 nb2 T ∧ nb' ≤ nb1 + 1 ∧ Kept w w' F :=
  (bk_note F a d1 nb1 S c n rv w h.l1.bk hr hc hc2 hn hn2 hd1 hd hS hnb).mono fun e w' ⟨he, F', nb', h1, h2, h3, h4⟩ =>
    have hw0 := h.l1.h.size
    ⟨he, F', nb', ⟨h.l1.noted h1 h2 h3, ⟨h.l2.bk.kept h2 (fun k hg hf => h.dis k hf hg), h.l2.own, h.l2.h.trans (h2.below hw0 (fun k hk e => absurd (h.l1.own k e) (by omega)))⟩,
      fun k hf hg => (h3 k hf).elim (fun hf => h.dis k hf hg) (fun hs => absurd (h.l2.bk.lt k hg) (by omega))⟩, h4, h2⟩
theorem DU.swap (h : DU w0 w F G a d1 nb1 S b d2 nb2 T) : DU w0 w G F b d2 nb2 T a d1 nb1 S := ⟨h.l2, h.l1, fun k hg hf => h.dis k hf hg⟩
theorem DU.note2 (h : DU w0 w F G a d1 nb1 S b d2 nb2 T) (hr : One w rv n) (hc : 0 ≤ c) (hc2 : c ≤ 1000) (hn : 1 ≤ n) (hn2 : n ≤ 1048576) (hd1 : 1 ≤ d2) (hd : d2 ≤ 64) (hS : (T c).length ≤ 64) (hnb : nb2 < 1000000) :
    Calls Try.prog 10 #[.pointer (some ⟨b, 0, none⟩), .agg #[.int .i64 c, .int .i64 n, rv, .int .i64 0, .int .i64 0]] w fun e w' => e = .returned (.int .i64 (noteE (T c) n)) ∧ ∃ F' nb', DU w0 w' F F' a d1 nb1 S b d2 nb' (noteS d2 T c n) ∧ nb' ≤ nb2 + 1 ∧ Kept w w' G :=
  (h.swap.note1 hr hc hc2 hn hn2 hd1 hd hS hnb).mono fun e w' ⟨he, F', nb', h1, h2, h3⟩ => ⟨he, F', nb', h1.swap, h2, h3⟩
/-- An Ask of either book: noted or not. -/
theorem bk_ask_b (h : BkAt w F a d1 nb1 S) (hc : 0 ≤ c) (hc2 : c ≤ 1000) (hn : 1 ≤ n) (hn2 : n ≤ 1048576) :
    Calls Try.prog 12 #[.pointer (some ⟨a, 0, none⟩), .int .i64 c, .int .i64 n] w fun e w' => ∃ (x0 x1 : Int) (xA : Option Addr) (xl xc : Nat) (er : Int), e = .returned (.tuple #[.agg #[.int .i64 x0, .int .i64 x1, .slice xA xl xc, .int .i64 0, .int .i64 0], .bool (decide (n ∈ S c)), .int .i64 er]) ∧ Below w.heap.size w w' :=
  (bk_ask F a d1 nb1 S c n w h hc hc2 hn hn2).mono fun e w' ⟨hb, hq⟩ => hq.elim
    (fun ⟨h1, rv, h2, h3, _⟩ => by
      obtain ⟨g5, c5, rfl, _⟩ := h3.form
      exact ⟨c, n, _, _, _, 0, by rw [h2]; unfold askHit; rw [decide_eq_true h1], hb⟩)
    (fun ⟨h1, h2⟩ => ⟨0, 0, none, 0, 0, askE (S c) n, by rw [h2]; unfold askMiss; rw [decide_eq_false h1], hb⟩)
end
end Go.Proofs.Ytcpenjbgiecgnaa
