import Derived.Test.YtpimpdgibcjbeaaRlZf
namespace Go.Proofs.Ytpimpdgibcjbeaa
open Go Go.RowKit
set_option linter.unusedVariables false
set_option linter.unusedSimpArgs false

/-! The document's log. -/
def RAt (w : World) (F : Nat → Prop) (g : Nat) (s : LogS) : Prop :=
  ∃ vl, Blk w g 52 #[.int .i64 s.base, .int .i64 s.term, vl] ∧ Row w 44 2 Ent.cells vl s.l ∧ F g ∧ (∀ k, vl.ownBlock = some k → F k)
theorem RAt.kept {w w' : World} {F S : Nat → Prop} {g : Nat} {s : LogS} (h : RAt w F g s) (hk : Kept w w' S) (hn : ∀ k, k < w.heap.size → F k → ¬ S k) : RAt w' F g s := by
  obtain ⟨vl, hb, h1, hg, f1⟩ := h
  exact ⟨vl, hb.kept hk (hn g hb.lt hg), h1.kept hk (fun k e => hn k (h1.lt e) (f1 k e)), hg, f1⟩
theorem RAt.below {w w' : World} {F : Nat → Prop} {g : Nat} {s : LogS} (h : RAt w F g s) (hb : Below w.heap.size w w') : RAt w' F g s := h.kept (Kept.of_below hb fun _ => False) (fun _ _ _ h => h)
theorem RAt.mono {w : World} {F F' : Nat → Prop} {g : Nat} {s : LogS} (h : RAt w F g s) (hf : ∀ k, k < w.heap.size → F k → F' k) : RAt w F' g s := by
  obtain ⟨vl, hb, h1, hg, f1⟩ := h
  exact ⟨vl, hb, h1, hf g hb.lt hg, fun k e => hf k (h1.lt e) (f1 k e)⟩
theorem RAt.lt {w : World} {F : Nat → Prop} {g : Nat} {s : LogS} (h : RAt w F g s) : g < w.heap.size := by obtain ⟨vl, hb, _⟩ := h; exact hb.lt

theorem ref_last (F : Nat → Prop) (g : Nat) (s : LogS) (w : World) (h : RAt w F g s) (hb0 : 0 ≤ s.base) (hb1 : s.base ≤ 1048576) (hl : s.l.length ≤ 1048576) :
    Calls Try.prog 21 #[.pointer (some ⟨g, 0, none⟩)] w fun e w' => e = .returned (.tuple #[.int .i64 s.last, .int .i64 s.lastTerm]) ∧ Below w.heap.size w w' := by
  obtain ⟨vl, hb, r1, hg, f1⟩ := h
  have hlt := hb.lt
  have c0 := hb.cell 0
  have c1 := hb.cell 1
  have c2 := hb.cell 2
  unfold LogS.last
  rcases Nat.eq_zero_or_pos s.l.length with hn | hn
  · rw [LogS.lastTerm_nil hn]
    obtain ⟨A, c, rfl⟩ := r1.shape_n hn
    rw [hn]
    clear hb r1 hn hl
    go_enter Try.func21, Try.ntmps21
    go_wp2_with (fail)
    go_quiet (fail)
    go_wp2
    go_ret2
    exact ⟨by simp, pw_drewN (Below.refl _ _) _⟩
  · obtain ⟨j, hj⟩ : ∃ j, s.l.length = j + 1 := ⟨s.l.length - 1, by omega⟩
    rw [LogS.lastTerm_at hj]
    obtain ⟨gb, c, rfl, hgl, hcl⟩ := r1.form hn
    have q0 := r1.cell (fun _ => rfl) j 0 (by omega) (by omega)
    generalize hx : s.l[j] = x at q0
    simp only [Ent.cells, List.getElem?_cons_zero, Nat.add_zero] at q0
    have hn1 : (0 : Int) < (s.l.length : Int) := by omega
    have hs : (s.l.length : Int) - 1 = (j : Int) := by omega
    have j1 : (0 : Int) ≤ (j : Int) := by omega
    have j2 : (j : Int) < (s.l.length : Int) := by omega
    have j3 : (s.l.length : Int) ≤ 1048576 := by omega
    clear hb r1 hn hl hcl
    clear hx hj
    generalize s.l.length = n at *
    go_enter Try.func21, Try.ntmps21
    go_wp2_with (fail)
    go_quiet (fail)
    go_wp2
    go_ret2
    exact ⟨rfl, pw_drewN (Below.refl _ _) _⟩
set_option maxHeartbeats 1000000 in
theorem ref_term (F : Nat → Prop) (g : Nat) (s : LogS) (i : Int) (w : World) (h : RAt w F g s) (hb0 : 0 ≤ s.base) (hb1 : s.base ≤ 1048576) (hl : s.l.length ≤ 1048576) :
    Calls Try.prog 39 #[.pointer (some ⟨g, 0, none⟩), .int .i64 i] w fun e w' => e = .returned (.tuple #[.int .i64 (s.termAt i).1, .int .i64 (s.termAt i).2]) ∧ Below w.heap.size w w' := by
  obtain ⟨vl, hb, r1, hg, f1⟩ := h
  have hlt := hb.lt
  have c0 := hb.cell 0
  have c1 := hb.cell 1
  have c2 := hb.cell 2
  have hl1 : (s.l.length : Int) ≤ 1048576 := by omega
  have hw : IntKind.i64.wrap (s.base + (s.l.length : Int)) = s.base + (s.l.length : Int) := by rw [IntKind.wrap_i64]; omega
  by_cases h1 : i < s.base
  · have e1 : s.termAt i = (0, 140) := by unfold LogS.termAt; rw [if_pos (.inl h1)]
    rw [e1]
    obtain ⟨A, c, rfl⟩ := r1.shape
    clear hb r1 e1
    have q1 : decide (i < s.base) = true := decide_eq_true h1
    go_enter Try.func39, Try.ntmps39
    go_wp2_with (fail)
    go_quiet (fail)
    go_wp2
    go_ret2
    exact ⟨rfl, pw_drewN (Below.refl _ _) _⟩
  by_cases h2 : s.base + (s.l.length : Int) < i
  · have e1 : s.termAt i = (0, 140) := by unfold LogS.termAt; rw [if_pos (.inr h2)]
    rw [e1]
    obtain ⟨A, c, rfl⟩ := r1.shape
    clear hb r1 e1
    have q1 : decide (i < s.base) = false := decide_eq_false h1
    have q2 : decide (s.base + (s.l.length : Int) < i) = true := decide_eq_true h2
    go_enter Try.func39, Try.ntmps39
    go_wp2_with (fail)
    go_quiet (fail)
    go_wp2
    go_ret2
    exact ⟨rfl, pw_drewN (Below.refl _ _) _⟩
  by_cases h3 : i = s.base
  · have e1 : s.termAt i = (s.term, 0) := by unfold LogS.termAt; rw [if_neg (by omega), if_pos h3]
    rw [e1]
    obtain ⟨A, c, rfl⟩ := r1.shape
    subst h3
    have q1 : decide (s.base < s.base) = false := decide_eq_false h1
    have q2 : decide (s.base + (s.l.length : Int) < s.base) = false := decide_eq_false h2
    clear hb r1 e1
    go_enter Try.func39, Try.ntmps39
    go_wp2_with (fail)
    go_quiet (fail)
    go_wp2
    go_ret2
    exact ⟨rfl, pw_drewN (Below.refl _ _) _⟩
  · obtain ⟨j, hj⟩ : ∃ j : Nat, i - s.base - 1 = (j : Int) := Int.eq_ofNat_of_zero_le (by omega)
    have hjl : j < s.l.length := by omega
    have e1 : s.termAt i = ((s.l[j]'hjl).term, 0) := by
      unfold LogS.termAt
      rw [if_neg (by omega), if_neg h3, hj, Int.toNat_natCast, List.getElem?_eq_getElem hjl]
    rw [e1]
    obtain ⟨gb, c, rfl, hgl, hcl⟩ := r1.form (by omega)
    have q0 := r1.cell (fun _ => rfl) j 0 hjl (by omega)
    generalize s.l[j] = x at q0
    simp only [Ent.cells, List.getElem?_cons_zero, Nat.add_zero] at q0
    have j1 : (0 : Int) ≤ (j : Int) := by omega
    have j2 : (j : Int) < (s.l.length : Int) := by omega
    have hn0 : (0 : Int) ≤ (s.l.length : Int) := by omega
    have p1 : s.base < i := by omega
    have p2 : i ≤ s.base + (s.l.length : Int) := by omega
    have q1 : decide (i < s.base) = false := decide_eq_false h1
    have q2 : decide (s.base + (s.l.length : Int) < i) = false := decide_eq_false h2
    have q3 : decide (i = s.base) = false := decide_eq_false h3
    clear hb r1 e1 hcl hjl hl h1 h2
    generalize s.l.length = n at *
    go_enter Try.func39, Try.ntmps39
    go_wp2_with (fail)
    go_quiet (fail)
    go_wp2_with (fail)
    go_quiet (fail)
    go_wp2
    go_ret2
    exact ⟨rfl, pw_drewN (pw_drewN (Below.refl _ _) _) _⟩
theorem ref_behind (F : Nat → Prop) (g : Nat) (s : LogS) (i t : Int) (w : World) (h : RAt w F g s) (hb0 : 0 ≤ s.base) (hb1 : s.base ≤ 1048576) (hl : s.l.length ≤ 1048576) :
    Calls Try.prog 36 #[.pointer (some ⟨g, 0, none⟩), .int .i64 i, .int .i64 t] w fun e w' => e = .returned (.bool (s.behind i t)) ∧ Below w.heap.size w w' := by
  have hlast := ref_last F g s w h hb0 hb1 hl
  unfold LogS.behind
  generalize s.lastTerm = lt at hlast ⊢
  generalize s.last = la at hlast ⊢
  clear h hb0 hb1 hl
  by_cases h1 : lt < t
  · rw [decide_eq_true h1, Bool.true_or]
    go_enter Try.func36, Try.ntmps36
    go_wp2_with (fail)
    refine hlast.mono ?_
    rintro e w2 ⟨rfl, hb2⟩
    go_wp2
    go_ret
    first | exact ⟨rfl, hb2⟩ | (refine ⟨?_, hb2⟩; simp [*]) | (refine ⟨?_, hb2⟩; simp; omega)
  · by_cases h2 : t = lt
    · subst h2
      rw [decide_eq_false h1, decide_eq_true rfl, Bool.false_or, Bool.true_and]
      by_cases h3 : la ≤ i
      · rw [decide_eq_true h3]
        clear h1
        go_enter Try.func36, Try.ntmps36
        go_wp2_with (fail)
        refine hlast.mono ?_
        rintro e w2 ⟨rfl, hb2⟩
        go_wp2
        go_ret
        first | exact ⟨rfl, hb2⟩ | (refine ⟨?_, hb2⟩; simp [*]) | (refine ⟨?_, hb2⟩; simp; omega)
      · rw [decide_eq_false h3]
        have h5 : i < la := by omega
        have q1 : decide (t < t) = false := decide_eq_false h1
        have q3 : decide (la ≤ i) = false := decide_eq_false h3
        clear h1
        go_enter Try.func36, Try.ntmps36
        go_wp2_with (fail)
        refine hlast.mono ?_
        rintro e w2 ⟨rfl, hb2⟩
        go_wp2
        go_ret
        first | exact ⟨rfl, hb2⟩ | (refine ⟨?_, hb2⟩; simp [*]) | (refine ⟨?_, hb2⟩; simp; omega)
    · rw [decide_eq_false h1, decide_eq_false h2, Bool.false_or, Bool.false_and]
      have h4 : t < lt := by omega
      have q1 : decide (lt < t) = false := decide_eq_false h1
      have q2 : decide (t = lt) = false := decide_eq_false h2
      clear h1
      go_enter Try.func36, Try.ntmps36
      go_wp2_with (fail)
      refine hlast.mono ?_
      rintro e w2 ⟨rfl, hb2⟩
      go_wp2
      go_ret
      first | exact ⟨rfl, hb2⟩ | (refine ⟨?_, hb2⟩; simp [*]) | (refine ⟨?_, hb2⟩; simp; omega)
/-- A stretch that is read, wherever it lies. -/
def SegG {α : Type} (w : World) (enc : α → List Value) (v : Value) (l : List α) : Prop :=
  ∃ A c, v = .slice A l.length c ∧ l.length ≤ c ∧ c ≤ maxLen ∧ (0 < l.length → ∃ ad, A = some ad ∧ ∀ j u, (l.flatMap enc)[j]? = some u → w.cell? (ad.add j) = some u)
theorem add_block (ad : Addr) (j : Nat) : (ad.add j).block = ad.block := by unfold Addr.add; split <;> rfl
section
variable {α : Type} {w w' : World} {enc : α → List Value} {v : Value} {l : List α}
theorem SegG.of_seg (h : Seg w enc v l) : SegG w enc v l := by
  obtain ⟨A, c, rfl, h1, h2, h3⟩ := h
  refine ⟨A, c, rfl, h1, h2, fun h0 => ?_⟩
  obtain ⟨g, rfl, hc⟩ := h3 h0
  exact ⟨_, rfl, fun j u hu => by rw [addr0]; exact hc j u hu⟩
theorem SegG.kept {S : Nat → Prop} (h : SegG w enc v l) (hk : Kept w w' S) (hS : ∀ k, v.ownBlock = some k → ¬ S k) : SegG w' enc v l := by
  obtain ⟨A, c, rfl, hc, hm, h⟩ := h
  refine ⟨A, c, rfl, hc, hm, fun h0 => ?_⟩
  obtain ⟨ad, rfl, hcell⟩ := h h0
  refine ⟨ad, rfl, fun j u hu => ?_⟩
  have hx := hcell j u hu
  rw [hk.cell (p := ad.add j) (World.block_lt_of_cell? w _ hx) (hS _ (by rw [add_block]; simp [Value.ownBlock]))]
  exact hx
theorem SegG.kept0 {S : Nat → Prop} (h : SegG w enc v l) (hk : Kept w w' S) (hS : 0 < l.length → ∀ k, v.ownBlock = some k → ¬ S k) : SegG w' enc v l := by
  rcases Nat.eq_zero_or_pos l.length with h0 | h0
  · obtain ⟨A, c, rfl, hc, hm, _⟩ := h
    exact ⟨A, c, rfl, hc, hm, fun h => by omega⟩
  · exact h.kept hk (hS h0)
theorem SegG.below (h : SegG w enc v l) (hb : Below w.heap.size w w') : SegG w' enc v l := h.kept (Kept.of_below hb fun _ => False) (fun _ _ h => h)
theorem SegG.shape (h : SegG w enc v l) : ∃ A c, v = .slice A l.length c ∧ l.length ≤ c ∧ c ≤ maxLen := by
  obtain ⟨A, c, rfl, hc, hm, h⟩ := h
  exact ⟨A, c, rfl, hc, hm⟩
theorem SegG.form (h : SegG w enc v l) (hn : 0 < l.length) : ∃ ad c, v = .slice (some ad) l.length c ∧ l.length ≤ c ∧ c ≤ maxLen := by
  obtain ⟨A, c, rfl, hc, hm, h⟩ := h
  obtain ⟨ad, rfl, _⟩ := h hn
  exact ⟨ad, c, rfl, hc, hm⟩
theorem SegG.cell {ad : Addr} {n c sz : Nat} (h : SegG w enc (.slice (some ad) n c) l) (hs : ∀ x, (enc x).length = sz) (i j : Nat) (hi : i < l.length) (hj : j < sz) : w.cell? (adr ad (i * sz) j) = (enc l[i])[j]? := by
  obtain ⟨A, c', hv, _, _, h⟩ := h
  obtain ⟨ad', hA, hcell⟩ := h (by omega)
  simp only [Value.slice.injEq] at hv
  obtain ⟨rfl, _, _⟩ := hv
  injection hA with hA
  subst hA
  have e1 := flat_get hs l i j hi hj
  obtain ⟨u, hu⟩ : ∃ u, (enc l[i])[j]? = some u := ⟨(enc l[i])[j]'(by rw [hs]; exact hj), List.getElem?_eq_getElem _⟩
  rw [hu] at e1 ⊢
  rw [adr_eq]
  exact hcell _ _ e1
end
end Go.Proofs.Ytpimpdgibcjbeaa
