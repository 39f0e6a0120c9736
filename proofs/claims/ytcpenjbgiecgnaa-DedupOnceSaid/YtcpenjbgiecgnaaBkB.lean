import Derived.Test.YtcpenjbgiecgnaaBkA
namespace Go.Proofs.Ytcpenjbgiecgnaa
open Go Go.RowKit
open Go.Proofs.YtcpenjbgiecgnaaW.PrintLast
set_option linter.unusedVariables false
set_option linter.unusedSimpArgs false

/-! The book of what clients were answered. -/
theorem keyI {n : Int} (h : 0 ≤ n ∧ n ≤ 9223372036854775807) : (Lit.int .i64 n).wf = true ∧ keyOf Try.prog 3 (.int .i64 n) = some (.int .i64 n) := by
  have hw := WalkArith.wf_i64 (n := n) (by omega)
  exact ⟨hw, Go.Maps.keyOf_int_mk Try.underlying3 hw⟩
/-- A noted reply: where its results lie, and its number. -/
abbrev RX := (Nat × Nat) × Int
def RX.v (x : RX) : Value := .slice (some ⟨x.1.1, 0, none⟩) 1 x.1.2
def enR (c : Int) (x : RX) : List Value := [.int .i64 c, .int .i64 x.2, x.v, .int .i64 0, .int .i64 0]
theorem one_reply (c : Int) (x : RX) : ∀ u ∈ enR c x, u.oneCell' = true := by
  intro u hu
  simp [enR, RX.v] at hu
  rcases hu with rfl | rfl | rfl | rfl <;> rfl
def qv (m : Int → Option Value) (c : Int) : Value := (m c).getD (.slice none 0 0)
theorem qv_upd (m : Int → Option Value) (c : Int) (x : Value) (j : Int) : qv (upd m c x) j = if j = c then x else qv m j := by
  unfold qv upd
  split <;> rfl
structure BkI (w : World) (F : Nat → Prop) (g d nb mb : Nat) (m : Int → Option Value) (L : Int → List RX) : Prop where
  blk : Blk w g 53 #[.int .i64 d, .map (some mb)]
  im : IMap w 3 mb nb id m
  row : ∀ c, QRow w 38 5 (enR c) (qv m c) (L c)
  one : ∀ c x, x ∈ L c → One w x.v x.2
  fg : F g
  fm : F mb
  fr : ∀ c k, (qv m c).ownBlock = some k → F k
  fo : ∀ c x, x ∈ L c → ∀ k, x.v.ownBlock = some k → F k
  ap : ∀ c c' k, (qv m c).ownBlock = some k → (qv m c').ownBlock = some k → c = c'
  lt : ∀ k, F k → k < w.heap.size
  sup : ∀ c, (m c).isSome = true ↔ L c ≠ []
def BkAt (w : World) (F : Nat → Prop) (g d nb : Nat) (S : Int → List Int) : Prop :=
  ∃ mb m L, BkI w F g d nb mb m L ∧ ∀ c, (L c).map (·.2) = S c
section
variable {w w' : World} {F : Nat → Prop} {g d nb mb : Nat} {m : Int → Option Value} {L : Int → List RX} {S : Int → List Int}
theorem BkI.kept {S : Nat → Prop} (h : BkI w F g d nb mb m L) (hk : Kept w w' S) (hS : ∀ k, F k → ¬ S k) : BkI w' F g d nb mb m L :=
  ⟨h.blk.kept hk (hS g h.fg), h.im.kept hk (hS mb h.fm), fun c => (h.row c).kept hk (fun k e => hS k (h.fr c k e)), fun c x hx => (h.one c x hx).kept hk (fun k e => hS k (h.fo c x hx k e)), h.fg, h.fm, h.fr, h.fo, h.ap, fun k hF => Nat.lt_of_lt_of_le (h.lt k hF) hk.size, h.sup⟩
theorem BkI.below (h : BkI w F g d nb mb m L) (hb : Below w.heap.size w w') : BkI w' F g d nb mb m L := h.kept (Kept.of_below hb fun _ => False) (fun _ _ h => h)
theorem BkAt.kept {T : Nat → Prop} (h : BkAt w F g d nb S) (hk : Kept w w' T) (hS : ∀ k, F k → ¬ T k) : BkAt w' F g d nb S := by
  obtain ⟨mb, m, L, h, hl⟩ := h
  exact ⟨mb, m, L, h.kept hk hS, hl⟩
theorem BkAt.below (h : BkAt w F g d nb S) (hb : Below w.heap.size w w') : BkAt w' F g d nb S := h.kept (Kept.of_below hb fun _ => False) (fun _ _ h => h)
theorem BkAt.lt (h : BkAt w F g d nb S) : ∀ k, F k → k < w.heap.size := by obtain ⟨mb, m, L, h, hl⟩ := h; exact h.lt
end
theorem zero_reps : ∀ w : World, (zeroValue 54).run Try.prog w = .ok (.slice none 0 0) w := fun w => by kernel_rfl
theorem len_enR (c : Int) (x : RX) : (enR c x).length = 5 := rfl
set_option maxRecDepth 100000 in
set_option maxHeartbeats 4000000 in
theorem bk_new (d : Nat) (w : World) (h1 : 1 ≤ d) (h2 : d ≤ 64) :
    Calls Try.prog 8 #[.int .i64 d] w fun e w' => ∃ g, e = .returned (.tuple #[.pointer (some ⟨g, 0, none⟩), .int .i64 0]) ∧ ∃ F, BkAt w' F g d 0 (fun _ => []) ∧ Below w.heap.size w w' ∧ ∀ k, F k → w.heap.size ≤ k := by
  have h0 : ¬ (d : Int) < 1 := by omega
  have h3 : ¬ (64 : Int) < d := by omega
  have hmm := @run_makeMap Try.prog
  go_enter Try.func8, Try.ntmps8
  go_wp2
  go_ret2
  refine ⟨w.heap.size + 1, rfl, fun k => k = w.heap.size ∨ k = w.heap.size + 1, ⟨w.heap.size, fun _ => none, fun _ => [], ⟨?_, (IMap.made w _ _).alloc _, fun c => QRow.nil_ .., fun c x h => (by simp at h), .inr rfl, .inl rfl, fun c k e => (by simp [qv, Value.ownBlock] at e), fun c x h => (by simp at h), fun c c' k e => (by simp [qv, Value.ownBlock] at e), fun k h => by simp; omega, fun c => by simp⟩, fun c => rfl⟩, ((Below.refl _ _).alloc (Nat.le_refl _) _).alloc (by simp) _, fun k h => by omega⟩
  have := Blk.new (w.alloc (.map #[] 0)) 53 #[.int .i64 d, .map (some w.heap.size)]
  rw [World.size_alloc] at this
  exact this
/-- The greatest number noted. -/
def lastN (l : List Int) : Int := l.getLast?.getD 0
set_option maxRecDepth 100000 in
set_option maxHeartbeats 4000000 in
theorem bk_last (F : Nat → Prop) (g d nb : Nat) (S : Int → List Int) (c : Int) (w : World) (h : BkAt w F g d nb S) (hc : 0 ≤ c) (hc2 : c ≤ 9223372036854775807) :
    Calls Try.prog 9 #[.pointer (some ⟨g, 0, none⟩), .int .i64 c] w fun e w' => e = .returned (.int .i64 (lastN (S c))) ∧ w' = w := by
  obtain ⟨mb, m, L, h, hl⟩ := h
  have hlt := h.blk.lt
  have c1 := h.blk.cell 1
  have HI := Lib.hid h.im
  have HR := Lib.hid (h.row c)
  have HK := Lib.hid (keyI ⟨hc, hc2⟩)
  have HL := Lib.hid (hl c)
  clear hl
  have HH := Lib.hid h
  clear h
  go_enter Try.func9, Try.ntmps9
  have hq := HR.out.shape
  obtain ⟨A, cp, hv, hle, hmx⟩ := hq
  by_cases h0 : (L c).length = 0
  · have hz : ((L c).length : Int) = 0 := by omega
    have he : lastN (S c) = 0 := by rw [← HL.out, List.eq_nil_of_length_eq_zero h0]; rfl
    rw [he]
    go_wp2_with (first
      | (refine IMap.look (by rfl) (.tmp 9) (.tmp 10) 51 54 (by rfl) (Go.Maps.int_keyed Try.underlying3) Try.underlying51 zero_reps (by rfl) HI.out c (by rfl) HK.out.1 HK.out.2 fun v hvv => ?_
         have hv2 : v = qv m c := by
           rw [hvv]; unfold qv; cases m c <;> rfl
         rw [hv] at hv2
         clear hvv
         subst hv2)
      | fail)
    go_ret
    exact ⟨rfl, rfl⟩
  · have hz : ¬ ((L c).length : Int) = 0 := by omega
    obtain ⟨gq, o, c', hv', hgq, hle', hmx'⟩ := HR.out.form (by omega)
    rw [hv] at hv'
    injection hv' with hA hn' hcc
    subst hA hcc
    have hrr : QRow w 38 5 (enR c) (.slice (some ⟨gq, o * 5, none⟩) (L c).length cp) (L c) := by have := HR.out; rwa [hv] at this
    have hcell := hrr.cell (fun _ => rfl) (by omega) ((L c).length - 1) 1 (by omega) (by omega)
    have he : lastN (S c) = ((L c)[(L c).length - 1]'(by omega)).2 := by
      rw [← HL.out]
      unfold lastN
      rw [List.getLast?_map, List.getLast?_eq_getElem?, List.getElem?_eq_getElem (by omega)]
      rfl
    rw [he]
    have hcell2 : w.cell? ⟨gq, o * 5 + (((L c).length - 1) * 5 + 1), none⟩ = some (.int .i64 ((L c)[(L c).length - 1]'(by omega)).2) := hcell
    generalize ((L c)[(L c).length - 1]'(by omega)).2 = x9 at hcell2
    clear hcell he hrr
    have HR2 := Lib.hid HR.out
    obtain ⟨n, hn⟩ : ∃ n, (L c).length = n + 1 := ⟨(L c).length - 1, by omega⟩
    rw [hn, Nat.add_sub_cancel, ← Nat.add_assoc] at hcell2
    rw [hn] at hv hle
    have hlen : ((n + 1 : Nat) : Int) = (n : Int) + 1 := by omega
    have hw : IntKind.i64.wrap (((n + 1 : Nat) : Int) - 1) = (n : Int) := by rw [IntKind.wrap_i64]; simp only [maxLen] at hmx; omega
    have hw2 : IntKind.i64.wrap (n : Int) = (n : Int) := by rw [IntKind.wrap_i64]; simp only [maxLen] at hmx; omega
    have hz2 : ¬ ((n + 1 : Nat) : Int) = 0 := by omega
    have hn1 : n < n + 1 := by omega
    clear hz h0 hn hle' hmx' hlen
    go_wp2_with (first
      | (refine IMap.look (by rfl) (.tmp 9) (.tmp 10) 51 54 (by rfl) (Go.Maps.int_keyed Try.underlying3) Try.underlying51 zero_reps (by rfl) HI.out c (by rfl) HK.out.1 HK.out.2 fun v hvv => ?_
         have hv2 : v = qv m c := by
           rw [hvv]; unfold qv; cases m c <;> rfl
         rw [hv] at hv2
         clear hvv
         subst hv2)
      | fail)
    go_ret
    exact ⟨rfl, rfl⟩
end Go.Proofs.Ytcpenjbgiecgnaa
