import Derived.Test.YtpimpdgibcjbeaaOCall
import Derived.Test.YtpimpdgibcjbeaaORows
namespace Go.Proofs.Ytpimpdgibcjbeaa
open Go Go.RowKit
set_option linter.unusedVariables false
set_option linter.unusedSimpArgs false

theorem pw_drewN {B : Nat} {a w : World} (h : Below B a w) (n : Nat) : Below B a (w.drewN n) := ⟨h.os, h.tape, h.output, h.size, h.block⟩
theorem below_next {a b c : World} (h : Below a.heap.size a b) (k : Below b.heap.size b c) : Below a.heap.size a c := h.trans (k.mono h.size)
/-- What an object owns after a step: what it owned, and what is new. -/
def grow (F : Nat → Prop) (w w' : World) : Nat → Prop := fun k => F k ∨ (w.heap.size ≤ k ∧ k < w'.heap.size)
theorem grow_sub {F : Nat → Prop} {a b c : World} (h : a.heap.size ≤ b.heap.size) {k : Nat} (hk : grow F b c k) : grow F a c k := hk.elim .inl (fun h' => .inr ⟨by omega, h'.2⟩)
theorem grow_two {F : Nat → Prop} {a b c : World} (h1 : a.heap.size ≤ b.heap.size) (h2 : b.heap.size ≤ c.heap.size) {k : Nat} (hk : grow (grow F a b) b c k) : grow F a c k := by
  rcases hk with (hk | hk) | hk
  · exact .inl hk
  · exact .inr ⟨hk.1, by omega⟩
  · exact .inr ⟨by omega, hk.2⟩
theorem grow_out {F : Nat → Prop} {w w' : World} {k : Nat} (hk : k < w.heap.size) (hn : ¬ F k) : ¬ grow F w w' k := fun h => h.elim hn (fun h => by omega)
/-! The log of rlog: an object at a block, its entries a row of its own. -/
structure Ent where (term : Int) (data : ByteArray)
def Ent.cells (x : Ent) : List Value := [.int .i64 x.term, .string x.data]
def Ent.val (x : Ent) : Value := .agg #[.int .i64 x.term, .string x.data]
structure LogS where (base term : Int) (l : List Ent)
def LogAt (w : World) (F : Nat → Prop) (g : Nat) (s : LogS) : Prop :=
  ∃ vl, Blk w g 62 #[.int .i64 s.base, .int .i64 s.term, vl] ∧ Row w 44 2 Ent.cells vl s.l ∧ F g ∧ (∀ k, vl.ownBlock = some k → F k)
theorem LogAt.kept {w w' : World} {F S : Nat → Prop} {g : Nat} {s : LogS} (h : LogAt w F g s) (hk : Kept w w' S) (hn : ∀ k, k < w.heap.size → F k → ¬ S k) : LogAt w' F g s := by
  obtain ⟨vl, hb, h1, hg, f1⟩ := h
  exact ⟨vl, hb.kept hk (hn g hb.lt hg), h1.kept hk (fun k e => hn k (h1.lt e) (f1 k e)), hg, f1⟩
theorem LogAt.below {w w' : World} {F : Nat → Prop} {g : Nat} {s : LogS} (h : LogAt w F g s) (hb : Below w.heap.size w w') : LogAt w' F g s := h.kept (Kept.of_below hb fun _ => False) (fun _ _ _ h => h)
theorem LogAt.mono {w : World} {F F' : Nat → Prop} {g : Nat} {s : LogS} (h : LogAt w F g s) (hf : ∀ k, k < w.heap.size → F k → F' k) : LogAt w F' g s := by
  obtain ⟨vl, hb, h1, hg, f1⟩ := h
  exact ⟨vl, hb, h1, hf g hb.lt hg, fun k e => hf k (h1.lt e) (f1 k e)⟩
theorem LogAt.lt {w : World} {F : Nat → Prop} {g : Nat} {s : LogS} (h : LogAt w F g s) : g < w.heap.size := by obtain ⟨vl, hb, _⟩ := h; exact hb.lt

theorem log_new (w : World) : Calls Try.prog 16 #[] w fun e w' => e = .returned (.pointer (some ⟨w.heap.size, 0, none⟩)) ∧ Below w.heap.size w w' ∧ LogAt w' (fun k => k = w.heap.size) w.heap.size ⟨0, 0, []⟩ ∧ w'.heap.size = w.heap.size + 1 := by
  go_enter Try.func16, Try.ntmps16
  go_wp2
  go_ret
  exact ⟨rfl, (Below.refl _ _).alloc (Nat.le_refl _) _, ⟨_, Blk.new w _ _, Row.nil_ .., rfl, by simp [Value.ownBlock]⟩, by simp⟩
theorem log_base (F : Nat → Prop) (g : Nat) (s : LogS) (w : World) (h : LogAt w F g s) :
    Calls Try.prog 22 #[.pointer (some ⟨g, 0, none⟩)] w fun e w' => e = .returned (.tuple #[.int .i64 s.base, .int .i64 s.term]) ∧ Below w.heap.size w w' := by
  obtain ⟨vl, hb, r1, hg, f1⟩ := h
  have hlt := hb.lt
  have c0 := hb.cell 0
  have c1 := hb.cell 1
  clear hb r1
  go_enter Try.func22, Try.ntmps22
  go_wp2_with (fail)
  go_quiet (fail)
  go_wp2
  go_ret2
  exact ⟨rfl, pw_drewN (Below.refl _ _) _⟩
def LogS.lastTerm (s : LogS) : Int := match s.l.getLast? with | some e => e.term | none => s.term
def LogS.last (s : LogS) : Int := s.base + s.l.length
def mayT (t : Int) : Bool := decide (1 ≤ t) && decide (t ≤ 1073741824)
theorem may_calls (t : Int) (w : World) : Calls Try.prog 32 #[.int .i64 t] w fun e w' => e = .returned (.bool (mayT t)) ∧ w' = w := by
  unfold mayT
  by_cases h1 : 1 ≤ t
  · by_cases h2 : t ≤ 1073741824
    · rw [decide_eq_true h1, decide_eq_true h2]
      go_enter Try.func32, Try.ntmps32
      go_wp2
      go_ret
      exact ⟨rfl, rfl⟩
    · rw [decide_eq_true h1, decide_eq_false h2]
      go_enter Try.func32, Try.ntmps32
      go_wp2
      go_ret
      exact ⟨rfl, rfl⟩
  · rw [decide_eq_false h1, Bool.false_and]
    go_enter Try.func32, Try.ntmps32
    go_wp2
    go_ret
    exact ⟨rfl, rfl⟩

theorem LogS.lastTerm_nil {s : LogS} (h : s.l.length = 0) : s.lastTerm = s.term := by
  unfold LogS.lastTerm
  rw [List.length_eq_zero_iff.1 h]
  rfl
theorem LogS.lastTerm_at {s : LogS} {j : Nat} (h : s.l.length = j + 1) : s.lastTerm = (s.l[j]'(by omega)).term := by
  have e : s.l.getLast? = some (s.l[j]'(by omega)) := by rw [List.getLast?_eq_getElem?, show s.l.length - 1 = j by omega, List.getElem?_eq_getElem (by omega)]
  unfold LogS.lastTerm
  rw [e]
theorem log_last (F : Nat → Prop) (g : Nat) (s : LogS) (w : World) (h : LogAt w F g s) (hb0 : 0 ≤ s.base) (hb1 : s.base ≤ 1048576) (hl : s.l.length ≤ 1048576) :
    Calls Try.prog 11 #[.pointer (some ⟨g, 0, none⟩)] w fun e w' => e = .returned (.tuple #[.int .i64 s.last, .int .i64 s.lastTerm]) ∧ Below w.heap.size w w' := by
  obtain ⟨vl, hb, r1, hg, f1⟩ := h
  have hlt := hb.lt
  have c0 := hb.cell 0
  have c1 := hb.cell 1
  have c2 := hb.cell 2
  unfold LogS.last
  rcases Nat.eq_zero_or_pos s.l.length with hn | hn
  · rw [LogS.lastTerm_nil hn]
    obtain ⟨A, c, rfl⟩ := r1.shape_n hn
    rw [hn]
    clear hb r1 hn hl
    go_enter Try.func11, Try.ntmps11
    go_wp2_with (fail)
    go_quiet (fail)
    go_wp2
    go_ret2
    exact ⟨by simp, pw_drewN (Below.refl _ _) _⟩
  · obtain ⟨j, hj⟩ : ∃ j, s.l.length = j + 1 := ⟨s.l.length - 1, by omega⟩
    rw [LogS.lastTerm_at hj]
    obtain ⟨gb, c, rfl, hgl, hcl⟩ := r1.form hn
    have q0 := r1.cell (fun _ => rfl) j 0 (by omega) (by omega)
    generalize hx : s.l[j] = x at q0
    simp only [Ent.cells, List.getElem?_cons_zero, Nat.add_zero] at q0
    have hn1 : (0 : Int) < (s.l.length : Int) := by omega
    have hs : (s.l.length : Int) - 1 = (j : Int) := by omega
    have j1 : (0 : Int) ≤ (j : Int) := by omega
    have j2 : (j : Int) < (s.l.length : Int) := by omega
    have j3 : (s.l.length : Int) ≤ 1048576 := by omega
    clear hb r1 hn hl hcl
    clear hx hj
    generalize s.l.length = n at *
    go_enter Try.func11, Try.ntmps11
    go_wp2_with (fail)
    go_quiet (fail)
    go_wp2
    go_ret2
    exact ⟨rfl, pw_drewN (Below.refl _ _) _⟩
end Go.Proofs.Ytpimpdgibcjbeaa
