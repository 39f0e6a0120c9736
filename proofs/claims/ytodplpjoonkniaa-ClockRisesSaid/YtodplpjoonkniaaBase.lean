import Derived.WalkKit
import Derived.Below
import Derived.Deep.Draws
import Derived.Deep.LoopGhost
import Derived.Deep.QuietTactic
import Derived.BigQuiet
import Derived.OwnWalk
import Derived.KernelRfl
import Derived.Laws.MakeOwn
import Derived.Lib.Hide
import Derived.Outline
namespace Go.Proofs.Ytodplpjoonkniaa
open Go Go.RowKit
set_option linter.unusedVariables false
set_option linter.unusedSimpArgs false

theorem hold_ {p : Prop} (h : Hid p) : p := h
/-- Block g is just the cells cs of element type t, none frozen. -/
def Blk (w : World) (g : Nat) (t : TypeId) (cs : Array Value) : Prop := w.heap[g]? = some (.cells cs t (0, 0))

/-- Outside of S no block of w has turned. -/
structure Kept (w w' : World) (S : Nat → Prop) : Prop where
  os : w'.os = w.os
  tape : w'.tape = w.tape
  output : w'.output = w.output
  size : w.heap.size ≤ w'.heap.size
  block : ∀ k, k < w.heap.size → ¬ S k → w'.heap[k]? = w.heap[k]?

section
variable {w w' : World} {g : Nat} {t : TypeId} {cs : Array Value}
theorem Blk.lt (h : Blk w g t cs) : g < w.heap.size := by
  rcases Nat.lt_or_ge g w.heap.size with hlt | hge
  · exact hlt
  · unfold Blk at h; rw [Array.getElem?_eq_none hge] at h; cases h
theorem Blk.cell (h : Blk w g t cs) (i : Nat) : w.cell? ⟨g, i, none⟩ = cs[i]? := cell_of_row w g i cs t (0, 0) h
theorem Blk.frozen (h : Blk w g t cs) (i : Nat) : w.frozen? ⟨g, i, none⟩ = false := by
  unfold Blk at h
  simp [World.frozen?, h]
theorem Blk.new (w : World) (t : TypeId) (cs : Array Value) : Blk (w.alloc (.cells cs t)) w.heap.size t cs := heap_alloc_new w _
theorem Blk.drew (h : Blk w g t cs) : Blk w.drew g t cs := h
theorem Blk.drewN (h : Blk w g t cs) (n : Nat) : Blk (w.drewN n) g t cs := h
theorem Blk.alloc (h : Blk w g t cs) (o : Obj) : Blk (w.alloc o) g t cs := (Below.heap_alloc w o g h.lt).trans h
theorem Blk.set_ (h : Blk w g t cs) (i : Nat) (u : Value) : Blk (w.setCell ⟨g, i, none⟩ u) g t (cs.setIfInBounds i u) := by
  unfold Blk at h ⊢
  simp [World.setCell, Array.getElem?_modify, h]
theorem Blk.far (h : Blk w g t cs) {p : Addr} (hp : g ≠ p.block) (u : Value) : Blk (w.setCell p u) g t cs := (Below.heap_setCell w p u g hp).trans h
theorem Blk.kept {S : Nat → Prop} (h : Blk w g t cs) (hb : Kept w w' S) (hg : ¬ S g) : Blk w' g t cs := (hb.block g h.lt hg).trans h
theorem Blk.ne_ {g' : Nat} {t' : TypeId} {cs' : Array Value} (h : Blk w g t cs) (h' : Blk w g' t' cs') (hne : t ≠ t') : g ≠ g' := by
  rintro rfl
  unfold Blk at h h'
  rw [h] at h'
  injection h' with h'
  injection h' with _ ht
  exact hne ht

theorem Kept.refl (w : World) (S : Nat → Prop) : Kept w w S := ⟨rfl, rfl, rfl, Nat.le_refl _, fun _ _ _ => rfl⟩
theorem Kept.trans {a b c : World} {S : Nat → Prop} (h : Kept a b S) (k : Kept b c S) : Kept a c S :=
  ⟨k.os.trans h.os, k.tape.trans h.tape, k.output.trans h.output, Nat.le_trans h.size k.size, fun i hi hs => (k.block i (Nat.lt_of_lt_of_le hi h.size) hs).trans (h.block i hi hs)⟩
theorem Kept.mono {S S' : Nat → Prop} (h : Kept w w' S) (hs : ∀ k, k < w.heap.size → S k → S' k) : Kept w w' S' :=
  ⟨h.os, h.tape, h.output, h.size, fun k hk hn => h.block k hk (fun x => hn (hs k hk x))⟩
/-- A second step, whose own set lies in S or behind the first world. -/
theorem Kept.then_ {a b c : World} {S S' : Nat → Prop} (h : Kept a b S) (k : Kept b c S') (hs : ∀ i, S' i → S i ∨ a.heap.size ≤ i) : Kept a c S :=
  ⟨k.os.trans h.os, k.tape.trans h.tape, k.output.trans h.output, Nat.le_trans h.size k.size, fun i hi hn =>
    (k.block i (Nat.lt_of_lt_of_le hi h.size) (fun x => (hs i x).elim hn (fun y => absurd hi (by omega)))).trans (h.block i hi hn)⟩
theorem Kept.drew {a : World} {S : Nat → Prop} (h : Kept a w S) : Kept a w.drew S := ⟨h.os, h.tape, h.output, h.size, h.block⟩
theorem Kept.drewN {a : World} {S : Nat → Prop} (h : Kept a w S) (n : Nat) : Kept a (w.drewN n) S := ⟨h.os, h.tape, h.output, h.size, h.block⟩
theorem Kept.alloc {a : World} {S : Nat → Prop} (h : Kept a w S) (o : Obj) : Kept a (w.alloc o) S :=
  ⟨h.os, h.tape, h.output, Nat.le_trans h.size (by simp), fun i hi hn => (Below.heap_alloc w o i (Nat.lt_of_lt_of_le hi h.size)).trans (h.block i hi hn)⟩
theorem Kept.setCell {a : World} {S : Nat → Prop} (h : Kept a w S) {p : Addr} (hp : S p.block ∨ a.heap.size ≤ p.block) (u : Value) : Kept a (w.setCell p u) S :=
  ⟨h.os, h.tape, h.output, by simpa [World.setCell] using h.size, fun i hi hn => (Below.heap_setCell w p u i (by
    rintro rfl
    rcases hp with hp | hp
    · exact hn hp
    · omega)).trans (h.block i hi hn)⟩
theorem Kept.grown {a : World} {S : Nat → Prop} (h : Kept a w S) {row : Option Nat} (hg : w.grownBy w' row) (hr : ∀ k, row = some k → S k ∨ a.heap.size ≤ k) : Kept a w' S :=
  ⟨hg.os.trans h.os, hg.tape.trans h.tape, hg.output.trans h.output, Nat.le_trans h.size hg.size, fun i hi hn =>
    (hg.block i (Nat.lt_of_lt_of_le hi h.size) (fun e => (hr i e.symm).elim hn (fun y => absurd hi (by omega)))).trans (h.block i hi hn)⟩
theorem Kept.of_below {a : World} (h : Below a.heap.size a w) (S : Nat → Prop) : Kept a w S := ⟨h.os, h.tape, h.output, h.size, fun i hi _ => h.block i hi⟩
theorem Kept.below {a : World} {S : Nat → Prop} {B : Nat} (h : Kept a w S) (hB : B ≤ a.heap.size) (hs : ∀ k, k < B → ¬ S k) : Below B a w :=
  ⟨h.os, h.tape, h.output, h.size, fun i hi => h.block i (by omega) (hs i hi)⟩
theorem Kept.cell {a : World} {S : Nat → Prop} (h : Kept a w S) {p : Addr} (hp : p.block < a.heap.size) (hn : ¬ S p.block) : w.cell? p = a.cell? p := World.cell?_of_block (h.block _ hp hn)
theorem Kept.frozen {a : World} {S : Nat → Prop} (h : Kept a w S) {p : Addr} (hp : p.block < a.heap.size) (hn : ¬ S p.block) : w.frozen? p = a.frozen? p := World.frozen?_of_block (h.block _ hp hn)
end

/-- The first cells of a block. -/
def Ints (w : World) (b : Nat) (ts : List Int) : Prop := ∃ cur, Blk w b 3 cur ∧ ∀ (i : Nat) (x : Int), ts[i]? = some x → cur[i]? = some (Value.int .i64 x)

section
variable {w w' : World} {b : Nat} {ts : List Int}
theorem Ints.lt (h : Ints w b ts) : b < w.heap.size := by obtain ⟨_, h, _⟩ := h; exact h.lt
theorem Ints.cell (h : Ints w b ts) {i : Nat} {x : Int} (hx : ts[i]? = some x) : w.cell? ⟨b, i, none⟩ = some (.int .i64 x) := by
  obtain ⟨cur, h, hc⟩ := h
  rw [h.cell]; exact hc i x hx
theorem Ints.frozen (h : Ints w b ts) (i : Nat) : w.frozen? ⟨b, i, none⟩ = false := by
  obtain ⟨cur, h, _⟩ := h
  exact h.frozen i
theorem Ints.drew (h : Ints w b ts) : Ints w.drew b ts := h
theorem Ints.drewN (h : Ints w b ts) (n : Nat) : Ints (w.drewN n) b ts := h
theorem Ints.alloc (h : Ints w b ts) (o : Obj) : Ints (w.alloc o) b ts := by
  obtain ⟨cur, h, hc⟩ := h
  exact ⟨cur, h.alloc o, hc⟩
theorem Ints.far (h : Ints w b ts) {p : Addr} (hp : b ≠ p.block) (u : Value) : Ints (w.setCell p u) b ts := by
  obtain ⟨cur, h, hc⟩ := h
  exact ⟨cur, h.far hp u, hc⟩
theorem Ints.kept {S : Nat → Prop} (h : Ints w b ts) (hk : Kept w w' S) (hn : ¬ S b) : Ints w' b ts := by
  obtain ⟨cur, h, hc⟩ := h
  exact ⟨cur, h.kept hk hn, hc⟩
theorem Ints.set_ (h : Ints w b ts) (i : Nat) (hi : i < ts.length) (x : Int) : Ints (w.setCell ⟨b, i, none⟩ (.int .i64 x)) b (ts.set i x) := by
  obtain ⟨cur, h, hc⟩ := h
  refine ⟨_, h.set_ i _, fun j y hy => ?_⟩
  have hs : i < cur.size := by
    have := hc i ts[i] (List.getElem?_eq_getElem hi)
    exact (Array.getElem?_eq_some_iff.1 this).1
  by_cases hj : i = j
  · subst hj
    rw [List.getElem?_set_self hi] at hy
    injection hy with hy
    subst hy
    rw [Array.getElem?_setIfInBounds_self_of_lt hs]
  · rw [List.getElem?_set_ne hj] at hy
    rw [Array.getElem?_setIfInBounds_ne hj]
    exact hc j y hy
end
end Go.Proofs.Ytodplpjoonkniaa
