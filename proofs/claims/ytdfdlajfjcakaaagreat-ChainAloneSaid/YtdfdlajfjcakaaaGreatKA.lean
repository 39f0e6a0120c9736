-- written by a program of ours (several texts, one behind the other)
import Derived.WalkKit
import Derived.Below
import Derived.Deep.Draws
import Derived.Deep.LoopGhost
import Derived.Deep.QuietTactic
import Derived.BigQuiet
import Derived.OwnWalk
import Derived.KernelRfl
import Derived.Laws.MakeOwn
import Derived.Lib.Hide
import Derived.Outline
import Derived.Laws.OwnMore
import Derived.Maps.AppendAt
import Derived.Deep.AppendLies
import Derived.Shelf.Abstract
import Derived.Deep.RegionLaw
import Derived.WalkLawsBesides
import Derived.Test.YtdfdlajfjcakaaaGreatProg
import Derived.ProofKit
import Derived.OpenShut
import Derived.Deep.Slices
import Derived.SizedLaws
import Derived.WideShapes
import Derived.Shelf.Small.Strs
import Derived.ArgAppend
namespace Go.Proofs.YtdfdlajfjcakaaaGreat
open Go Go.RowKit
set_option linter.unusedVariables false
set_option linter.unusedSimpArgs false

theorem hold_ {p : Prop} (h : Hid p) : p := h
/-- Block g is just the cells cs of element type t, none frozen. -/
def Blk (w : World) (g : Nat) (t : TypeId) (cs : Array Value) : Prop := w.heap[g]? = some (.cells cs t (0, 0))

/-- Outside of S no block of w has turned. -/
structure Kept (w w' : World) (S : Nat → Prop) : Prop where
  os : w'.os = w.os
  tape : w'.tape = w.tape
  output : w'.output = w.output
  size : w.heap.size ≤ w'.heap.size
  block : ∀ k, k < w.heap.size → ¬ S k → w'.heap[k]? = w.heap[k]?

section
variable {w w' : World} {g : Nat} {t : TypeId} {cs : Array Value}
theorem Blk.lt (h : Blk w g t cs) : g < w.heap.size := by
  rcases Nat.lt_or_ge g w.heap.size with hlt | hge
  · exact hlt
  · unfold Blk at h; rw [Array.getElem?_eq_none hge] at h; cases h
theorem Blk.cell (h : Blk w g t cs) (i : Nat) : w.cell? ⟨g, i, none⟩ = cs[i]? := cell_of_row w g i cs t (0, 0) h
theorem Blk.frozen (h : Blk w g t cs) (i : Nat) : w.frozen? ⟨g, i, none⟩ = false := by
  unfold Blk at h
  simp [World.frozen?, h]
theorem Blk.new (w : World) (t : TypeId) (cs : Array Value) : Blk (w.alloc (.cells cs t)) w.heap.size t cs := heap_alloc_new w _
theorem Blk.drew (h : Blk w g t cs) : Blk w.drew g t cs := h
theorem Blk.drewN (h : Blk w g t cs) (n : Nat) : Blk (w.drewN n) g t cs := h
theorem Blk.alloc (h : Blk w g t cs) (o : Obj) : Blk (w.alloc o) g t cs := (Below.heap_alloc w o g h.lt).trans h
theorem Blk.set_ (h : Blk w g t cs) (i : Nat) (u : Value) : Blk (w.setCell ⟨g, i, none⟩ u) g t (cs.setIfInBounds i u) := by
  unfold Blk at h ⊢
  simp [World.setCell, Array.getElem?_modify, h]
theorem Blk.far (h : Blk w g t cs) {p : Addr} (hp : g ≠ p.block) (u : Value) : Blk (w.setCell p u) g t cs := (Below.heap_setCell w p u g hp).trans h
theorem Blk.kept {S : Nat → Prop} (h : Blk w g t cs) (hb : Kept w w' S) (hg : ¬ S g) : Blk w' g t cs := (hb.block g h.lt hg).trans h
theorem Blk.ne_ {g' : Nat} {t' : TypeId} {cs' : Array Value} (h : Blk w g t cs) (h' : Blk w g' t' cs') (hne : t ≠ t') : g ≠ g' := by
  rintro rfl
  unfold Blk at h h'
  rw [h] at h'
  injection h' with h'
  injection h' with _ ht
  exact hne ht

theorem Kept.refl (w : World) (S : Nat → Prop) : Kept w w S := ⟨rfl, rfl, rfl, Nat.le_refl _, fun _ _ _ => rfl⟩
theorem Kept.trans {a b c : World} {S : Nat → Prop} (h : Kept a b S) (k : Kept b c S) : Kept a c S :=
  ⟨k.os.trans h.os, k.tape.trans h.tape, k.output.trans h.output, Nat.le_trans h.size k.size, fun i hi hs => (k.block i (Nat.lt_of_lt_of_le hi h.size) hs).trans (h.block i hi hs)⟩
theorem Kept.mono {S S' : Nat → Prop} (h : Kept w w' S) (hs : ∀ k, k < w.heap.size → S k → S' k) : Kept w w' S' :=
  ⟨h.os, h.tape, h.output, h.size, fun k hk hn => h.block k hk (fun x => hn (hs k hk x))⟩
/-- A second step, whose own set lies in S or behind the first world. -/
theorem Kept.then_ {a b c : World} {S S' : Nat → Prop} (h : Kept a b S) (k : Kept b c S') (hs : ∀ i, S' i → S i ∨ a.heap.size ≤ i) : Kept a c S :=
  ⟨k.os.trans h.os, k.tape.trans h.tape, k.output.trans h.output, Nat.le_trans h.size k.size, fun i hi hn =>
    (k.block i (Nat.lt_of_lt_of_le hi h.size) (fun x => (hs i x).elim hn (fun y => absurd hi (by omega)))).trans (h.block i hi hn)⟩
theorem Kept.drew {a : World} {S : Nat → Prop} (h : Kept a w S) : Kept a w.drew S := ⟨h.os, h.tape, h.output, h.size, h.block⟩
theorem Kept.drewN {a : World} {S : Nat → Prop} (h : Kept a w S) (n : Nat) : Kept a (w.drewN n) S := ⟨h.os, h.tape, h.output, h.size, h.block⟩
theorem Kept.alloc {a : World} {S : Nat → Prop} (h : Kept a w S) (o : Obj) : Kept a (w.alloc o) S :=
  ⟨h.os, h.tape, h.output, Nat.le_trans h.size (by simp), fun i hi hn => (Below.heap_alloc w o i (Nat.lt_of_lt_of_le hi h.size)).trans (h.block i hi hn)⟩
theorem Kept.setCell {a : World} {S : Nat → Prop} (h : Kept a w S) {p : Addr} (hp : S p.block ∨ a.heap.size ≤ p.block) (u : Value) : Kept a (w.setCell p u) S :=
  ⟨h.os, h.tape, h.output, by simpa [World.setCell] using h.size, fun i hi hn => (Below.heap_setCell w p u i (by
    rintro rfl
    rcases hp with hp | hp
    · exact hn hp
    · omega)).trans (h.block i hi hn)⟩
theorem Kept.grown {a : World} {S : Nat → Prop} (h : Kept a w S) {row : Option Nat} (hg : w.grownBy w' row) (hr : ∀ k, row = some k → S k ∨ a.heap.size ≤ k) : Kept a w' S :=
  ⟨hg.os.trans h.os, hg.tape.trans h.tape, hg.output.trans h.output, Nat.le_trans h.size hg.size, fun i hi hn =>
    (hg.block i (Nat.lt_of_lt_of_le hi h.size) (fun e => (hr i e.symm).elim hn (fun y => absurd hi (by omega)))).trans (h.block i hi hn)⟩
theorem Kept.of_below {a : World} (h : Below a.heap.size a w) (S : Nat → Prop) : Kept a w S := ⟨h.os, h.tape, h.output, h.size, fun i hi _ => h.block i hi⟩
theorem Kept.below {a : World} {S : Nat → Prop} {B : Nat} (h : Kept a w S) (hB : B ≤ a.heap.size) (hs : ∀ k, k < B → ¬ S k) : Below B a w :=
  ⟨h.os, h.tape, h.output, h.size, fun i hi => h.block i (by omega) (hs i hi)⟩
theorem Kept.cell {a : World} {S : Nat → Prop} (h : Kept a w S) {p : Addr} (hp : p.block < a.heap.size) (hn : ¬ S p.block) : w.cell? p = a.cell? p := World.cell?_of_block (h.block _ hp hn)
theorem Kept.frozen {a : World} {S : Nat → Prop} (h : Kept a w S) {p : Addr} (hp : p.block < a.heap.size) (hn : ¬ S p.block) : w.frozen? p = a.frozen? p := World.frozen?_of_block (h.block _ hp hn)
end


/-! Rows of elements of one kind: enc says an element's cells. -/
theorem addr0 (g j : Nat) : (⟨g, 0, none⟩ : Addr).add j = ⟨g, j, none⟩ := by unfold Addr.add; split <;> simp_all
def Row {α : Type} (w : World) (e sz : Nat) (enc : α → List Value) (v : Value) (l : List α) : Prop := w.ownsRow 0 e sz v l.length (l.flatMap enc)
section
variable {α : Type} {w w' : World} {e sz : Nat} {enc : α → List Value} {v : Value} {l : List α}
theorem flat_length (h : ∀ x, (enc x).length = sz) (l : List α) : (l.flatMap enc).length = l.length * sz := by
  induction l with
  | nil => simp
  | cons x l ih => rw [List.flatMap_cons, List.length_append, h, ih, List.length_cons, Nat.add_mul, Nat.one_mul, Nat.add_comm]
theorem flat_get (h : ∀ x, (enc x).length = sz) (l : List α) (i j : Nat) (hi : i < l.length) (hj : j < sz) : (l.flatMap enc)[i * sz + j]? = (enc l[i])[j]? := by
  induction l generalizing i with
  | nil => simp at hi
  | cons x l ih =>
    rw [List.flatMap_cons]
    cases i with
    | zero =>
      rw [List.getElem?_append_left (by rw [h]; omega)]
      simp
    | succ i =>
      rw [List.getElem?_append_right (by rw [h, Nat.add_mul]; omega), h, show (i + 1) * sz + j - sz = i * sz + j by rw [Nat.add_mul]; omega]
      exact ih i (by simpa using hi)
theorem Row.nil_ (w : World) (e sz : Nat) (enc : α → List Value) : Row w e sz enc (.slice none 0 0) ([] : List α) := World.ownsRow_nil ..
theorem Row.shape (h : Row w e sz enc v l) : ∃ A c, v = .slice A l.length c := by
  rcases h.2 with ⟨rfl, h0⟩ | ⟨g, cap, cur, rfl, _⟩
  · exact ⟨none, 0, by rw [h0]⟩
  · exact ⟨_, cap, rfl⟩
theorem Row.form (h : Row w e sz enc v l) (hn : 0 < l.length) : ∃ g c, v = .slice (some ⟨g, 0, none⟩) l.length c ∧ g < w.heap.size ∧ l.length ≤ c := by
  rcases h.2 with ⟨_, h0⟩ | ⟨g, cap, cur, hv, hb, hg, hc, _⟩
  · omega
  · exact ⟨g, cap, hv, (Array.getElem?_eq_some_iff.1 hg).1, hc⟩
theorem Row.lt (h : Row w e sz enc v l) {k : Nat} (hk : v.ownBlock = some k) : k < w.heap.size := (World.ownsRow.lt h k hk).2
theorem Row.typed (h : Row w e sz enc v l) {k : Nat} (hk : v.ownBlock = some k) : ∃ cells, Blk w k e cells := by
  rcases h.2 with ⟨rfl, _⟩ | ⟨g, cap, cur, rfl, _, hg, _⟩
  · simp [Value.ownBlock] at hk
  · have : g = k := by simpa [Value.ownBlock] using hk
    subst this
    exact ⟨_, hg⟩
theorem Row.kept {S : Nat → Prop} (h : Row w e sz enc v l) (hk : Kept w w' S) (hS : ∀ k, v.ownBlock = some k → ¬ S k) : Row w' e sz enc v l := by
  refine ⟨h.1, ?_⟩
  rcases h.2 with hn | ⟨g, cap, cur, rfl, hb, hg, rest⟩
  · exact .inl hn
  · exact .inr ⟨g, cap, cur, rfl, hb, (hk.block g (Array.getElem?_eq_some_iff.1 hg).1 (hS g (by simp [Value.ownBlock]))).trans hg, rest⟩
theorem Row.alloc (h : Row w e sz enc v l) (o : Obj) : Row (w.alloc o) e sz enc v l := World.ownsRow.alloc h o
theorem Row.drew (h : Row w e sz enc v l) : Row w.drew e sz enc v l := h
theorem Row.drewN (h : Row w e sz enc v l) (n : Nat) : Row (w.drewN n) e sz enc v l := h
theorem Row.cell {g n c : Nat} (h : Row w e sz enc (.slice (some ⟨g, 0, none⟩) n c) l) (hs : ∀ x, (enc x).length = sz) (i j : Nat) (hi : i < l.length) (hj : j < sz) : w.cell? ⟨g, i * sz + j, none⟩ = (enc l[i])[j]? := by
  have e1 := flat_get hs l i j hi hj
  obtain ⟨u, hu⟩ : ∃ u, (enc l[i])[j]? = some u := ⟨(enc l[i])[j]'(by rw [hs]; exact hj), List.getElem?_eq_getElem _⟩
  rw [hu] at e1 ⊢
  have := World.ownsRow.cells h (g := g) rfl _ _ e1
  rwa [addr0] at this
theorem Row.frozen {g n c : Nat} (h : Row w e sz enc (.slice (some ⟨g, 0, none⟩) n c) l) (j : Nat) : w.frozen? ⟨g, j, none⟩ = false := by
  rcases h.2 with ⟨h', _⟩ | ⟨g', cap', cur, h', _, hg, _⟩
  · simp at h'
  · simp only [Value.slice.injEq, Option.some.injEq, Addr.mk.injEq, and_true] at h'
    obtain ⟨rfl, _⟩ := h'
    exact frozen_of_row w g j cur e hg
end

/-! append to a row: the value and the world behind it -/
theorem flat_one {α : Type} {enc : α → List Value} (h1 : ∀ x, ∀ u ∈ enc x, u.oneCell' = true) (l : List α) : ∀ u ∈ l.flatMap enc, u.oneCell' = true := by
  intro u hu
  obtain ⟨x, _, hx⟩ := List.mem_flatMap.1 hu
  exact h1 x u hx
section
variable {P : Program} {α : Type} {enc : α → List Value}
theorem Row.append_run {W : World} (t ty e : TypeId) (z : Value) (sz bytes : Nat) (ht : P.underlying t = some (.slice e)) (hinfo : (P.info? e).map (fun i => (i.zero, i.size, i.bytes)) = some (some z, sz, bytes)) (hz : z.cells.size = sz) (hs0 : 0 < sz) (hb0 : 0 < bytes)
    (v : Value) (l ys : List α) (HR : Row W e sz enc v l) (ad : Addr) (m c : Nat) (hm : ys.length = m) (hlen : ∀ x, (enc x).length = sz) (hnews : ∀ j u, (ys.flatMap enc)[j]? = some u → W.cell? (ad.add j) = some u)
    (h1 : ∀ x, ∀ u ∈ enc x, u.oneCell' = true) (hl : (l.length + m) * bytes ≤ 140737488355328) :
    ∃ v1 w1, (Builtin.append_ #[t, t] ty #[v, .slice (some ad) m c]).run P W = .ok v1 w1 ∧ Row w1 e sz enc v1 (l ++ ys) ∧ W.grownBy w1 v.ownBlock ∧ (v1.ownBlock = v.ownBlock ∨ v1.ownBlock = some W.heap.size) := by
  obtain ⟨i0, hi, hzz⟩ := Option.map_eq_some_iff.1 hinfo
  simp only [Prod.mk.injEq] at hzz
  obtain ⟨hz0, hz1, hz2⟩ := hzz
  have hle : l.length + m ≤ 140737488355328 := Nat.le_trans (Nat.le_mul_of_pos_right _ hb0) hl
  obtain ⟨v1, w1, hr, hown, hg, _, hat⟩ := run_append_own_at (P := P) W 0 t ty e i0 z sz bytes ht hi hz0 hz1 hz2 hz hs0 v l.length (l.flatMap enc) HR ad m c (ys.flatMap enc) (by rw [flat_length hlen, hm]) hnews (flat_one h1 ys) (by simp only [maxLen]; omega) hl (Nat.zero_le _)
  refine ⟨v1, w1, hr, ?_, hg, hat⟩
  unfold Row
  rw [List.length_append, hm, List.flatMap_append]
  exact hown
variable {ops : Array Oper} {rest : List Oper} {o : Oper} {a : Act} {Q : Exit → Act → World → Prop} {K : Act → World → Prop} {E : Prop} {W : World}
theorem Row.append_step (hgd : o.guard = none) (s x : Operand) (t e : TypeId) (z : Value) (sz bytes : Nat)
    (ho : o.op = .call { callee := .builtin .append, args := #[s, x], argTypes := #[t, t] })
    (ht : P.underlying t = some (.slice e)) (hinfo : (P.info? e).map (fun i => (i.zero, i.size, i.bytes)) = some (some z, sz, bytes)) (hz : z.cells.size = sz) (hs0 : 0 < sz) (hb0 : 0 < bytes)
    (v : Value) (l ys : List α) (hs : a.eval s = v) (ad : Addr) (m c : Nat) (hx : a.eval x = .slice (some ad) m c) (HR : Row W e sz enc v l) (hm : ys.length = m) (hlen : ∀ x, (enc x).length = sz) (hnews : ∀ j u, (ys.flatMap enc)[j]? = some u → W.cell? (ad.add j) = some u)
    (h1 : ∀ x, ∀ u ∈ enc x, u.oneCell' = true) (hl : (l.length + m) * bytes ≤ 140737488355328)
    (h : ∀ v1 w1, Row w1 e sz enc v1 (l ++ ys) → W.grownBy w1 v.ownBlock → (v1.ownBlock = v.ownBlock ∨ v1.ownBlock = some W.heap.size) → K (a.put o.dst v1) w1) :
    if Region.wanted o (yielded ops a.tmps) = true then Oper.wp P o a W K Q else E := by
  have hw : Region.wanted o (yielded ops a.tmps) = true := by simp [Region.wanted, hgd]
  rw [if_pos hw]
  obtain ⟨v1, w1, hr, h2, h3, h4⟩ := Row.append_run (P := P) (W := W) t o.type e z sz bytes ht hinfo hz hs0 hb0 v l ys HR ad m c hm hlen hnews h1 hl
  unfold Oper.wp execOp
  simp only [ho, resolve, invoke, builtin, Sem.run_bind, Sem.run_pure, Result.andThen_ok, List.map_toArray, List.map_cons, List.map_nil, hs, hx, hr]
  exact h v1 w1 h2 h3 h4
theorem Row.append_list (hgd : o.guard = none) (s x : Operand) (t e : TypeId) (z : Value) (sz bytes : Nat)
    (ho : o.op = .call { callee := .builtin .append, args := #[s, x], argTypes := #[t, t] })
    (ht : P.underlying t = some (.slice e)) (hinfo : (P.info? e).map (fun i => (i.zero, i.size, i.bytes)) = some (some z, sz, bytes)) (hz : z.cells.size = sz) (hs0 : 0 < sz) (hb0 : 0 < bytes)
    (v : Value) (l ys : List α) (hs : a.eval s = v) (ad : Addr) (m c : Nat) (hx : a.eval x = .slice (some ad) m c) (HR : Row W e sz enc v l) (hm : ys.length = m) (hlen : ∀ x, (enc x).length = sz) (hnews : ∀ j u, (ys.flatMap enc)[j]? = some u → W.cell? (ad.add j) = some u)
    (h1 : ∀ x, ∀ u ∈ enc x, u.oneCell' = true) (hl : (l.length + m) * bytes ≤ 140737488355328)
    (h : ∀ v1 w1, Row w1 e sz enc v1 (l ++ ys) → W.grownBy w1 v.ownBlock → (v1.ownBlock = v.ownBlock ∨ v1.ownBlock = some W.heap.size) → wpList P ops Q rest (a.put o.dst v1) w1) :
    wpList P ops Q (o :: rest) a W := by
  refine wpList_plain hgd fun K hK => ?_
  obtain ⟨v1, w1, hr, h2, h3, h4⟩ := Row.append_run (P := P) (W := W) t o.type e z sz bytes ht hinfo hz hs0 hb0 v l ys HR ad m c hm hlen hnews h1 hl
  unfold Oper.wp execOp
  simp only [ho, resolve, invoke, builtin, Sem.run_bind, Sem.run_pure, Result.andThen_ok, List.map_toArray, List.map_cons, List.map_nil, hs, hx, hr]
  exact hK _ _ (h v1 w1 h2 h3 h4)
end
/-- The cells of a row, for 'append(v, ys...)'. -/
theorem Row.news {α : Type} {w : World} {e sz : Nat} {enc : α → List Value} {g n c : Nat} {l : List α} (h : Row w e sz enc (.slice (some ⟨g, 0, none⟩) n c) l) : ∀ j u, (l.flatMap enc)[j]? = some u → w.cell? ((⟨g, 0, none⟩ : Addr).add j) = some u := World.ownsRow.cells h rfl

/-! A row whose cells are known -/
theorem Row.of_block {α : Type} {w : World} {e sz g cap n : Nat} {enc : α → List Value} {cur : Array Value} {l : List α} (hg : w.heap[g]? = some (.cells cur e (0, 0))) (hn : l.length = n) (hc : n ≤ cap) (hm : cap ≤ maxLen) (hs : cur.size = cap * sz) (hlen : ∀ x, (enc x).length = sz) (ht : cur.toList.take (n * sz) = l.flatMap enc) :
    Row w e sz enc (.slice (some ⟨g, 0, none⟩) n cap) l := by
  subst hn
  exact ⟨flat_length hlen l, .inr ⟨g, cap, cur, rfl, Nat.zero_le _, hg, hc, hm, hs, ht⟩⟩
theorem Row.block {α : Type} {w : World} {e sz g n cap : Nat} {enc : α → List Value} {l : List α} (h : Row w e sz enc (.slice (some ⟨g, 0, none⟩) n cap) l) : n = l.length ∧ ∃ cur : Array Value, w.heap[g]? = some (.cells cur e (0, 0)) ∧ l.length ≤ cap ∧ cap ≤ maxLen ∧ cur.size = cap * sz ∧ cur.toList.take (l.length * sz) = l.flatMap enc := by
  rcases h.2 with ⟨h', _⟩ | ⟨g', cap', cur, h', _, hg, hc, hm, hs, ht⟩
  · cases h'
  · simp only [Value.slice.injEq, Option.some.injEq, Addr.mk.injEq, and_true] at h'
    obtain ⟨rfl, rfl, rfl⟩ := h'
    exact ⟨rfl, cur, hg, hc, hm, hs, ht⟩
theorem grown_setRow (w : World) (g : Nat) (cs : Array Value) : w.grownBy (w.setRow g cs) (some g) := ⟨rfl, rfl, rfl, by simp, fun k _ hk => setRow_other w g k _ (fun e => hk (by simp [e]))⟩
theorem setCells_row {w : World} {g o : Nat} {t : TypeId} {cur : Array Value} {vs : List Value} (hg : w.heap[g]? = some (.cells cur t (0, 0))) (hl : o + vs.length ≤ cur.size) (h1 : ∀ v ∈ vs, v.oneCell' = true) :
    w.setCells g o vs = w.setRow g (cur.toList.take o ++ vs ++ cur.toList.drop (o + vs.length)).toArray := by
  have a := run_storeCells_at Tryz.prog g o t vs 0 cur w hg (by simpa using hl) h1
  have b := run_storeCells_cells (P := Tryz.prog) g o vs 0 w (fun j hj => by rw [cell_of_row w g _ cur t (0, 0) hg, Array.getElem?_eq_getElem (by omega)]; rfl) (fun j _ => frozen_of_row w g _ cur t hg) h1
  rw [b] at a
  injection a with _ a
/-- clear(s): the cells of a block from o on. -/
theorem run_clear_row (P : Program) (w : World) (t e ty : TypeId) (z : Value) (sz : Nat) (ht : P.underlying t = some (.slice e)) (hv : ∀ w, (zeroValue e).run P w = .ok z w) (hz : z.cells.size = sz) (h1 : ∀ u ∈ z.cells.toList, u.oneCell' = true) (g o n c : Nat) (cur : Array Value) (hg : w.heap[g]? = some (.cells cur e (0, 0))) (hl : o + n * sz ≤ cur.size) :
    ∃ cs : Array Value, (Builtin.clear_ #[t] ty #[.slice (some ⟨g, o, none⟩) n c]).run P w = .ok (.tuple #[]) (w.setRow g cs) ∧ cs.size = cur.size ∧ cs.toList.take o = cur.toList.take o := by
  have hsz : (Builtin.zeroCells z.cells n).toList.length = n * sz := by rw [Array.length_toList, size_zeroCells, hz]
  rcases Nat.eq_zero_or_pos n with h0 | h0
  · subst h0
    refine ⟨cur, ?_, rfl, rfl⟩
    rw [setRow_self w g cur e (0, 0) hg]
    simp [Builtin.clear_, run_underlying ht]
  · have hst := run_storeCells_at P g o e (Builtin.zeroCells z.cells n).toList 0 cur w hg (by rw [hsz]; simpa using hl) (by
      intro u hu
      simp only [Builtin.zeroCells, Array.toList_map, List.mem_map, Array.mem_toList_iff, Array.mem_range] at hu
      obtain ⟨i, hi, rfl⟩ := hu
      have hp : 0 < z.cells.size := by
        rcases Nat.eq_zero_or_pos z.cells.size with h | h
        · rw [h] at hi; simp at hi
        · exact h
      have hm := Nat.mod_lt i hp
      rw [getElem!_pos z.cells _ hm]
      exact h1 _ (by simp))
    simp only [Nat.add_zero] at hst
    obtain ⟨m, rfl⟩ : ∃ m, n = m + 1 := ⟨n - 1, by omega⟩
    refine ⟨_, by simp [Builtin.clear_, run_underlying ht, hv, hst]; rfl, ?_, ?_⟩
    · simp only [List.size_toArray, List.length_append, List.length_take, List.length_drop, Array.length_toList]
      rw [Array.length_toList] at hsz
      omega
    · show List.take o (_ ++ _) = _
      rw [List.take_append_of_le_length (by simp; omega), List.take_take, Nat.min_self]

/-! An element stored into a row. -/
theorem flat_set {α : Type} {enc : α → List Value} {sz : Nat} (hlen : ∀ x, (enc x).length = sz) (l : List α) (i : Nat) (x : α) (hi : i < l.length) : (l.set i x).flatMap enc = (l.flatMap enc).take (i * sz) ++ enc x ++ (l.flatMap enc).drop (i * sz + sz) := by
  have e : l.flatMap enc = (l.take i).flatMap enc ++ (enc l[i] ++ (l.drop (i + 1)).flatMap enc) := by
    rw [← List.flatMap_cons, ← List.drop_eq_getElem_cons hi, ← List.flatMap_append, List.take_append_drop]
  have h1 : ((l.take i).flatMap enc).length = i * sz := by rw [flat_length hlen, List.length_take, Nat.min_eq_left (by omega)]
  rw [e, List.take_left' h1, List.drop_append, h1, List.drop_of_length_le (by rw [h1]; omega), show i * sz + sz - i * sz = sz by omega, List.drop_left' (hlen _), List.nil_append, List.set_eq_take_append_cons_drop, if_pos hi, List.flatMap_append, List.flatMap_cons, List.append_assoc]
theorem setCells_zero (w : World) (g o : Nat) : w.setCells g o [] = w := rfl
theorem setCells_two (w : World) (g o : Nat) (a b : Value) : (w.setCell ⟨g, o, none⟩ a).setCell ⟨g, o + 1, none⟩ b = w.setCells g o [a, b] := rfl
theorem setCells_three (w : World) (g o : Nat) (a b c : Value) : ((w.setCell ⟨g, o, none⟩ a).setCell ⟨g, o + 1, none⟩ b).setCell ⟨g, o + 2, none⟩ c = w.setCells g o [a, b, c] := rfl
theorem setCells_four (w : World) (g o : Nat) (a b c d : Value) : (((w.setCell ⟨g, o, none⟩ a).setCell ⟨g, o + 1, none⟩ b).setCell ⟨g, o + 2, none⟩ c).setCell ⟨g, o + 3, none⟩ d = w.setCells g o [a, b, c, d] := rfl
theorem Row.set_ {α : Type} {w : World} {e sz g n c : Nat} {enc : α → List Value} {l : List α} (h : Row w e sz enc (.slice (some ⟨g, 0, none⟩) n c) l) (hlen : ∀ x, (enc x).length = sz) (h1 : ∀ x, ∀ u ∈ enc x, u.oneCell' = true) (i : Nat) (x : α) (hi : i < l.length) :
    Row (w.setCells g (i * sz) (enc x)) e sz enc (.slice (some ⟨g, 0, none⟩) n c) (l.set i x) ∧ w.grownBy (w.setCells g (i * sz) (enc x)) (some g) := by
  obtain ⟨rfl, cur, hg, hc, hm, hs, ht⟩ := h.block
  have hm1 : (i + 1) * sz ≤ l.length * sz := Nat.mul_le_mul_right _ hi
  have hm2 : l.length * sz ≤ c * sz := Nat.mul_le_mul_right _ hc
  rw [Nat.add_mul, Nat.one_mul] at hm1
  rw [setCells_row (cur := cur) hg (by rw [hlen]; omega) (h1 x)]
  refine ⟨Row.of_block (setRow_heap w g cur _ _ _ hg) (by simp) hc hm ?_ hlen ?_, grown_setRow w g _⟩
  · simp only [List.size_toArray, List.length_append, List.length_take, List.length_drop, Array.length_toList, hlen]
    omega
  · rw [flat_set hlen l i x hi, ← ht, List.take_take, Nat.min_eq_left (by omega)]
    show List.take _ (_ ++ _) = _
    have h3 : (cur.toList.take (i * sz) ++ enc x).length = i * sz + sz := by rw [List.length_append, List.length_take, Array.length_toList, hlen]; omega
    rw [List.take_append, h3, List.take_of_length_le (by rw [h3]; omega), List.drop_take, hlen]
theorem Kept.of_grown {w w' : World} {g : Nat} (h : w.grownBy w' (some g)) : Kept w w' (fun k => k = g) := ⟨h.os, h.tape, h.output, h.size, fun k hk hn => h.block k hk (fun e => hn (by injection e))⟩
theorem Blk.grown {w w' : World} {g : Nat} {t : TypeId} {cs : Array Value} (h : Blk w g t cs) {row : Option Nat} (hg : w.grownBy w' row) (hn : some g ≠ row) : Blk w' g t cs := (hg.block g h.lt hn).trans h
theorem Row.grown {α : Type} {w w' : World} {e sz : Nat} {enc : α → List Value} {v : Value} {l : List α} (h : Row w e sz enc v l) {row : Option Nat} (hg : w.grownBy w' row) (hn : ∀ k, v.ownBlock = some k → some k ≠ row) : Row w' e sz enc v l := by
  refine h.kept (S := fun k => some k = row) ⟨hg.os, hg.tape, hg.output, hg.size, fun k hk hn => hg.block k hk hn⟩ (fun k e => hn k e)
/-- Two rows of unlike types share no block. -/
theorem Row.apart {α β : Type} {w : World} {e e' sz sz' : Nat} {enc : α → List Value} {enc' : β → List Value} {v v' : Value} {l : List α} {l' : List β} (h : Row w e sz enc v l) (h' : Row w e' sz' enc' v' l') (hne : e ≠ e') : ∀ k, v.ownBlock = some k → v'.ownBlock ≠ some k := by
  intro k hk hk'
  obtain ⟨c1, b1⟩ := h.typed hk
  obtain ⟨c2, b2⟩ := h'.typed hk'
  exact b1.ne_ b2 hne rfl
theorem Row.ne_blk {α : Type} {w : World} {e sz g t : Nat} {cs : Array Value} {enc : α → List Value} {v : Value} {l : List α} (h : Row w e sz enc v l) (hb : Blk w g t cs) (hne : e ≠ t) : v.ownBlock ≠ some g := by
  intro hk
  obtain ⟨c1, b1⟩ := h.typed hk
  exact b1.ne_ hb hne rfl
/-- The one element that append(v, x) lays first. -/
theorem news_lit {α : Type} (enc : α → List Value) (w : World) (e : TypeId) (x : α) (cs : Array Value) (h : cs.toList = enc x) : ∀ j u, ([x].flatMap enc)[j]? = some u → (w.alloc (.cells cs e)).cell? ((⟨w.heap.size, 0, none⟩ : Addr).add j) = some u := by
  intro j u hu
  refine World.news_of_block (heap_alloc_new w _) j u ?_
  rw [h]
  simpa using hu
theorem Row.some_slice {α : Type} {w : World} {e sz : Nat} {enc : α → List Value} {v : Value} {l : List α} (h : Row w e sz enc v l) : ∃ A n c, v = .slice A n c := by
  obtain ⟨A, c, e⟩ := h.shape
  exact ⟨A, _, c, e⟩
end Go.Proofs.YtdfdlajfjcakaaaGreat
namespace Go.Proofs.YtdfdlajfjcakaaaGreat
open Go Go.RowKit
set_option linter.unusedVariables false
set_option linter.unusedSimpArgs false

/-- A call of a Go function as a step of a region that draws its order: for go_region_law. -/
theorem step_call {P : Program} {ops : Array Oper} {o : Oper} {a : Act} {w : World} {K : Act → World → Prop} {Q : Exit → Act → World → Prop} {E : Prop} {f : FuncId} (he : Enters P f) (xs : Array Operand) (ts : Array TypeId) (args : Array Value)
    (hgd : o.guard = none) (hop : o.op = .call { callee := .value (.func f), args := xs, argTypes := ts }) (hargs : xs.map a.eval = args)
    (h : Calls P f args w fun e w' => ∃ v, e = .returned v ∧ K (a.put o.dst v) w') : if Region.wanted o (yielded ops a.tmps) = true then Oper.wp P o a w K Q else E := by
  have hw : Region.wanted o (yielded ops a.tmps) = true := by simp [Region.wanted, hgd]
  rw [if_pos hw]
  have hrun : (execOp a.eval o).run P w = .ok (.enter f args) w := by
    have he' := he args w
    unfold execOp
    simp [hop, resolve, Deferred.ofValue, invoke, Act.eval, hargs, he']
  unfold Oper.wp
  rw [hrun, Oper.upon_enter]
  refine h.mono fun e w'' hh => ?_
  obtain ⟨v, rfl, hk⟩ := hh
  exact hk
theorem Row.shape_n {α : Type} {w : World} {e sz n : Nat} {enc : α → List Value} {v : Value} {l : List α} (h : Row w e sz enc v l) (hn : l.length = n) : ∃ A c, v = .slice A n c := by
  subst hn
  exact h.shape
end Go.Proofs.YtdfdlajfjcakaaaGreat
/-! Slices of plain elements, opened. -/
namespace Go.Proofs.YtdfdlajfjcakaaaGreat.Open
open Go Go.ChangeShapes Go.WideShapes Go.ChangeAt Go.RowKit Go.Deep
set_option linter.unusedVariables false
set_option linter.unusedSimpArgs false

/-- A cell's kind. -/
inductive FK where
  | int (k : IntKind)
  | bool
  | str
def FK.ok : FK → Value → Prop
  | .int k, v => ∃ x : Int, v = .int k x ∧ (Lit.int k x).wf = true
  | .bool, v => ∃ b : Bool, v = .bool b
  | .str, v => ∃ s : ByteArray, v = .string s ∧ s.size ≤ 140737488351232
def FK.of (k : FK) : TypeDesc → Bool
  | .int j => match k with | .int i => decide (i = j) | _ => false
  | .bool => match k with | .bool => true | _ => false
  | .string => match k with | .str => true | _ => false
  | _ => false
/-- An element's type: so many cells, of these kinds: one of them, or a struct of them. -/
def structOk (P : Program) (e : TypeId) (ks : List FK) : Bool :=
  match P.underlying e with
  | some (.struct fs) => decide (P.cellsOf e = ks.length) && decide (fs.size = ks.length) && (List.range fs.size).all fun i => match fs[i]?, ks[i]? with
    | some f, some k => decide (P.cellsOf f.type = 1) && decide (f.offset = i) && (match P.underlying f.type with | some d => k.of d | none => false)
    | _, _ => false
  | _ => false
def oneOk (P : Program) (e : TypeId) (ks : List FK) : Bool := decide (P.cellsOf e = 1) && (match ks with | [k] => (match P.underlying e with | some d => k.of d | none => false) | _ => false)
def rowOk (P : Program) (e : TypeId) (ks : List FK) : Bool := structOk P e ks || oneOk P e ks
/-- A row of values of these kinds. -/
def RowK (ks : List FK) (r : List Value) : Prop := r.length = ks.length ∧ ∀ (j : Nat) (k : FK) (v : Value), ks[j]? = some k → r[j]? = some v → k.ok v

section
variable {H : Type} {enc : TypeId × Value → H} {P : Program} {w : World} {base : Nat} {spare : Nat → Bool} {held : Bool}
theorem of_kind {t : TypeId} {k : FK} {d : TypeDesc} {fuel : Nat} {cs : List Value} {x : DataW H × List MemPlace} (hu : P.underlying t = some d) (hk : k.of d = true)
    (h : DataW.trod enc P w base spare held fuel t cs = some x) (hs : ∀ n ∈ x.1.weights P t, n ≤ 140737488351232) : ∃ v, cs = [v] ∧ k.ok v := by
  cases d with
  | int j =>
    cases k with
    | int i =>
      obtain rfl : i = j := of_decide_eq_true hk
      obtain ⟨n, rfl, _, hw⟩ := DataW.trod_int hu h
      exact ⟨_, rfl, n, rfl, hw⟩
    | _ => cases hk
  | bool =>
    cases k with
    | bool =>
      obtain ⟨b, rfl, _⟩ := DataW.trod_bool hu h
      exact ⟨_, rfl, b, rfl⟩
    | _ => cases hk
  | string =>
    cases k with
    | str =>
      obtain ⟨s, rfl, rfl, _⟩ := DataW.trod_string hu h
      refine ⟨_, rfl, s, rfl, ?_⟩
      have := hs s.data.toList.length (by simp [DataW.weights])
      rw [Array.length_toList] at this
      exact this
    | _ => cases hk
  | _ => cases hk
theorem weights_each_mem : ∀ {ts : List TypeId} {ds : List (DataW H)} {j : Nat} {t : TypeId} {d : DataW H}, ts[j]? = some t → ds[j]? = some d → ∀ n ∈ d.weights P t, n ∈ DataW.weightsEach P ts ds := DataW.weights_mem_each
theorem weights_all_mem {e : TypeId} : ∀ {ds : List (DataW H)} {d : DataW H}, d ∈ ds → ∀ n ∈ d.weights P e, n ∈ DataW.weightsAll P e ds
  | d0 :: ds, d, hd, n, hn => by
    simp only [DataW.weightsAll, List.mem_append]
    rcases List.mem_cons.1 hd with rfl | hd
    · exact .inl hn
    · exact .inr (weights_all_mem hd n hn)
theorem row_of {e : TypeId} {ks : List FK} {fuel : Nat} {cs : List Value} {x : DataW H × List MemPlace} (hr : rowOk P e ks = true)
    (h : DataW.trod enc P w base spare held fuel e cs = some x) (hs : ∀ n ∈ x.1.weights P e, n ≤ 140737488351232) : RowK ks cs := by
  unfold rowOk at hr
  rw [Bool.or_eq_true] at hr
  rcases hr with hr | hr
  · unfold structOk at hr
    cases hu : P.underlying e with
    | none => rw [hu] at hr; cases hr
    | some d =>
      rw [hu] at hr
      cases d with
      | struct fs =>
        simp only [Bool.and_eq_true, decide_eq_true_eq] at hr
        obtain ⟨⟨hc, hz⟩, hall⟩ := hr
        obtain ⟨xs, n, _, rfl, hl, hlen, hf⟩ := DataW.trod_struct hu h
        refine ⟨by rw [hl, hc], fun j k v hk hv => ?_⟩
        have hj : j < fs.size := by rw [hz]; exact (List.getElem?_eq_some_iff.1 hk).1
        have h1 := List.all_eq_true.1 hall j (List.mem_range.2 hj)
        rw [Array.getElem?_eq_getElem hj, hk] at h1
        simp only [Bool.and_eq_true, decide_eq_true_eq] at h1
        obtain ⟨⟨h1, h2⟩, h3⟩ := h1
        have h4 := hf j fs[j] (Array.getElem?_eq_getElem hj)
        have hxj : j < xs.length := by rw [hlen]; exact hj
        rw [h1, h2, List.getElem?_eq_getElem hxj] at h4
        have hjl : j < cs.length := by rw [hl, hc, ← hz]; exact hj
        have hcs : (cs.drop j).take 1 = [cs[j]] := by rw [List.drop_eq_getElem_cons hjl]; rfl
        rw [hcs] at h4
        cases hd : P.underlying fs[j].type with
        | none => rw [hd] at h3; cases h3
        | some d =>
          rw [hd] at h3
          have hw : ∀ m ∈ xs[j].1.weights P fs[j].type, m ≤ 140737488351232 := by
            intro m hm
            refine hs m ?_
            simp only [DataW.weights, hu]
            refine weights_each_mem (j := j) (t := fs[j].type) (d := xs[j].1) ?_ ?_ m hm
            · simp [hj]
            · simp [hxj]
          obtain ⟨v', hv', hok⟩ := of_kind hd h3 h4 hw
          rw [List.getElem?_eq_getElem hjl] at hv
          injection hv with hv
          injection hv' with hv'
          rw [← hv, hv']
          exact hok
      | _ => cases hr
  · unfold oneOk at hr
    simp only [Bool.and_eq_true, decide_eq_true_eq] at hr
    match ks, hr.2 with
    | [k], hk =>
      cases hu : P.underlying e with
      | none => rw [hu] at hk; cases hk
      | some d =>
        rw [hu] at hk
        obtain ⟨v, rfl, hok⟩ := of_kind hu hk h hs
        refine ⟨rfl, fun j k' v' hk' hv' => ?_⟩
        cases j with
        | zero =>
          simp at hk' hv'
          subst hk' hv'
          exact hok
        | succ j => simp at hk'
theorem rowOk_cells {e : TypeId} {ks : List FK} (hr : rowOk P e ks = true) : P.cellsOf e = ks.length := by
  unfold rowOk at hr
  rw [Bool.or_eq_true] at hr
  rcases hr with hr | hr
  · unfold structOk at hr
    split at hr
    · simp only [Bool.and_eq_true, decide_eq_true_eq] at hr
      exact hr.1.1
    · cases hr
  · unfold oneOk at hr
    simp only [Bool.and_eq_true, decide_eq_true_eq] at hr
    match ks, hr.2 with
    | [k], _ => exact hr.1
/-- What a slice of such elements holds, in memory: nil, or rows of cells. -/
def Rows (w : World) (ks : List FK) (A : Option Addr) (len cap : Nat) (rows : List (List Value)) : Prop :=
  rows.length = len ∧ len ≤ cap ∧ cap ≤ maxLen ∧ (∀ r ∈ rows, RowK ks r) ∧ (0 < len → ∃ a, A = some a ∧ ∀ i r, rows[i]? = some r → ∀ j v, r[j]? = some v → w.cell? (a.add (i * ks.length + j)) = some v)
theorem open_rows {t e : TypeId} {ks : List FK} {A : Option Addr} {len cap : Nat} {x : DataW H} {p : List MemPlace} (ht : P.underlying t = some (.slice e)) (hr : rowOk P e ks = true)
    (h : DataW.Trod enc P w base spare held t (.slice A len cap) x p) (hs : ∀ n ∈ x.weights P t, n ≤ 140737488351232) : ∃ rows, Rows w ks A len cap rows ∧ len * P.bytesOf e ≤ 140737488351232 := by
  obtain ⟨fuel, hf⟩ := h
  rcases open_slice ht hf with ⟨hcs, hx⟩ | ⟨a, len', cap', m, n, D, Pl, hcs, hb, hl, hm, hmm, hx, hcell⟩
  · simp only [Value.cells] at hcs
    obtain ⟨rfl, rfl, rfl⟩ : A = none ∧ len = 0 ∧ cap = 0 := by simpa using hcs
    exact ⟨[], ⟨rfl, Nat.le_refl _, Nat.zero_le _, (by intro r hr; cases hr), fun h => absurd h (by omega)⟩, by omega⟩
  · simp only [Value.cells] at hcs
    obtain ⟨rfl, rfl, rfl⟩ : A = some a ∧ len = len' ∧ cap = cap' := by simpa using hcs
    simp only [Prod.mk.injEq] at hx
    obtain ⟨rfl, rfl⟩ := hx
    have hml : len ≤ m := by rw [hmm]; split <;> omega
    have hweights := hs
    simp only [DataW.weights, ht] at hweights
    have hlen : len * P.bytesOf e ≤ 140737488351232 := by
      have := hweights _ (List.mem_cons_self ..)
      simp only [List.length_map, List.length_range] at this
      exact Nat.le_trans (Nat.mul_le_mul_right _ (Nat.le_add_right _ _)) this
    have hk := rowOk_cells hr
    have hex : ∀ i, i < len → ∃ cs : List Value, RowK ks cs ∧ ∀ j v, cs[j]? = some v → w.cell? (a.add (i * ks.length + j)) = some v := by
      intro i hi
      obtain ⟨cs, h1, h2⟩ := hcell i (by omega)
      have hw : ∀ q ∈ (D i).weights P e, q ≤ 140737488351232 := fun q hq => hweights q (by
        refine List.mem_cons_of_mem _ (List.mem_append_left _ (weights_all_mem (d := D i) ?_ q hq))
        exact List.mem_map.2 ⟨i, List.mem_range.2 hi, rfl⟩)
      refine ⟨cs, row_of hr h2 hw, fun j v hv => ?_⟩
      obtain ⟨_, hl2, h3⟩ := World.cells?_some h1
      have hj : j < P.cellsOf e := by rw [← hl2]; exact (List.getElem?_eq_some_iff.1 hv).1
      have := h3 j hj
      rw [add_add, hk] at this
      rw [this, hv]
    obtain ⟨f, hf⟩ := choose_lt hex
    refine ⟨(List.range len).map f, ⟨by simp, hl, hm, ?_, fun _ => ⟨a, rfl, ?_⟩⟩, hlen⟩
    · intro r hr
      obtain ⟨i, hi, rfl⟩ := List.mem_map.1 hr
      exact (hf i (List.mem_range.1 hi)).1
    · intro i r hr j v hv
      rw [List.getElem?_map] at hr
      obtain ⟨i', hi', rfl⟩ := Option.map_eq_some_iff.1 hr
      obtain ⟨hlt, hii⟩ := List.getElem?_eq_some_iff.1 hi'
      simp only [List.length_range] at hlt
      simp only [List.getElem_range] at hii
      subst hii
      exact (hf i hlt).2 j v hv
end
end Go.Proofs.YtdfdlajfjcakaaaGreat.Open
namespace Go.Proofs.YtdfdlajfjcakaaaGreat
open Go Go.RowKit
set_option linter.unusedVariables false
set_option linter.unusedSimpArgs false

theorem add_field' (a : Addr) (x j : Nat) (h : 0 < j) : a.add (x + j) = ⟨(a.add x).block, (a.add x).off + j, none⟩ := by
  unfold Addr.add
  rw [if_neg (by omega)]
  split
  · rename_i h0; simp [h0]
  · simp [Nat.add_assoc]
def adr (ad : Addr) (o : Nat) : Nat → Addr
  | 0 => ad.add o
  | j + 1 => ⟨(ad.add o).block, (ad.add o).off + (j + 1), none⟩
theorem adr_eq (ad : Addr) (o j : Nat) : adr ad o j = ad.add (o + j) := by
  cases j with
  | zero => rfl
  | succ j => rw [add_field' _ _ _ (by omega)]; rfl
/-- A slice that came in: its elements' cells. -/
def Args {α : Type} (w : World) (A : Option Addr) (n sz : Nat) (enc : α → List Value) (P : α → Prop) (f : Nat → α) : Prop :=
  (∀ i, i < n → P (f i)) ∧ (0 < n → ∃ ad, A = some ad ∧ ∀ i, i < n → ∀ j v, (enc (f i))[j]? = some v → w.cell? (adr ad (i * sz) j) = some v)
theorem args_of {α : Type} [Inhabited α] {w : World} {ks : List Open.FK} {A : Option Addr} {len cap : Nat} {rows : List (List Value)} (h : Open.Rows w ks A len cap rows) (enc : α → List Value) (P : α → Prop) (sz : Nat) (hsz : ks.length = sz)
    (ho : ∀ r, Open.RowK ks r → ∃ x, r = enc x ∧ P x) : ∃ f, Args w A len sz enc P f := by
  subst hsz
  obtain ⟨hl, _, _, hr, hc⟩ := h
  have ha : ∀ i, ∃ x : α, i < rows.length → rows[i]? = some (enc x) ∧ P x := by
    intro i
    by_cases hi : i < rows.length
    · obtain ⟨x, hx, hp⟩ := ho rows[i] (hr _ (List.getElem_mem hi))
      exact ⟨x, fun _ => ⟨by rw [List.getElem?_eq_getElem hi, hx], hp⟩⟩
    · exact ⟨default, fun h => absurd h hi⟩
  refine ⟨fun i => (ha i).choose, fun i hi => ((ha i).choose_spec (by omega)).2, fun h0 => ?_⟩
  obtain ⟨ad, hA, hcell⟩ := hc h0
  refine ⟨ad, hA, fun i hi j v hv => ?_⟩
  rw [adr_eq]
  exact hcell i _ ((ha i).choose_spec (by omega)).1 j v hv
theorem adr_block (ad : Addr) (o j : Nat) : (adr ad o j).block = ad.block := by
  rw [adr_eq]
  unfold Addr.add
  split <;> rfl
theorem Args.below {α : Type} {w w' : World} {A : Option Addr} {n sz : Nat} {enc : α → List Value} {P : α → Prop} {f : Nat → α} (h : Args w A n sz enc P f) (hb : Below w.heap.size w w') : Args w' A n sz enc P f := by
  refine ⟨h.1, fun h0 => ?_⟩
  obtain ⟨ad, hA, hc⟩ := h.2 h0
  refine ⟨ad, hA, fun i hi j v hv => ?_⟩
  have := hc i hi j v hv
  exact (hb.cell (World.block_lt_of_cell? w _ this)).trans this

/-- 'among': a number from 0 to n - 1. -/
def amg (a b : Int) : Int := (wrap64 (a.tmod b + b)).tmod b
theorem amg_bounds (a b : Int) (h : 0 < b) (hb : b ≤ 4611686018427387904) : 0 ≤ amg a b ∧ amg a b < b := by
  have h1 := Int.tmod_lt_of_pos a h
  have h2 : -b < a.tmod b := by
    have := Int.lt_tmod_of_pos a h
    omega
  have hw : wrap64 (a.tmod b + b) = a.tmod b + b := by unfold wrap64; omega
  unfold amg
  rw [hw]
  exact ⟨Int.tmod_nonneg _ (by omega), Int.tmod_lt_of_pos _ h⟩
end Go.Proofs.YtdfdlajfjcakaaaGreat
namespace Go.Proofs.YtdfdlajfjcakaaaGreat
open Go Go.RowKit
set_option linter.unusedVariables false
set_option linter.unusedSimpArgs false

/-! append of a whole row, nil let in -/
section
variable {P : Program} {α : Type} {enc : α → List Value}
theorem Row.appendRow_run {W : World} (t ty e : TypeId) (z : Value) (sz bytes : Nat) (ht : P.underlying t = some (.slice e)) (hinfo : (P.info? e).map (fun i => (i.zero, i.size, i.bytes)) = some (some z, sz, bytes)) (hz : z.cells.size = sz) (hs0 : 0 < sz) (hb0 : 0 < bytes)
    (v v2 : Value) (l ys : List α) (HR : Row W e sz enc v l) (HY : Row W e sz enc v2 ys) (hlen : ∀ x, (enc x).length = sz)
    (h1 : ∀ x, ∀ u ∈ enc x, u.oneCell' = true) (hl : (l.length + ys.length) * bytes ≤ 140737488355328) :
    ∃ v1 w1, (Builtin.append_ #[t, t] ty #[v, v2]).run P W = .ok v1 w1 ∧ Row w1 e sz enc v1 (l ++ ys) ∧ W.grownBy w1 v.ownBlock ∧ (v1.ownBlock = v.ownBlock ∨ v1.ownBlock = some W.heap.size) := by
  rcases HY.2 with ⟨rfl, h0⟩ | ⟨g, cap, cur, rfl, _, hg, _⟩
  · obtain rfl : ys = [] := List.eq_nil_of_length_eq_zero h0
    obtain ⟨i0, hi, hzz⟩ := Option.map_eq_some_iff.1 hinfo
    refine ⟨v, W, run_append_owned_none W 0 t ty e i0 sz ht hi v l.length (l.flatMap enc) HR, by simpa using HR, World.grownBy.refl W _, .inl rfl⟩
  · exact Row.append_run t ty e z sz bytes ht hinfo hz hs0 hb0 v l ys HR ⟨g, 0, none⟩ ys.length cap rfl hlen HY.news h1 hl
variable {ops : Array Oper} {rest : List Oper} {o : Oper} {a : Act} {Q : Exit → Act → World → Prop} {K : Act → World → Prop} {E : Prop} {W : World}
theorem Row.appendRow_step (hgd : o.guard = none) (s x : Operand) (t e : TypeId) (z : Value) (sz bytes : Nat)
    (ho : o.op = .call { callee := .builtin .append, args := #[s, x], argTypes := #[t, t] })
    (ht : P.underlying t = some (.slice e)) (hinfo : (P.info? e).map (fun i => (i.zero, i.size, i.bytes)) = some (some z, sz, bytes)) (hz : z.cells.size = sz) (hs0 : 0 < sz) (hb0 : 0 < bytes)
    (v v2 : Value) (l ys : List α) (hs : a.eval s = v) (hx : a.eval x = v2) (HR : Row W e sz enc v l) (HY : Row W e sz enc v2 ys) (hlen : ∀ x, (enc x).length = sz)
    (h1 : ∀ x, ∀ u ∈ enc x, u.oneCell' = true) (hl : (l.length + ys.length) * bytes ≤ 140737488355328)
    (h : ∀ v1 w1, Row w1 e sz enc v1 (l ++ ys) → W.grownBy w1 v.ownBlock → (v1.ownBlock = v.ownBlock ∨ v1.ownBlock = some W.heap.size) → K (a.put o.dst v1) w1) :
    if Region.wanted o (yielded ops a.tmps) = true then Oper.wp P o a W K Q else E := by
  have hw : Region.wanted o (yielded ops a.tmps) = true := by simp [Region.wanted, hgd]
  rw [if_pos hw]
  obtain ⟨v1, w1, hr, h2, h3, h4⟩ := Row.appendRow_run (P := P) (W := W) t o.type e z sz bytes ht hinfo hz hs0 hb0 v v2 l ys HR HY hlen h1 hl
  unfold Oper.wp execOp
  simp only [ho, resolve, invoke, builtin, Sem.run_bind, Sem.run_pure, Result.andThen_ok, List.map_toArray, List.map_cons, List.map_nil, hs, hx, hr]
  exact h v1 w1 h2 h3 h4
theorem Row.appendRow_list (hgd : o.guard = none) (s x : Operand) (t e : TypeId) (z : Value) (sz bytes : Nat)
    (ho : o.op = .call { callee := .builtin .append, args := #[s, x], argTypes := #[t, t] })
    (ht : P.underlying t = some (.slice e)) (hinfo : (P.info? e).map (fun i => (i.zero, i.size, i.bytes)) = some (some z, sz, bytes)) (hz : z.cells.size = sz) (hs0 : 0 < sz) (hb0 : 0 < bytes)
    (v v2 : Value) (l ys : List α) (hs : a.eval s = v) (hx : a.eval x = v2) (HR : Row W e sz enc v l) (HY : Row W e sz enc v2 ys) (hlen : ∀ x, (enc x).length = sz)
    (h1 : ∀ x, ∀ u ∈ enc x, u.oneCell' = true) (hl : (l.length + ys.length) * bytes ≤ 140737488355328)
    (h : ∀ v1 w1, Row w1 e sz enc v1 (l ++ ys) → W.grownBy w1 v.ownBlock → (v1.ownBlock = v.ownBlock ∨ v1.ownBlock = some W.heap.size) → wpList P ops Q rest (a.put o.dst v1) w1) :
    wpList P ops Q (o :: rest) a W := by
  refine wpList_plain hgd fun K hK => ?_
  obtain ⟨v1, w1, hr, h2, h3, h4⟩ := Row.appendRow_run (P := P) (W := W) t o.type e z sz bytes ht hinfo hz hs0 hb0 v v2 l ys HR HY hlen h1 hl
  unfold Oper.wp execOp
  simp only [ho, resolve, invoke, builtin, Sem.run_bind, Sem.run_pure, Result.andThen_ok, List.map_toArray, List.map_cons, List.map_nil, hs, hx, hr]
  exact hK _ _ (h v1 w1 h2 h3 h4)
end
theorem Row.empty {α : Type} (w : World) (e sz : Nat) (enc : α → List Value) : Row (w.alloc (.cells #[] e)) e sz enc (.slice (some ⟨w.heap.size, 0, none⟩) 0 0) ([] : List α) := World.ownsRow_made w #[] 0 (Nat.zero_le _) (by decide) (by simp)
theorem Row.lit1 {α : Type} (enc : α → List Value) (w : World) (e sz : Nat) (x : α) (cs : Array Value) (h : cs.toList = enc x) (hs : (enc x).length = sz) : Row (w.alloc (.cells cs e)) e sz enc (.slice (some ⟨w.heap.size, 0, none⟩) 1 1) [x] := by
  have := World.ownsRow_lit (base := 0) (e := e) (size := sz) w cs 1 (Nat.zero_le _) (by decide) (by rw [← Array.length_toList, h, hs, Nat.one_mul])
  unfold Row
  simpa [h] using this
end Go.Proofs.YtdfdlajfjcakaaaGreat
/-! What came in, opened: values of any shape of whole numbers, bools, texts and slices, in structs, in structs. -/
namespace Go.Proofs.YtdfdlajfjcakaaaGreat.Shape
open Go Go.ChangeShapes Go.WideShapes Go.ChangeAt Go.RowKit Go.Deep
set_option linter.unusedVariables false
set_option linter.unusedSimpArgs false

/-- A cell's shape. -/
inductive SK where
  | int (k : IntKind)
  | bool
  | str
  | row (e : TypeId) (ks : List SK)
mutual
def SK.same : SK → SK → Bool
  | .int k, .int j => decide (k = j)
  | .bool, .bool => true
  | .str, .str => true
  | .row e ks, .row f js => decide (e = f) && SK.sames ks js
  | _, _ => false
def SK.sames : List SK → List SK → Bool
  | [], [] => true
  | k :: ks, j :: js => SK.same k j && SK.sames ks js
  | _, _ => false
end
mutual
/-- What a cell of this shape holds. -/
def SK.ok (P : Program) (w : World) : SK → Value → Prop
  | .int k, v => ∃ x : Int, v = .int k x ∧ (Lit.int k x).wf = true
  | .bool, v => ∃ b : Bool, v = .bool b
  | .str, v => ∃ s : ByteArray, v = .string s ∧ s.size ≤ 140737488351232
  | .row e ks, v => ∃ (A : Option Addr) (len cap : Nat) (rows : List (List Value)), v = .slice A len cap ∧ len ≤ cap ∧ cap ≤ maxLen ∧ len * P.bytesOf e ≤ 140737488351232 ∧ rows.length = len ∧
      (0 < len → ∃ a, A = some a ∧ ∀ (j : Nat) (r : List Value), rows[j]? = some r → ∀ (i : Nat) (u : Value), r[i]? = some u → w.cell? (a.add (j * ks.length + i)) = some u) ∧ (A = none → cap = 0) ∧ ∀ r ∈ rows, SK.oks P w ks r
def SK.oks (P : Program) (w : World) : List SK → List Value → Prop
  | [], [] => True
  | k :: ks, v :: vs => SK.ok P w k v ∧ SK.oks P w ks vs
  | _, _ => False
end
theorem oks_len {P : Program} {w : World} : ∀ {ks : List SK} {vs : List Value}, SK.oks P w ks vs → vs.length = ks.length
  | [], [], _ => rfl
  | k :: ks, v :: vs, h => by simp only [SK.oks] at h; simp [oks_len h.2]
  | [], _ :: _, h => by simp [SK.oks] at h
  | _ :: _, [], h => by simp [SK.oks] at h
theorem oks_at {P : Program} {w : World} : ∀ {ks : List SK} {vs : List Value} (j : Nat) (k : SK) (v : Value), SK.oks P w ks vs → ks[j]? = some k → vs[j]? = some v → SK.ok P w k v
  | k :: ks, v :: vs, 0, _, _, h, hk, hv => by
    simp only [SK.oks] at h
    simp at hk hv
    subst hk hv
    exact h.1
  | k :: ks, v :: vs, j + 1, k', v', h, hk, hv => by
    simp only [SK.oks] at h
    exact oks_at j k' v' h.2 (by simpa using hk) (by simpa using hv)
  | [], _, j, k, v, _, hk, _ => by simp at hk
  | _ :: _, [], j, k, v, h, _, _ => by simp [SK.oks] at h
theorem oks_mk {P : Program} {w : World} : ∀ {ks : List SK} {vs : List Value}, vs.length = ks.length → (∀ (j : Nat) (k : SK) (v : Value), ks[j]? = some k → vs[j]? = some v → SK.ok P w k v) → SK.oks P w ks vs
  | [], [], _, _ => by simp [SK.oks]
  | k :: ks, v :: vs, hl, h => by
    simp only [SK.oks]
    exact ⟨h 0 k v rfl rfl, oks_mk (by simpa using hl) (fun j k' v' hk hv => h (j + 1) k' v' (by simpa using hk) (by simpa using hv))⟩
  | [], _ :: _, hl, _ => by simp at hl
  | _ :: _, [], hl, _ => by simp at hl
/-- Are a type's cells of these shapes? -/
def shOk (P : Program) : Nat → TypeId → List SK → Bool
  | 0, _, _ => false
  | n + 1, t, ks =>
    match P.underlying t with
    | some (.int i) => match ks with
      | [.int k] => decide (i = k)
      | _ => false
    | some .bool => match ks with
      | [.bool] => true
      | _ => false
    | some .string => match ks with
      | [.str] => true
      | _ => false
    | some (.slice e) => match ks with
      | [.row f js] => decide (e = f) && decide (P.cellsOf e = js.length) && shOk P n e js
      | _ => false
    | some (.struct fs) => decide (P.cellsOf t = ks.length) && (fs.toList.all fun f => shOk P n f.type ((ks.drop f.offset).take (P.cellsOf f.type))) &&
        (List.range ks.length).all fun i => fs.toList.any fun f => decide (f.offset ≤ i ∧ i < f.offset + P.cellsOf f.type)
    | _ => false
section
variable {H : Type} {enc : TypeId × Value → H} {P : Program} {w : World} {base : Nat} {spare : Nat → Bool} {held : Bool}
theorem open_sh : ∀ (n : Nat) {t : TypeId} {ks : List SK} {fuel : Nat} {cs : List Value} {x : DataW H × List MemPlace}, shOk P n t ks = true →
    DataW.trod enc P w base spare held fuel t cs = some x → (∀ m ∈ x.1.weights P t, m ≤ 140737488351232) → SK.oks P w ks cs
  | 0, _, _, _, _, _, h, _, _ => by simp [shOk] at h
  | n + 1, t, ks, fuel, cs, x, h, ht, hs => by
    unfold shOk at h
    cases hu : P.underlying t with
    | none => rw [hu] at h; cases h
    | some d =>
      rw [hu] at h
      cases d with
      | int i =>
        simp only at h
        split at h
        · obtain rfl := of_decide_eq_true h
          obtain ⟨m, rfl, _, hw⟩ := DataW.trod_int hu ht
          simp only [SK.oks, SK.ok]
          exact ⟨⟨m, rfl, hw⟩, trivial⟩
        · cases h
      | bool =>
        simp only at h
        split at h
        · obtain ⟨b, rfl, _⟩ := DataW.trod_bool hu ht
          simp only [SK.oks, SK.ok]
          exact ⟨⟨b, rfl⟩, trivial⟩
        · cases h
      | string =>
        simp only at h
        split at h
        · obtain ⟨s, rfl, rfl, _⟩ := DataW.trod_string hu ht
          simp only [SK.oks, SK.ok]
          refine ⟨⟨s, rfl, ?_⟩, trivial⟩
          have := hs s.data.toList.length (by simp [DataW.weights])
          rw [Array.length_toList] at this
          exact this
        · cases h
      | slice e =>
        simp only at h
        split at h
        · rename_i f js
          simp only [Bool.and_eq_true, decide_eq_true_eq] at h
          obtain ⟨⟨rfl, hk⟩, hsh⟩ := h
          rcases open_slice hu ht with ⟨rfl, hx⟩ | ⟨a, len, cap, m, q, D, Pl, rfl, hb, hl, hm, hmm, hx, hcell⟩
          · simp only [SK.oks, and_true]
            simp only [SK.ok]
            exact ⟨none, 0, 0, [], rfl, Nat.le_refl _, Nat.zero_le _, by omega, rfl, fun h => absurd h (by omega), fun _ => rfl, fun r hr => by cases hr⟩
          · simp only [SK.oks, and_true]
            simp only [SK.ok]
            have hml : len ≤ m := by rw [hmm]; split <;> omega
            subst hx
            have hweights := hs
            simp only [DataW.weights, hu] at hweights
            have hlen : len * P.bytesOf e ≤ 140737488351232 := by
              have := hweights _ (List.mem_cons_self ..)
              simp only [List.length_map, List.length_range] at this
              exact Nat.le_trans (Nat.mul_le_mul_right _ (Nat.le_add_right _ _)) this
            have hex : ∀ i, i < len → ∃ cs : List Value, SK.oks P w js cs ∧ ∀ j v, cs[j]? = some v → w.cell? (a.add (i * js.length + j)) = some v := by
              intro i hi
              obtain ⟨cs, h1, h2⟩ := hcell i (by omega)
              have hw : ∀ q ∈ (D i).weights P e, q ≤ 140737488351232 := fun q hq => hweights q (by
                refine List.mem_cons_of_mem _ (List.mem_append_left _ (Open.weights_all_mem (d := D i) ?_ q hq))
                exact List.mem_map.2 ⟨i, List.mem_range.2 hi, rfl⟩)
              refine ⟨cs, open_sh n hsh h2 hw, fun j v hv => ?_⟩
              obtain ⟨_, hl2, h3⟩ := World.cells?_some h1
              have hj : j < P.cellsOf e := by rw [← hl2]; exact (List.getElem?_eq_some_iff.1 hv).1
              have := h3 j hj
              rw [add_add, hk] at this
              rw [this, hv]
            obtain ⟨f, hf⟩ := choose_lt hex
            refine ⟨some a, len, cap, (List.range len).map f, rfl, hl, hm, hlen, by simp, fun _ => ⟨a, rfl, ?_⟩, fun h => (by cases h), ?_⟩
            · intro i r hr j v hv
              rw [List.getElem?_map] at hr
              obtain ⟨i', hi', rfl⟩ := Option.map_eq_some_iff.1 hr
              obtain ⟨hlt, hii⟩ := List.getElem?_eq_some_iff.1 hi'
              simp only [List.length_range] at hlt
              simp only [List.getElem_range] at hii
              subst hii
              exact (hf i hlt).2 j v hv
            · intro r hr
              obtain ⟨i, hi, rfl⟩ := List.mem_map.1 hr
              exact (hf i (List.mem_range.1 hi)).1
        · cases h
      | struct fs =>
        simp only [Bool.and_eq_true, decide_eq_true_eq] at h
        obtain ⟨⟨hc, hall⟩, hcov⟩ := h
        obtain ⟨xs, m, _, rfl, hl, hlen, hf⟩ := DataW.trod_struct hu ht
        refine oks_mk (by rw [hl, hc]) (fun j k v hk hv => ?_)
        have hj : j < ks.length := (List.getElem?_eq_some_iff.1 hk).1
        obtain ⟨f, hfm, hin⟩ := List.any_eq_true.1 (List.all_eq_true.1 hcov j (List.mem_range.2 hj))
        have hin := of_decide_eq_true hin
        have hsh := List.all_eq_true.1 hall f hfm
        obtain ⟨q, hq, hfq⟩ := List.mem_iff_getElem.1 hfm
        have hqs : q < fs.size := by simpa using hq
        have hgq : fs[q]? = some f := by rw [Array.getElem?_eq_getElem hqs]; simpa using hfq
        have h4 := hf q f hgq
        have hxq : q < xs.length := by rw [hlen]; exact hqs
        rw [List.getElem?_eq_getElem hxq] at h4
        have hw : ∀ m ∈ xs[q].1.weights P f.type, m ≤ 140737488351232 := by
          intro m hm
          refine hs m ?_
          simp only [DataW.weights, hu]
          refine Open.weights_each_mem (j := q) (t := f.type) (d := xs[q].1) ?_ ?_ m hm
          · simp [hqs, ← hfq]
          · simp [hxq]
        have hoks := open_sh n hsh h4 hw
        refine oks_at (j - f.offset) k v hoks ?_ ?_
        · rw [List.getElem?_take, if_pos (by omega), List.getElem?_drop, show f.offset + (j - f.offset) = j by omega]
          exact hk
        · rw [List.getElem?_take, if_pos (by omega), List.getElem?_drop, show f.offset + (j - f.offset) = j by omega]
          exact hv
      | _ => cases h
end
end Go.Proofs.YtdfdlajfjcakaaaGreat.Shape
namespace Go.Proofs.YtdfdlajfjcakaaaGreat
open Go Go.RowKit
set_option linter.unusedVariables false
set_option linter.unusedSimpArgs false

def icell (x : Int) : List Value := [.int .i64 x]
/-- A stretch that is read, wherever it lies. -/
def SegG {α : Type} (w : World) (enc : α → List Value) (v : Value) (l : List α) : Prop :=
  ∃ A c, v = .slice A l.length c ∧ l.length ≤ c ∧ c ≤ maxLen ∧ (0 < l.length → ∃ ad, A = some ad ∧ ∀ j u, (l.flatMap enc)[j]? = some u → w.cell? (ad.add j) = some u)
theorem add_block (ad : Addr) (j : Nat) : (ad.add j).block = ad.block := by unfold Addr.add; split <;> rfl
section
variable {α : Type} {w w' : World} {enc : α → List Value} {v : Value} {l : List α}
theorem SegG.kept {S : Nat → Prop} (h : SegG w enc v l) (hk : Kept w w' S) (hS : ∀ k, v.ownBlock = some k → ¬ S k) : SegG w' enc v l := by
  obtain ⟨A, c, rfl, hc, hm, h⟩ := h
  refine ⟨A, c, rfl, hc, hm, fun h0 => ?_⟩
  obtain ⟨ad, rfl, hcell⟩ := h h0
  refine ⟨ad, rfl, fun j u hu => ?_⟩
  have hx := hcell j u hu
  rw [hk.cell (p := ad.add j) (World.block_lt_of_cell? w _ hx) (hS _ (by rw [add_block]; simp [Value.ownBlock]))]
  exact hx
theorem SegG.kept0 {S : Nat → Prop} (h : SegG w enc v l) (hk : Kept w w' S) (hS : 0 < l.length → ∀ k, v.ownBlock = some k → ¬ S k) : SegG w' enc v l := by
  rcases Nat.eq_zero_or_pos l.length with h0 | h0
  · obtain ⟨A, c, rfl, hc, hm, _⟩ := h
    exact ⟨A, c, rfl, hc, hm, fun h => by omega⟩
  · exact h.kept hk (hS h0)
theorem SegG.below (h : SegG w enc v l) (hb : Below w.heap.size w w') : SegG w' enc v l := h.kept (Kept.of_below hb fun _ => False) (fun _ _ h => h)
theorem SegG.shape (h : SegG w enc v l) : ∃ A c, v = .slice A l.length c ∧ l.length ≤ c ∧ c ≤ maxLen := by
  obtain ⟨A, c, rfl, hc, hm, h⟩ := h
  exact ⟨A, c, rfl, hc, hm⟩
theorem SegG.form (h : SegG w enc v l) (hn : 0 < l.length) : ∃ ad c, v = .slice (some ad) l.length c ∧ l.length ≤ c ∧ c ≤ maxLen := by
  obtain ⟨A, c, rfl, hc, hm, h⟩ := h
  obtain ⟨ad, rfl, _⟩ := h hn
  exact ⟨ad, c, rfl, hc, hm⟩
theorem SegG.cell {ad : Addr} {n c sz : Nat} (h : SegG w enc (.slice (some ad) n c) l) (hs : ∀ x, (enc x).length = sz) (i j : Nat) (hi : i < l.length) (hj : j < sz) : w.cell? (adr ad (i * sz) j) = (enc l[i])[j]? := by
  obtain ⟨A, c', hv, _, _, h⟩ := h
  obtain ⟨ad', hA, hcell⟩ := h (by omega)
  simp only [Value.slice.injEq] at hv
  obtain ⟨rfl, _, _⟩ := hv
  injection hA with hA
  subst hA
  have e1 := flat_get hs l i j hi hj
  obtain ⟨u, hu⟩ : ∃ u, (enc l[i])[j]? = some u := ⟨(enc l[i])[j]'(by rw [hs]; exact hj), List.getElem?_eq_getElem _⟩
  rw [hu] at e1 ⊢
  rw [adr_eq]
  exact hcell _ _ e1
end
theorem SegG.of_row {α : Type} {w : World} {enc : α → List Value} {v : Value} {l : List α} {e sz : Nat} (h : Row w e sz enc v l) : SegG w enc v l := by
  rcases h.2 with ⟨rfl, h0⟩ | ⟨g, cap, cur, rfl, hb, hg, hc, hm, rest⟩
  · exact ⟨none, 0, by rw [h0], by omega, by decide, fun h => by omega⟩
  · exact ⟨_, cap, rfl, hc, hm, fun _ => ⟨_, rfl, h.news⟩⟩
/-! What came in: rows of rows. -/
theorem segG_of_rows {α : Type} {w : World} {enc : α → List Value} {sz : Nat} (hs : ∀ x, (enc x).length = sz) (h0 : 0 < sz) {A : Option Addr} {len cap : Nat} {rows : List (List Value)} (xs : List α) (hx : rows = xs.map enc) (hl : rows.length = len) (hlc : len ≤ cap) (hm : cap ≤ maxLen)
    (hc : 0 < len → ∃ a, A = some a ∧ ∀ (j : Nat) (r : List Value), rows[j]? = some r → ∀ (i : Nat) (u : Value), r[i]? = some u → w.cell? (a.add (j * sz + i)) = some u) : SegG w enc (.slice A len cap) xs := by
  have hxl : xs.length = len := by rw [← hl, hx, List.length_map]
  refine ⟨A, cap, by rw [hxl], by omega, hm, fun hp => ?_⟩
  obtain ⟨a, rfl, hcell⟩ := hc (by omega)
  refine ⟨a, rfl, fun t u hu => ?_⟩
  have ht : t < xs.length * sz := by rw [← flat_length hs]; exact (List.getElem?_eq_some_iff.1 hu).1
  have hd : t / sz < xs.length := Nat.div_lt_of_lt_mul (by rwa [Nat.mul_comm])
  have hmod := Nat.mod_lt t h0
  have e := Nat.div_add_mod t sz
  rw [Nat.mul_comm] at e
  have hg := flat_get hs xs (t / sz) (t % sz) hd hmod
  rw [e, hu] at hg
  have := hcell (t / sz) (enc xs[t / sz]) (by rw [hx, List.getElem?_map, List.getElem?_eq_getElem hd]; rfl) (t % sz) u hg.symm
  rwa [e] at this
theorem rows_map {α : Type} {R : List Value → Prop} (enc : α → List Value) (D : α → Prop) (hmk : ∀ r, R r → ∃ x, r = enc x ∧ D x) : ∀ (rows : List (List Value)), (∀ r ∈ rows, R r) → ∃ xs : List α, rows = xs.map enc ∧ ∀ x ∈ xs, D x
  | [], _ => ⟨[], rfl, fun x hx => by cases hx⟩
  | r :: rows, h => by
    obtain ⟨x, hk, hd⟩ := hmk r (h r List.mem_cons_self)
    obtain ⟨xs, hl, hD⟩ := rows_map enc D hmk rows (fun r' hr' => h r' (List.mem_cons_of_mem _ hr'))
    refine ⟨x :: xs, by simp [hk, hl], fun x' hx' => ?_⟩
    rcases List.mem_cons.1 hx' with rfl | hx'
    · exact hd
    · exact hD x' hx'
open Shape in
theorem oks_cons {P : Program} {w : World} {k : SK} {ks : List SK} {vs : List Value} (h : SK.oks P w (k :: ks) vs) : ∃ v vs', vs = v :: vs' ∧ SK.ok P w k v ∧ SK.oks P w ks vs' := by
  cases vs with
  | nil => simp [SK.oks] at h
  | cons v vs => simp only [SK.oks] at h; exact ⟨v, vs, rfl, h.1, h.2⟩
open Shape in
theorem oks_nil {P : Program} {w : World} {vs : List Value} (h : SK.oks P w [] vs) : vs = [] := by
  cases vs with
  | nil => rfl
  | cons v vs => simp [SK.oks] at h
open Shape in
theorem open_int1 {P : Program} {w : World} (r : List Value) (h : SK.oks P w [.int .i64] r) : ∃ x : Int, r = icell x ∧ True := by
  obtain ⟨v1, r1, rfl, h1, h⟩ := oks_cons h
  obtain rfl := oks_nil h
  simp only [SK.ok] at h1
  obtain ⟨t, rfl, _⟩ := h1
  exact ⟨t, rfl, trivial⟩
end Go.Proofs.YtdfdlajfjcakaaaGreat
namespace Go.Proofs.YtdfdlajfjcakaaaGreat
open Go Go.RowKit Go.Shelf
set_option linter.unusedVariables false
set_option linter.unusedSimpArgs false

/-! A table's rows: strings.Compare, and the search for a key. -/
def cmpRen : Go.Shelf.Ren := ⟨fun | 106 => 81 | 213 => 96 | 265 => 103 | n => n, fun | 3 => 3 | 9 => 9 | n => n, fun n => n⟩
set_option maxRecDepth 100000 in
theorem cmpLays : Lays.n106 Tryz.prog cmpRen :=
  { mixed := by kernel_rfl
    f106 := Tryz.func81.trans (congrArg some (by kernel_rfl))
    f213 := Tryz.func96.trans (congrArg some (by kernel_rfl))
    f265 := Tryz.func103.trans (congrArg some (by kernel_rfl))
    t3 := Tryz.underlying3
    a3 := Tryz.isAgg3
    z3 := Tryz.sizeOf3
    v3 := Tryz.zeroValue3
    t9 := Tryz.underlying9
    a9 := Tryz.isAgg9
    z9 := Tryz.sizeOf9
    v9 := Tryz.zeroValue9 }
theorem compare_calls (a b : ByteArray) (w : World) : Calls Tryz.prog 81 #[.string a, .string b] w fun e w' => e = .returned (.int .i64 (Lib.compareBytes a.data.toList b.data.toList)) ∧ w' = w :=
  Any.strings_Compare cmpLays a b w
/-- A row. -/
structure RowT where (key : ByteArray) (stamp : Int) (val : ByteArray)
deriving instance Inhabited for RowT
def RowT.cells (r : RowT) : List Value := [.string r.key, .int .i64 r.stamp, .string r.val]
def RowT.v (r : RowT) : Value := .agg #[.string r.key, .int .i64 r.stamp, .string r.val]
def cmpK (r : RowT) (k : ByteArray) : Int := Lib.compareBytes r.key.data.toList k.data.toList
theorem cmp_calls (r : RowT) (k : ByteArray) (w : World) : Calls Tryz.prog 89 #[.agg #[.string r.key, .int .i64 r.stamp, .string r.val], .string k] w fun e w' => e = .returned (.int .i64 (cmpK r k)) ∧ Below w.heap.size w w' := by
  have hc := compare_calls r.key k (w.alloc (.cells #[.string r.key, .int .i64 r.stamp, .string r.val] 115))
  go_enter Tryz.func89, Tryz.ntmps89
  go_wp2_with (fail)
  refine hc.mono ?_
  rintro e w' ⟨rfl, rfl⟩
  go_wp2
  go_ret
  exact ⟨rfl, (Below.refl _ _).alloc (Nat.le_refl _) _⟩
end Go.Proofs.YtdfdlajfjcakaaaGreat
namespace Go.Proofs.YtdfdlajfjcakaaaGreat
open Go Go.RowKit
set_option linter.unusedVariables false
set_option linter.unusedSimpArgs false
set_option maxRecDepth 100000

/-! slices.BinarySearchFunc at rows. -/
def posK (l : List RowT) (k : ByteArray) : Nat := l.countP fun r => decide (cmpK r k < 0)
def hasK (l : List RowT) (k : ByteArray) : Bool := match l[posK l k]? with | some r => decide (cmpK r k = 0) | none => false
theorem posK_eq {l : List RowT} {k : ByteArray} {i : Nat} (hi : i ≤ l.length) (h1 : ∀ a (ha : a < l.length), a < i → cmpK l[a] k < 0) (h2 : ∀ a (ha : a < l.length), i ≤ a → ¬ cmpK l[a] k < 0) : posK l k = i := by
  unfold posK
  rw [← List.take_append_drop i l, List.countP_append]
  have e1 : (l.take i).countP (fun r => decide (cmpK r k < 0)) = (l.take i).length := by
    refine List.countP_eq_length.2 fun r hr => ?_
    obtain ⟨a, ha, rfl⟩ := List.getElem_of_mem hr
    rw [List.length_take] at ha
    rw [List.getElem_take]
    exact decide_eq_true (h1 a (by omega) (by omega))
  have e2 : (l.drop i).countP (fun r => decide (cmpK r k < 0)) = 0 := by
    refine List.countP_eq_zero.2 fun r hr => ?_
    obtain ⟨a, ha, rfl⟩ := List.getElem_of_mem hr
    rw [List.length_drop] at ha
    rw [List.getElem_drop]
    have := h2 (i + a) (by omega) (by omega)
    simpa using this
  rw [e1, e2, List.length_take]
  omega
theorem rowT_at {w : World} {A : Option Addr} {n c i : Nat} {l : List RowT} (h : SegG w RowT.cells (.slice A n c) l) (hi : i < l.length) : ∃ ad, A = some ad ∧ w.cell? (ad.add (i * 3)) = some (.string l[i].key) ∧ w.cell? ⟨(ad.add (i * 3)).block, (ad.add (i * 3)).off + 1, none⟩ = some (.int .i64 l[i].stamp) ∧ w.cell? ⟨(ad.add (i * 3)).block, (ad.add (i * 3)).off + 2, none⟩ = some (.string l[i].val) := by
  obtain ⟨ad, c', hv', hc', hm'⟩ := h.form (by omega)
  injection hv' with hA _ hcc
  subst hA
  exact ⟨ad, rfl, h.cell (sz := 3) (fun _ => rfl) i 0 hi (by omega), h.cell (sz := 3) (fun _ => rfl) i 1 hi (by omega), h.cell (sz := 3) (fun _ => rfl) i 2 hi (by omega)⟩
set_option maxHeartbeats 4000000 in
theorem search_calls (l : List RowT) (k : ByteArray) (v : Value) (w : World) (h : SegG w RowT.cells v l) (hl : l.length ≤ 1000000) (hm : ∀ a b (ha : a < l.length) (hb : b < l.length), a ≤ b → cmpK l[b] k < 0 → cmpK l[a] k < 0) :
    Calls Tryz.prog 88 #[v, .string k, .func (.func 89) #[] #[]] w fun e w' => e = .returned (.tuple #[.int .i64 (posK l k : Nat), .bool (hasK l k)]) ∧ Below w.heap.size w w' := by
  obtain ⟨A, c, hv, hc, hmx⟩ := h.shape
  subst hv
  have HH := Lib.hid h
  have HM := Lib.hid hm
  obtain ⟨n, HN⟩ : ∃ n, Hid (l.length = n) := ⟨_, Lib.hid rfl⟩
  have hn : n ≤ 1000000 := by rw [← HN.out]; exact hl
  rw [HN.out] at HH ⊢
  clear h hm hl hc hmx
  go_enter Tryz.func88, Tryz.ntmps88
  go_wp2_with (fail)
  go_loopg [9, 10] n (fun gg s9 s10 wr => ∃ (i j : Nat), i ≤ j ∧ j ≤ n ∧ j - i ≤ gg ∧ s9 = .int .i64 i ∧ s10 = .int .i64 j ∧ Hid (Below w.heap.size w wr) ∧ Hid (∀ a (ha : a < l.length), a < i → cmpK l[a] k < 0) ∧ Hid (∀ a (ha : a < l.length), j ≤ a → 0 ≤ cmpK l[a] k))
  case atStart => exact ⟨0, n, by omega, by omega, by omega, rfl, rfl, Lib.hid (Below.refl _ _), Lib.hid (fun a _ h => by omega), Lib.hid (fun a ha h => by have := HN.out; omega)⟩
  case round =>
    obtain ⟨i, j, hij, hj, hgg, rfl, rfl, HB, H1, H2⟩ := hrel
    by_cases hlt : i < j
    · have hz : (i : Int) < (j : Int) := by omega
      have hw1 : IntKind.i64.wrap ((i : Int) + (j : Int)) = (i : Int) + (j : Int) := by rw [IntKind.wrap_i64]; omega
      have hw2 : IntKind.u64.wrap ((i : Int) + (j : Int)) = (i : Int) + (j : Int) := by simp [IntKind.wrap, IntKind.bits, IntKind.signed]; omega
      obtain ⟨m, hm⟩ : ∃ m, (i + j) / 2 = m := ⟨_, rfl⟩
      have hh : ((i : Int) + (j : Int)) / 2 = (m : Int) := by omega
      have hm1 : i ≤ m := by omega
      have hm2 : m < j := by omega
      have hmn : (m : Int) < (n : Int) := by omega
      have hm0 : (0 : Int) ≤ (m : Int) := by omega
      have hil : m < l.length := by have := HN.out; omega
      obtain ⟨ad, rfl, x0, x1, x2⟩ := rowT_at (HH.out.below HB.out) hil
      generalize hr : l[m] = r at x0 x1 x2
      have HR := Lib.hid hr
      have hcall := cmp_calls r k wr
      clear hr hm
      go_wp2_with (fail)
      refine hcall.mono ?_
      rintro e w3 ⟨rfl, hb3⟩
      have HB3 := Lib.hid (HB.out.trans (hb3.mono HB.out.size))
      have HE := Lib.hid (show ∀ (hm : m < l.length), cmpK l[m] k = cmpK r k from fun _ => by rw [HR.out])
      generalize cmpK r k = z at HE
      clear hcall hb3 x0 x1 x2
      by_cases hz0 : z < 0
      · have hw5 : IntKind.i64.wrap ((m : Int) + 1) = ((m + 1 : Nat) : Int) := by rw [IntKind.wrap_i64]; omega
        go_wp2
        go_roundg (j - (m + 1))
        case measure => omega
        case rel => exact ⟨m + 1, j, by omega, hj, Nat.le_refl _, by go_num, rfl, HB3, Lib.hid (fun a ha hlt => HM.out a m ha (by have := HN.out; omega) (by omega) (by rw [HE.out]; exact hz0)), H2⟩
      · go_wp2
        go_roundg (m - i)
        case measure => omega
        case rel => exact ⟨i, m, hm1, by omega, Nat.le_refl _, rfl, rfl, HB3, H1, Lib.hid (fun a ha hle => by
          rcases Int.lt_or_le (cmpK l[a] k) 0 with hlt | hge
          · have h9 := HM.out m a (by have := HN.out; omega) ha hle hlt
            rw [HE.out] at h9
            omega
          · exact hge)⟩
    · obtain rfl : i = j := by omega
      have hz : ¬ ((i : Nat) : Int) < (i : Int) := by omega
      have HP := Lib.hid (posK_eq (k := k) (by have := HN.out; omega : i ≤ l.length) H1.out (fun a ha hle => by have := H2.out a ha hle; omega))
      by_cases hin : i < n
      · have hiz : (i : Int) < (n : Int) := by omega
        have hi0 : (0 : Int) ≤ (i : Int) := by omega
        have hil : i < l.length := by have := HN.out; omega
        obtain ⟨ad, rfl, x0, x1, x2⟩ := rowT_at (HH.out.below HB.out) hil
        have HK := Lib.hid (show hasK l k = decide (cmpK l[i] k = 0) by unfold hasK; rw [HP.out, List.getElem?_eq_getElem hil])
        generalize hr : l[i] = r at x0 x1 x2 HK
        have hcall := cmp_calls r k wr
        clear hr hil
        go_wp2_with (fail)
        refine hcall.mono ?_
        rintro e w3 ⟨rfl, hb3⟩
        have HB3 := Lib.hid (HB.out.trans (hb3.mono HB.out.size))
        obtain ⟨z, HZ⟩ : ∃ z, Hid (cmpK r k = z) := ⟨_, Lib.hid rfl⟩
        rw [HZ.out]
        clear hcall hb3 x0 x1 x2
        go_wp2
        go_ret2
        exact ⟨by rw [HP.out, HK.out, HZ.out]; rfl, HB3.out⟩
      · have hiz : ¬ (i : Int) < (n : Int) := by omega
        have HK := Lib.hid (show hasK l k = false by unfold hasK; rw [HP.out, List.getElem?_eq_none (by have := HN.out; omega)])
        go_wp2
        go_ret2
        exact ⟨by rw [HP.out, HK.out]; rfl, HB.out⟩
end Go.Proofs.YtdfdlajfjcakaaaGreat
namespace Go.Proofs.YtdfdlajfjcakaaaGreat
open Go Go.RowKit
set_option linter.unusedVariables false
set_option linter.unusedSimpArgs false
set_option maxRecDepth 100000

/-! A table: its rows rise by their keys; New, Fork, at. -/
theorem cmp_trans : ∀ a b c : List UInt8, Lib.compareBytes a b < 0 → Lib.compareBytes b c < 0 → Lib.compareBytes a c < 0
  | [], [], _, h, _ => by simp [Lib.compareBytes] at h
  | [], _ :: _, [], _, h => by simp [Lib.compareBytes] at h
  | [], _ :: _, _ :: _, _, _ => by simp [Lib.compareBytes]
  | _ :: _, [], _, h, _ => by simp [Lib.compareBytes] at h
  | _ :: _, _ :: _, [], _, h => by simp [Lib.compareBytes] at h
  | a :: xa, b :: xb, c :: xc, h, k => by
    unfold Lib.compareBytes at h k ⊢
    have ha := a.toNat_lt
    simp only [UInt8.lt_iff_toNat_lt] at h k ⊢
    by_cases h1 : a.toNat < b.toNat
    · by_cases h2 : b.toNat < c.toNat
      · rw [if_pos (by omega)]; decide
      · rw [if_neg h2] at k
        by_cases h3 : c.toNat < b.toNat
        · rw [if_pos h3] at k; omega
        · rw [if_pos (by omega)]; decide
    · rw [if_neg h1] at h
      by_cases h2 : b.toNat < a.toNat
      · rw [if_pos h2] at h; omega
      · rw [if_neg h2] at h
        by_cases h3 : b.toNat < c.toNat
        · rw [if_pos (by omega)]; decide
        · rw [if_neg h3] at k
          by_cases h4 : c.toNat < b.toNat
          · rw [if_pos h4] at k; omega
          · rw [if_neg h4] at k
            rw [if_neg (by omega), if_neg (by omega)]
            exact cmp_trans xa xb xc h k
def KeysRise (l : List RowT) : Prop := l.Pairwise fun a b => cmpK a b.key < 0
theorem KeysRise.mono {l : List RowT} (h : KeysRise l) (k : ByteArray) : ∀ a b (ha : a < l.length) (hb : b < l.length), a ≤ b → cmpK l[b] k < 0 → cmpK l[a] k < 0 := by
  intro a b ha hb hab hk
  rcases Nat.lt_or_eq_of_le hab with hlt | rfl
  · exact cmp_trans _ _ _ (List.pairwise_iff_getElem.1 h a b ha hb hlt) hk
  · exact hk
/-- A table at block g: its rows lie anywhere, in blocks of rows. -/
def TabAt (w : World) (g : Nat) (l : List RowT) : Prop :=
  ∃ v, Blk w g 100 #[v] ∧ SegG w RowT.cells v l ∧ (∀ k, v.ownBlock = some k → ∃ cs, Blk w k 115 cs)
section
variable {w w' : World} {g : Nat} {l : List RowT}
/-- No block of rows is in S: all who write say so. -/
def NoRows (w : World) (S : Nat → Prop) : Prop := ∀ k, S k → ∀ cs, ¬ Blk w k 115 cs
theorem TabAt.kept {S : Nat → Prop} (h : TabAt w g l) (hk : Kept w w' S) (hg : ¬ S g) (hS : NoRows w S) : TabAt w' g l := by
  obtain ⟨v, hb, hs, ht⟩ := h
  have hn : ∀ k, v.ownBlock = some k → ¬ S k := fun k e hs' => by
    obtain ⟨cs, hc⟩ := ht k e
    exact hS k hs' cs hc
  exact ⟨v, hb.kept hk hg, hs.kept hk hn, fun k e => by
    obtain ⟨cs, hc⟩ := ht k e
    exact ⟨cs, hc.kept hk (hn k e)⟩⟩
theorem TabAt.below (h : TabAt w g l) (hb : Below w.heap.size w w') : TabAt w' g l := h.kept (Kept.of_below hb fun _ => False) (fun h => h) (fun _ h => h.elim)
theorem TabAt.lt (h : TabAt w g l) : g < w.heap.size := by obtain ⟨v, hb, _⟩ := h; exact hb.lt
end
theorem tab_new (w : World) : Calls Tryz.prog 17 #[] w fun e w' => e = .returned (.pointer (some ⟨w.heap.size, 0, none⟩)) ∧ w' = w.alloc (.cells #[.slice none 0 0] 100) := by
  go_enter Tryz.func17, Tryz.ntmps17
  go_wp2
  go_ret
  exact ⟨rfl, rfl⟩
theorem TabAt.new (w : World) : TabAt (w.alloc (.cells #[.slice none 0 0] 100)) w.heap.size [] :=
  ⟨_, Blk.new w _ _, ⟨none, 0, rfl, Nat.le_refl _, by decide, fun h => absurd h (Nat.lt_irrefl 0)⟩, fun k e => by simp [Value.ownBlock] at e⟩
theorem tab_at (g : Nat) (l : List RowT) (k : ByteArray) (w : World) (h : TabAt w g l) (hl : l.length ≤ 1000000) (hr : KeysRise l) :
    Calls Tryz.prog 64 #[.pointer (some ⟨g, 0, none⟩), .string k] w fun e w' => e = .returned (.tuple #[.int .i64 (posK l k : Nat), .bool (hasK l k)]) ∧ Below w.heap.size w w' := by
  obtain ⟨v, hb, hs, _⟩ := h
  have c0 := hb.cell 0
  have hc := search_calls l k v w hs hl (hr.mono k)
  obtain ⟨A, c, rfl, _, _⟩ := hs.shape
  clear hs hb
  go_enter Tryz.func64, Tryz.ntmps64
  go_wp2_with (fail)
  refine hc.mono ?_
  rintro e w2 ⟨rfl, hb2⟩
  have HB := Lib.hid hb2
  obtain ⟨p, HP⟩ : ∃ p, Hid (posK l k = p) := ⟨_, Lib.hid rfl⟩
  obtain ⟨q, HQ⟩ : ∃ q, Hid (hasK l k = q) := ⟨_, Lib.hid rfl⟩
  rw [HP.out, HQ.out]
  clear hc hb2
  go_wp2
  go_ret2
  exact ⟨by rw [HP.out, HQ.out]; rfl, HB.out⟩
end Go.Proofs.YtdfdlajfjcakaaaGreat
namespace Go.Proofs.YtdfdlajfjcakaaaGreat
open Go Go.RowKit
set_option linter.unusedVariables false
set_option linter.unusedSimpArgs false
set_option maxRecDepth 100000

/-! append to a clipped slice that is read alone. -/
theorem full_append {P : Program} {α : Type} {enc : α → List Value} {W : World} (t ty e : TypeId) (z : Value) (sz bytes : Nat) (ht : P.underlying t = some (.slice e)) (hinfo : (P.info? e).map (fun i => (i.zero, i.size, i.bytes)) = some (some z, sz, bytes)) (hz : z.cells.size = sz) (hs0 : 0 < sz) (hb0 : 0 < bytes)
    (ad : Addr) (n : Nat) (A2 : Addr) (m c2 : Nat) (l ys : List α) (HB : SegG W enc (.slice (some ad) n n) l) (HY : SegG W enc (.slice (some A2) m c2) ys) (hm : 0 < m) (hlen : ∀ x, (enc x).length = sz) (hl : (l.length + ys.length) * bytes ≤ 140737488355328) :
    ∃ v1 w1, (Builtin.append_ #[t, t] ty #[.slice (some ad) n n, .slice (some A2) m c2]).run P W = .ok v1 w1 ∧ Row w1 e sz enc v1 (l ++ ys) ∧ Below W.heap.size W w1 ∧ ∀ k, v1.ownBlock = some k → W.heap.size ≤ k := by
  obtain ⟨i0, hi, hzz⟩ := Option.map_eq_some_iff.1 hinfo
  simp only [Prod.mk.injEq] at hzz
  obtain ⟨h1, h2, h3⟩ := hzz
  obtain ⟨A', c', hv, hc', hmx, hcl⟩ := HB
  simp only [Value.slice.injEq] at hv
  obtain ⟨rfl, rfl, rfl⟩ := hv
  obtain ⟨A'', c'', hv, hc'', hmx2, hcy⟩ := HY
  simp only [Value.slice.injEq] at hv
  obtain ⟨rfl, rfl, rfl⟩ := hv
  obtain ⟨a2, ha2, hcy⟩ := hcy hm
  injection ha2 with ha2
  subst ha2
  have hle : l.length + ys.length ≤ 140737488355328 := Nat.le_trans (Nat.le_mul_of_pos_right _ hb0) hl
  obtain ⟨v1, w1, hr, hown, hg⟩ := run_append_arg_grows (P := P) W t ty e i0 z sz bytes ht hi h1 h2 h3 hz hs0 ad l.length l.length (l.flatMap enc) (flat_length hlen l) (fun j u hu => by
    rcases Nat.eq_zero_or_pos l.length with h0 | h0
    · rw [List.eq_nil_of_length_eq_zero h0] at hu
      simp at hu
    · obtain ⟨a1, ha1, h⟩ := hcl h0
      injection ha1 with ha1
      subst ha1
      exact h j u hu) A2 ys.length c2 (ys.flatMap enc) (flat_length hlen ys) hcy (by omega) (by simp only [maxLen]; omega) hl
  refine ⟨v1, w1, hr, ?_, (Below.refl W.heap.size W).grown hg (Nat.le_refl _) (fun k e => by cases e), fun k hk => (World.ownsRow.lt hown k hk).1⟩
  refine ⟨by rw [List.flatMap_append, hown.1, List.length_append], ?_⟩
  rw [List.length_append, List.flatMap_append]
  rcases hown.2 with h | ⟨g, cap, cur, q1, q2, q3⟩
  · exact .inl h
  · exact .inr ⟨g, cap, cur, q1, Nat.zero_le _, q3⟩
theorem append_zero {P : Program} {W : World} (t ty e : TypeId) (i0 : TypeInfo) (ht : P.underlying t = some (.slice e)) (hi : P.info? e = some i0) (A : Option Addr) (n c : Nat) (A2 : Option Addr) (c2 : Nat) (hc : n ≤ c) :
    (Builtin.append_ #[t, t] ty #[.slice A n c, .slice A2 0 c2]).run P W = .ok (.slice A n c) W := by
  cases A2 <;> cases A <;> simp [Builtin.append_, run_underlying ht, sizeOf, typeInfo, hi, Builtin.lenOf, Builtin.firstCells, hc, loadCells, loadCellsFrom, storeCells, Result.andThen]
/-- append to a clipped stretch: nothing, or a new row. -/
theorem clip_append {P : Program} {α : Type} {enc : α → List Value} {W : World} (t ty e : TypeId) (z : Value) (sz bytes : Nat) (ht : P.underlying t = some (.slice e)) (hinfo : (P.info? e).map (fun i => (i.zero, i.size, i.bytes)) = some (some z, sz, bytes)) (hz : z.cells.size = sz) (hs0 : 0 < sz) (hb0 : 0 < bytes)
    (A : Option Addr) (n : Nat) (v2 : Value) (l ys : List α) (HB : SegG W enc (.slice A n n) l) (HY : SegG W enc v2 ys) (hlen : ∀ x, (enc x).length = sz) (h1 : ∀ x, ∀ u ∈ enc x, u.oneCell' = true) (hl : (l.length + ys.length) * bytes ≤ 140737488355328) :
    ∃ v1 w1, (Builtin.append_ #[t, t] ty #[.slice A n n, v2]).run P W = .ok v1 w1 ∧ Below W.heap.size W w1 ∧ ((ys = [] ∧ v1 = .slice A n n ∧ w1 = W) ∨ (Row w1 e sz enc v1 (l ++ ys) ∧ ∀ k, v1.ownBlock = some k → W.heap.size ≤ k)) := by
  obtain ⟨i0, hi, _⟩ := Option.map_eq_some_iff.1 hinfo
  obtain ⟨A2, c2, rfl, hc2, hm2⟩ := HY.shape
  rcases Nat.eq_zero_or_pos ys.length with h0 | h0
  · have hy : ys = [] := List.eq_nil_of_length_eq_zero h0
    refine ⟨_, _, ?_, Below.refl _ _, .inl ⟨hy, rfl, rfl⟩⟩
    rw [h0]
    exact append_zero t ty e i0 ht hi A n n A2 c2 (Nat.le_refl _)
  · obtain ⟨a2, c', hv, _, _⟩ := HY.form h0
    simp only [Value.slice.injEq] at hv
    obtain ⟨rfl, _, rfl⟩ := hv
    cases A with
    | some ad =>
      obtain ⟨v1, w1, hr, hR, hb, hf⟩ := full_append t ty e z sz bytes ht hinfo hz hs0 hb0 ad n a2 ys.length c2 l ys HB HY h0 hlen hl
      exact ⟨v1, w1, hr, hb, .inr ⟨hR, hf⟩⟩
    | none =>
      obtain ⟨A', c', hv, hc', _, hcl⟩ := HB
      simp only [Value.slice.injEq] at hv
      obtain ⟨rfl, rfl, rfl⟩ := hv
      have hl0 : l = [] := by
        rcases Nat.eq_zero_or_pos l.length with h | h
        · exact List.eq_nil_of_length_eq_zero h
        · obtain ⟨ad, e, _⟩ := hcl h
          cases e
      subst hl0
      obtain ⟨_, _, hv, _, _, hcy⟩ := HY
      obtain ⟨a3, ha, hcy⟩ := hcy h0
      simp only [Value.slice.injEq] at hv
      obtain ⟨rfl, _, rfl⟩ := hv
      injection ha with ha
      subst ha
      obtain ⟨v1, w1, hr, hR, hg, hO⟩ := Row.append_run (P := P) (W := W) t ty e z sz bytes ht hinfo hz hs0 hb0 (.slice none 0 0) [] ys (Row.nil_ ..) a2 ys.length c2 rfl hlen hcy h1 hl
      refine ⟨v1, w1, hr, (Below.refl W.heap.size W).grown hg (Nat.le_refl _) (fun k e => by simp [Value.ownBlock] at e), .inr ⟨hR, fun k hk => ?_⟩⟩
      rcases hO with h | h
      · rw [h] at hk
        simp [Value.ownBlock] at hk
      · rw [h] at hk
        injection hk with hk
        omega
end Go.Proofs.YtdfdlajfjcakaaaGreat
namespace Go.Proofs.YtdfdlajfjcakaaaGreat
open Go Go.RowKit
set_option linter.unusedVariables false
set_option linter.unusedSimpArgs false

/-! A table, plain: what operations do, what stays. -/
theorem cmp_flip : ∀ a b : List UInt8, Lib.compareBytes a b < 0 ↔ 0 < Lib.compareBytes b a
  | [], [] => by simp [Lib.compareBytes]
  | [], _ :: _ => by simp [Lib.compareBytes]
  | _ :: _, [] => by simp [Lib.compareBytes]
  | a :: xa, b :: xb => by
    unfold Lib.compareBytes
    simp only [UInt8.lt_iff_toNat_lt]
    by_cases h1 : a.toNat < b.toNat
    · rw [if_pos h1, if_neg (by omega), if_pos h1]; decide
    · by_cases h2 : b.toNat < a.toNat
      · rw [if_neg h1, if_pos h2, if_pos h2]; decide
      · rw [if_neg h1, if_neg h2, if_neg h2, if_neg h1]
        exact cmp_flip xa xb
theorem cmp_zero : ∀ a b : List UInt8, Lib.compareBytes a b = 0 → a = b
  | [], [] => fun _ => rfl
  | [], _ :: _ => by simp [Lib.compareBytes]
  | _ :: _, [] => by simp [Lib.compareBytes]
  | a :: xa, b :: xb => by
    unfold Lib.compareBytes
    simp only [UInt8.lt_iff_toNat_lt]
    by_cases h1 : a.toNat < b.toNat
    · rw [if_pos h1]; intro h; exact absurd h (by decide)
    · by_cases h2 : b.toNat < a.toNat
      · rw [if_neg h1, if_pos h2]; intro h; exact absurd h (by decide)
      · rw [if_neg h1, if_neg h2]
        intro h
        rw [cmp_zero xa xb h, UInt8.toNat_inj.1 (show a.toNat = b.toNat by omega)]
theorem cmp_self : ∀ a : List UInt8, Lib.compareBytes a a = 0
  | [] => rfl
  | a :: xa => by
    unfold Lib.compareBytes
    rw [if_neg (UInt8.lt_irrefl a), if_neg (UInt8.lt_irrefl a)]
    exact cmp_self xa
theorem key_eq {r : RowT} {k : ByteArray} (h : cmpK r k = 0) : r.key = k := by
  have := cmp_zero _ _ h
  obtain ⟨⟨a⟩⟩ := k
  obtain ⟨⟨⟨b⟩⟩, _, _⟩ := r
  simpa using this
/-- An operation. -/
structure OpT where (kind : Int) (key val : ByteArray) (stamp test most : Int)
deriving instance Inhabited for OpT
def OpT.cells (x : OpT) : List Value := [.int .i64 x.kind, .string x.key, .string x.val, .int .i64 x.stamp, .int .i64 x.test, .int .i64 x.most]
def OpT.v (x : OpT) : Value := .agg #[.int .i64 x.kind, .string x.key, .string x.val, .int .i64 x.stamp, .int .i64 x.test, .int .i64 x.most]
/-- A result. -/
structure ResT where (code stamp : Int) (val : ByteArray) (rows : List RowT)
def refT (c s : Int) : ResT := ⟨c, s, ⟨#[]⟩, []⟩
def spl (l : List RowT) (i j : Nat) (m : List RowT) : List RowT := l.take i ++ m ++ l.drop j
def rowT (l : List RowT) (i : Nat) : RowT := (l[i]?).getD default
def writeT (l : List RowT) (x : OpT) : ResT × List RowT :=
  if hasK l x.key = true then
    if x.kind = 1 then (refT 90 (rowT l (posK l x.key)).stamp, l)
    else if x.test ≠ 0 ∧ x.test ≠ (rowT l (posK l x.key)).stamp ∨ x.stamp ≤ (rowT l (posK l x.key)).stamp then (refT 92 (rowT l (posK l x.key)).stamp, l)
    else if 4096 < x.val.size then (refT 93 0, l)
    else (refT 0 x.stamp, spl l (posK l x.key) (posK l x.key + 1) [⟨x.key, x.stamp, x.val⟩])
  else if x.kind = 2 ∨ x.test ≠ 0 then (refT 91 0, l)
  else if 4096 < x.val.size then (refT 93 0, l)
  else if 4096 ≤ l.length then (refT 22 0, l)
  else (refT 0 x.stamp, spl l (posK l x.key) (posK l x.key) [⟨x.key, x.stamp, x.val⟩])
def oneT (l : List RowT) (x : OpT) : ResT × List RowT :=
  if x.kind = 6 then (⟨0, 0, ⟨#[]⟩, (l.drop (posK l x.key)).take x.most.toNat⟩, l)
  else if x.kind = 4 ∨ x.kind = 5 then
    if hasK l x.key = true then
      if x.test ≠ 0 ∧ x.test ≠ (rowT l (posK l x.key)).stamp then (refT 92 (rowT l (posK l x.key)).stamp, l)
      else if x.kind = 5 then (⟨0, (rowT l (posK l x.key)).stamp, (rowT l (posK l x.key)).val, []⟩, l)
      else (refT 0 (rowT l (posK l x.key)).stamp, spl l (posK l x.key) (posK l x.key + 1) [])
    else (refT 91 0, l)
  else writeT l x
/-- Operations, one behind the other: the results (or where it stopped), the rows. -/
def runT (many : Bool) : List OpT → Int → List ResT → List RowT → (List ResT × Int × Int) × Option (List RowT)
  | [], _, out, l => ((out, 0, 0), some l)
  | x :: xs, i, out, l => if (oneT l x).1.code ≠ 0 ∧ many = true then (([], i, (oneT l x).1.code), none) else runT many xs (i + 1) (out ++ [(oneT l x).1]) (oneT l x).2
def doT (l : List RowT) (xs : List OpT) : (List ResT × Int × Int) × List RowT :=
  ((runT (decide (1 < xs.length)) xs 0 [] l).1, ((runT (decide (1 < xs.length)) xs 0 [] l).2).getD l)

/-- A row that may be. -/
def RowOk (r : RowT) : Prop := 1 ≤ r.key.size ∧ r.key.size ≤ 64 ∧ 1 ≤ r.stamp ∧ r.stamp ≤ 1099511627776 ∧ r.val.size ≤ 4096
/-- Rows of a table. -/
structure RowsOk (l : List RowT) : Prop where
  rise : KeysRise l
  few : l.length ≤ 4096
  ok : ∀ r ∈ l, RowOk r
/-- What an operation has that may be. -/
def OpOk (x : OpT) : Prop := (1 ≤ x.kind ∧ x.kind ≤ 6) ∧ x.key.size ≤ 64 ∧ x.val.size ≤ 8192 ∧ (x.kind ≠ 6 → 1 ≤ x.key.size) ∧ (x.kind ≤ 3 → 1 ≤ x.stamp ∧ x.stamp ≤ 1099511627776) ∧ (x.kind = 6 → 1 ≤ x.most ∧ x.most ≤ 100) ∧ 0 ≤ x.test ∧ x.test ≤ 1099511627776
theorem posK_le (l : List RowT) (k : ByteArray) : posK l k ≤ l.length := List.countP_le_length
theorem pos_lt {l : List RowT} (h : KeysRise l) (k : ByteArray) (a : Nat) (ha : a < l.length) : a < posK l k → cmpK l[a] k < 0 := by
  intro hlt
  rcases Int.lt_or_le (cmpK l[a] k) 0 with h0 | h0
  · exact h0
  · exfalso
    have : posK l k ≤ a := by
      unfold posK
      rw [← List.take_append_drop a l, List.countP_append]
      have e2 : (l.drop a).countP (fun r => decide (cmpK r k < 0)) = 0 := by
        refine List.countP_eq_zero.2 fun r hr => ?_
        obtain ⟨b, hb, rfl⟩ := List.getElem_of_mem hr
        rw [List.length_drop] at hb
        rw [List.getElem_drop]
        intro hc
        have := h.mono k a (a + b) ha (by omega) (by omega) (of_decide_eq_true hc)
        omega
      have e1 : (l.take a).countP (fun r => decide (cmpK r k < 0)) ≤ (l.take a).length := List.countP_le_length
      rw [List.length_take] at e1
      omega
    omega
theorem pos_ge {l : List RowT} (h : KeysRise l) (k : ByteArray) (a : Nat) (ha : a < l.length) : posK l k ≤ a → 0 ≤ cmpK l[a] k := by
  intro hle
  rcases Int.lt_or_le (cmpK l[a] k) 0 with h0 | h0
  · exfalso
    have : a + 1 ≤ posK l k := by
      unfold posK
      rw [← List.take_append_drop (a + 1) l, List.countP_append]
      have e1 : (l.take (a + 1)).countP (fun r => decide (cmpK r k < 0)) = (l.take (a + 1)).length := by
        refine List.countP_eq_length.2 fun r hr => ?_
        obtain ⟨b, hb, rfl⟩ := List.getElem_of_mem hr
        rw [List.length_take] at hb
        rw [List.getElem_take]
        exact decide_eq_true (h.mono k b a (by omega) ha (by omega) h0)
      rw [e1, List.length_take]
      omega
    omega
  · exact h0
theorem has_pos {l : List RowT} {k : ByteArray} (h : hasK l k = true) : ∃ hp : posK l k < l.length, l[posK l k].key = k := by
  unfold hasK at h
  split at h
  · rename_i r hr
    obtain ⟨hp, e⟩ := List.getElem?_eq_some_iff.1 hr
    exact ⟨hp, by rw [e]; exact key_eq (of_decide_eq_true h)⟩
  · cases h
theorem hasnt {l : List RowT} (hl : KeysRise l) {k : ByteArray} (h : hasK l k = false) (a : Nat) (ha : a < l.length) (hle : posK l k ≤ a) : 0 < cmpK l[a] k := by
  have h0 := pos_ge hl k a ha hle
  rcases Int.lt_or_eq_of_le h0 with h1 | h1
  · exact h1
  · exfalso
    have hp : posK l k < l.length := by omega
    have hk := key_eq h1.symm
    have hne : cmpK l[posK l k] k ≠ 0 := by
      unfold hasK at h
      rw [List.getElem?_eq_getElem hp] at h
      exact of_decide_eq_false h
    have hpp := pos_ge hl k (posK l k) hp (Nat.le_refl _)
    rcases Nat.lt_or_eq_of_le hle with h2 | h2
    · have h3 := List.pairwise_iff_getElem.1 hl (posK l k) a hp ha h2
      rw [hk] at h3
      omega
    · exact hne (by simpa only [h2] using h1.symm)
theorem spl_rise {l : List RowT} (hl : KeysRise l) (i j : Nat) (hij : i ≤ j) (m : List RowT) (hm : KeysRise m) (h1 : ∀ a (ha : a < l.length), a < i → ∀ r ∈ m, cmpK l[a] r.key < 0) (h2 : ∀ a (ha : a < l.length), j ≤ a → ∀ r ∈ m, cmpK r l[a].key < 0) : KeysRise (spl l i j m) := by
  have hd : (l.take i ++ l.drop j).Sublist l := by
    have h : (l.take i ++ l.drop j).Sublist (l.take i ++ l.drop i) := by
      refine List.Sublist.append (List.Sublist.refl _) ?_
      rw [show j = i + (j - i) by omega, ← List.drop_drop]
      exact List.drop_sublist _ _
    rwa [List.take_append_drop] at h
  have h3 : KeysRise (l.take i ++ l.drop j) := List.Pairwise.sublist hd hl
  obtain ⟨p1, p2, p3⟩ := List.pairwise_append.1 h3
  unfold KeysRise spl
  rw [List.append_assoc]
  refine List.pairwise_append.2 ⟨p1, List.pairwise_append.2 ⟨hm, p2, ?_⟩, ?_⟩
  · intro r hr b hb
    obtain ⟨a, ha, rfl⟩ := List.getElem_of_mem hb
    rw [List.length_drop] at ha
    rw [List.getElem_drop]
    exact h2 (j + a) (by omega) (by omega) r hr
  · intro b hb r hr
    rcases List.mem_append.1 hr with hr | hr
    · obtain ⟨a, ha, rfl⟩ := List.getElem_of_mem hb
      rw [List.length_take] at ha
      rw [List.getElem_take]
      exact h1 a (by omega) (by omega) r hr
    · exact p3 b hb r hr
theorem spl_mem {l : List RowT} {i j : Nat} {m : List RowT} {r : RowT} (h : r ∈ spl l i j m) : r ∈ l ∨ r ∈ m := by
  unfold spl at h
  rcases List.mem_append.1 h with h | h
  · rcases List.mem_append.1 h with h | h
    · exact .inl (List.mem_of_mem_take h)
    · exact .inr h
  · exact .inl (List.mem_of_mem_drop h)
theorem spl_len (l : List RowT) (i j : Nat) (m : List RowT) (hij : i ≤ j) (hj : j ≤ l.length) : (spl l i j m).length = l.length + m.length - (j - i) := by
  unfold spl
  simp only [List.length_append, List.length_take, List.length_drop]
  omega
theorem cmpK_lt_flip {r s : RowT} (h : 0 < cmpK s r.key) : cmpK r s.key < 0 := (cmp_flip _ _).2 h
theorem put_ok {l : List RowT} (h : RowsOk l) {x : OpT} (hx : OpOk x) (hv : x.val.size ≤ 4096) (hk : x.kind ≤ 3) (hn : hasK l x.key = true ∨ l.length < 4096) :
    RowsOk (spl l (posK l x.key) (posK l x.key + (if hasK l x.key = true then 1 else 0)) [⟨x.key, x.stamp, x.val⟩]) := by
  obtain ⟨⟨_, _⟩, q2, _, q3, q4, _⟩ := hx
  have ro : RowOk ⟨x.key, x.stamp, x.val⟩ := ⟨q3 (by omega), q2, (q4 hk).1, (q4 hk).2, hv⟩
  have hp := posK_le l x.key
  have hj : posK l x.key + (if hasK l x.key = true then 1 else 0) ≤ l.length := by
    by_cases hh : hasK l x.key = true
    · obtain ⟨h1, _⟩ := has_pos hh
      rw [if_pos hh]; omega
    · rw [if_neg hh]; omega
  refine ⟨spl_rise h.rise _ _ (by omega) _ (List.pairwise_singleton _ _) (fun a ha hlt r hr => ?_) (fun a ha hle r hr => ?_), ?_, fun r hr => ?_⟩
  · obtain rfl := List.mem_singleton.1 hr
    exact pos_lt h.rise x.key a ha hlt
  · obtain rfl := List.mem_singleton.1 hr
    refine cmpK_lt_flip ?_
    show 0 < cmpK l[a] x.key
    by_cases hh : hasK l x.key = true
    · rw [if_pos hh] at hle
      obtain ⟨h1, h2⟩ := has_pos hh
      have := List.pairwise_iff_getElem.1 h.rise (posK l x.key) a h1 ha (by omega)
      have h4 := (cmp_flip _ _).1 this
      rw [h2] at h4
      exact h4
    · rw [if_neg hh] at hle
      exact hasnt h.rise (by simpa using hh) a ha (by omega)
  · rw [spl_len _ _ _ _ (by omega) hj]
    have := h.few
    by_cases hh : hasK l x.key = true
    · rw [if_pos hh]; obtain ⟨h1, _⟩ := has_pos hh; simp only [List.length_singleton]; omega
    · rw [if_neg hh]
      rcases hn with hn | hn
      · exact absurd hn hh
      · simp only [List.length_singleton]; omega
  · rcases spl_mem hr with hr | hr
    · exact h.ok r hr
    · obtain rfl := List.mem_singleton.1 hr
      exact ro
theorem cut_ok {l : List RowT} (h : RowsOk l) (i j : Nat) (hij : i ≤ j) : RowsOk (spl l i j []) := by
  refine ⟨spl_rise h.rise i j hij [] List.Pairwise.nil (fun _ _ _ r hr => by cases hr) (fun _ _ _ r hr => by cases hr), ?_, fun r hr => ?_⟩
  · have := h.few
    unfold spl
    simp only [List.length_append, List.length_take, List.length_drop, List.length_nil]
    omega
  · rcases spl_mem hr with hr | hr
    · exact h.ok r hr
    · cases hr
theorem writeT_ok {l : List RowT} (h : RowsOk l) {x : OpT} (hx : OpOk x) (hk : x.kind ≤ 3) : RowsOk (writeT l x).2 := by
  unfold writeT
  have hput := fun hv hn => put_ok h hx hv hk hn
  by_cases hh : hasK l x.key = true
  · rw [if_pos hh]
    rw [if_pos hh] at hput
    split
    · exact h
    split
    · exact h
    split
    · exact h
    · exact hput (by omega) (.inl hh)
  · rw [if_neg hh]
    rw [if_neg hh] at hput
    split
    · exact h
    split
    · exact h
    split
    · exact h
    · exact hput (by omega) (.inr (by omega))
theorem oneT_ok {l : List RowT} (h : RowsOk l) {x : OpT} (hx : OpOk x) : RowsOk (oneT l x).2 := by
  unfold oneT
  split
  · exact h
  rename_i h6
  split
  · split
    · split
      · exact h
      split
      · exact h
      · exact cut_ok h _ _ (by omega)
    · exact h
  · rename_i h45
    have := hx.1
    exact writeT_ok h hx (by omega)
theorem runT_ok (many : Bool) : ∀ (xs : List OpT) (i : Int) (out : List ResT) (l : List RowT), RowsOk l → (∀ x ∈ xs, OpOk x) → ∀ l', (runT many xs i out l).2 = some l' → RowsOk l'
  | [], _, _, l, h, _, l', e => by injection e with e; exact e ▸ h
  | x :: xs, i, out, l, h, hx, l', e => by
    unfold runT at e
    split at e
    · cases e
    · exact runT_ok many xs _ _ _ (oneT_ok h (hx x List.mem_cons_self)) (fun y hy => hx y (List.mem_cons_of_mem _ hy)) l' e
theorem doT_ok {l : List RowT} (h : RowsOk l) {xs : List OpT} (hx : ∀ x ∈ xs, OpOk x) : RowsOk (doT l xs).2 := by
  unfold doT
  cases e : (runT (decide (1 < xs.length)) xs 0 [] l).2 with
  | none => simpa [e] using h
  | some l' => simpa [e] using runT_ok _ xs 0 [] l h hx l' e
/-- What reads, changes nothing. -/
theorem oneT_reads {l : List RowT} {x : OpT} (hx : OpOk x) (h : ¬ x.kind ≤ 4) : (oneT l x).2 = l := by
  unfold oneT
  have := hx.1
  split
  · rfl
  · rw [if_pos (by omega)]
    split
    · split
      · rfl
      · rw [if_pos (by omega)]
    · rfl
theorem runT_reads (many : Bool) : ∀ (xs : List OpT) (i : Int) (out : List ResT) (l : List RowT), (∀ x ∈ xs, OpOk x ∧ ¬ x.kind ≤ 4) → ∀ l', (runT many xs i out l).2 = some l' → l' = l
  | [], _, _, l, _, l', e => by injection e with e; exact e.symm
  | x :: xs, i, out, l, hx, l', e => by
    unfold runT at e
    split at e
    · cases e
    · have h1 := hx x List.mem_cons_self
      rw [oneT_reads h1.1 h1.2] at e
      exact runT_reads many xs _ _ _ (fun y hy => hx y (List.mem_cons_of_mem _ hy)) l' e
theorem doT_reads {l : List RowT} {xs : List OpT} (hx : ∀ x ∈ xs, OpOk x ∧ ¬ x.kind ≤ 4) : (doT l xs).2 = l := by
  unfold doT
  cases e : (runT (decide (1 < xs.length)) xs 0 [] l).2 with
  | none => rfl
  | some l' => simpa using runT_reads _ xs 0 [] l hx l' e
theorem RowsOk.nil : RowsOk [] := ⟨List.Pairwise.nil, by decide, fun r hr => by cases hr⟩
end Go.Proofs.YtdfdlajfjcakaaaGreat
namespace Go.Proofs.YtdfdlajfjcakaaaGreat
open Go Go.RowKit
set_option linter.unusedVariables false
set_option linter.unusedSimpArgs false

/-! Beginnings and ends of rows, whose append that is. -/
theorem own_ge {v1 v : Value} {H b n : Nat} (h : v1.ownBlock = v.ownBlock ∨ v1.ownBlock = some H) (hb : v.ownBlock = some b ∧ n ≤ b) (hH : n ≤ H) : ∀ k, v1.ownBlock = some k → n ≤ k := by
  intro k e
  rcases h with h | h
  · rw [h, hb.1] at e; injection e with e; omega
  · rw [h] at e; injection e with e; omega
theorem own_ge2 {v1 v : Value} {H n : Nat} (h : v1.ownBlock = v.ownBlock ∨ v1.ownBlock = some H) (hb : ∀ k, v.ownBlock = some k → n ≤ k) (hH : n ≤ H) : ∀ k, v1.ownBlock = some k → n ≤ k := by
  intro k e
  rcases h with h | h
  · exact hb k (h ▸ e)
  · rw [h] at e; injection e with e; omega
theorem Row.cap {α : Type} {w : World} {e sz n c : Nat} {A : Option Addr} {enc : α → List Value} {l : List α} (h : Row w e sz enc (.slice A n c) l) : l.length = n ∧ n ≤ c ∧ c ≤ 9223372036854775807 := by
  rcases h.2 with ⟨hv, h0⟩ | ⟨g, cap, cur, hv, _, hg, hc, hm, _⟩
  · simp only [Value.slice.injEq] at hv
    obtain ⟨_, rfl, rfl⟩ := hv
    exact ⟨h0, Nat.le_refl _, by decide⟩
  · simp only [Value.slice.injEq] at hv
    obtain ⟨_, rfl, rfl⟩ := hv
    exact ⟨rfl, hc, hm⟩
theorem Row.prefix_ {α : Type} {w : World} {e sz n c : Nat} {A : Option Addr} {enc : α → List Value} {l : List α} (h : Row w e sz enc (.slice A n c) l) (i : Nat) (hi : i ≤ l.length) (hs : ∀ x, (enc x).length = sz) : Row w e sz enc (.slice A i c) (l.take i) := by
  rcases h.2 with ⟨hv, h0⟩ | ⟨g, cap, cur, hv, _, hg, _⟩
  · simp only [Value.slice.injEq] at hv
    obtain ⟨rfl, _, rfl⟩ := hv
    obtain rfl : i = 0 := by omega
    rw [List.take_zero]
    exact Row.nil_ ..
  · simp only [Value.slice.injEq] at hv
    obtain ⟨rfl, rfl, rfl⟩ := hv
    obtain ⟨_, cur, hg, hc, hm, hz, ht⟩ := h.block
    refine Row.of_block hg (by rw [List.length_take]; omega) (by omega) hm hz hs ?_
    have e : (l.flatMap enc).take (i * sz) = (l.take i).flatMap enc := by
      have e1 : l.flatMap enc = (l.take i).flatMap enc ++ (l.drop i).flatMap enc := by rw [← List.flatMap_append, List.take_append_drop]
      rw [e1, List.take_left' (by rw [flat_length hs, List.length_take, Nat.min_eq_left hi])]
    rw [← e, ← ht, List.take_take, Nat.min_eq_left (Nat.mul_le_mul_right _ hi)]
/-- An end of a row, as Go cuts it. -/
def cutA (A : Option Addr) (c i sz : Nat) : Option Addr := if c = i then A else A.map (·.add (i * sz))
theorem Row.suffix {α : Type} {w : World} {e sz n c : Nat} {A : Option Addr} {enc : α → List Value} {l : List α} (h : Row w e sz enc (.slice A n c) l) (i : Nat) (hi : i ≤ l.length) (hs : ∀ x, (enc x).length = sz) : SegG w enc (.slice (cutA A c i sz) (n - i) (c - i)) (l.drop i) := by
  obtain ⟨hn, hc, hm⟩ := h.cap
  refine ⟨_, _, by rw [List.length_drop, hn], by rw [List.length_drop]; omega, by simp only [maxLen]; omega, fun h0 => ?_⟩
  have hl0 : 0 < l.length := by rw [List.length_drop] at h0; omega
  obtain ⟨g, c', hv, hgl, hcl⟩ := h.form hl0
  injection hv with hA hnn hcc
  subst hA hcc
  have hci : ¬ c = i := by rw [List.length_drop] at h0; omega
  refine ⟨(⟨g, 0, none⟩ : Addr).add (i * sz), by unfold cutA; rw [if_neg hci]; rfl, fun t u hu => ?_⟩
  have ht : t < (l.length - i) * sz := by rw [← List.length_drop, ← flat_length hs]; exact (List.getElem?_eq_some_iff.1 hu).1
  have hsz : 0 < sz := by rcases Nat.eq_zero_or_pos sz with h | h; (· subst h; simp at ht); exact h
  have hd : t / sz < l.length - i := Nat.div_lt_of_lt_mul (by rwa [Nat.mul_comm])
  have hmod := Nat.mod_lt t hsz
  have e0 := Nat.div_add_mod t sz
  rw [Nat.mul_comm] at e0
  have e1 := flat_get hs (l.drop i) (t / sz) (t % sz) (by rw [List.length_drop]; exact hd) hmod
  rw [e0, hu, List.getElem_drop] at e1
  have e2 := h.cell hs (i + t / sz) (t % sz) (by omega) hmod
  rw [← e1, Nat.add_mul, Nat.add_assoc, e0] at e2
  rw [addr0]
  unfold Addr.add
  split
  · rename_i h; subst h; simpa using e2
  · exact e2
theorem SegG.alloc {α : Type} {W : World} {enc : α → List Value} {v : Value} {l : List α} (h : SegG W enc v l) (o : Obj) : SegG (W.alloc o) enc v l := h.below ((Below.refl _ W).alloc (Nat.le_refl _) o)
/-- append of a stretch that is read. -/
theorem SegG.append_list {P : Program} {α : Type} {enc : α → List Value} {ops : Array Oper} {rest : List Oper} {o : Oper} {a : Act} {Q : Exit → Act → World → Prop} {W : World} (hgd : o.guard = none) (s x : Operand) (t e : TypeId) (z : Value) (sz bytes : Nat)
    (ho : o.op = .call { callee := .builtin .append, args := #[s, x], argTypes := #[t, t] })
    (ht : P.underlying t = some (.slice e)) (hinfo : (P.info? e).map (fun i => (i.zero, i.size, i.bytes)) = some (some z, sz, bytes)) (hz : z.cells.size = sz) (hs0 : 0 < sz) (hb0 : 0 < bytes)
    (v : Value) (A : Option Addr) (n c : Nat) (l ys : List α) (hs : a.eval s = v) (hx : a.eval x = .slice A n c) (HR : Row W e sz enc v l) (HY : SegG W enc (.slice A n c) ys) (hn : ys.length = n) (hAc : A = none → c = 0) (hlen : ∀ x, (enc x).length = sz)
    (h1 : ∀ x, ∀ u ∈ enc x, u.oneCell' = true) (hl : (l.length + n) * bytes ≤ 140737488355328)
    (h : ∀ v1 w1, Row w1 e sz enc v1 (l ++ ys) → W.grownBy w1 v.ownBlock → (v1.ownBlock = v.ownBlock ∨ v1.ownBlock = some W.heap.size) → wpList P ops Q rest (a.put o.dst v1) w1) :
    wpList P ops Q (o :: rest) a W := by
  cases A with
  | none =>
    obtain rfl := hAc rfl
    obtain rfl : ys = [] := by
      obtain ⟨A', c', hv, _, _, hc⟩ := HY
      rcases Nat.eq_zero_or_pos ys.length with h0 | h0
      · exact List.eq_nil_of_length_eq_zero h0
      · obtain ⟨ad, rfl, _⟩ := hc h0
        simp at hv
    obtain rfl : n = 0 := hn.symm
    exact Row.appendRow_list hgd s x t e z sz bytes ho ht hinfo hz hs0 hb0 v (.slice none 0 0) l [] hs hx HR (Row.nil_ ..) hlen h1 (by simpa using hl) h
  | some ad =>
    refine Row.append_list hgd s x t e z sz bytes ho ht hinfo hz hs0 hb0 v l ys hs ad n c hx HR hn hlen ?_ h1 hl h
    obtain ⟨A', c', hv, _, _, hc⟩ := HY
    rcases Nat.eq_zero_or_pos ys.length with h0 | h0
    · obtain rfl : ys = [] := List.eq_nil_of_length_eq_zero h0
      intro j u hu
      simp at hu
    · obtain ⟨ad', rfl, hc2⟩ := hc h0
      simp only [Value.slice.injEq, Option.some.injEq] at hv
      obtain ⟨rfl, _, _⟩ := hv
      exact hc2
/-- One cell of an element stored. -/
theorem flat_set_one {α : Type} {enc : α → List Value} {sz : Nat} (hlen : ∀ x, (enc x).length = sz) (l : List α) (i j : Nat) (x : α) (u : Value) (hi : i < l.length) (hj : j < sz) (hx : enc x = (enc l[i]).set j u) : (l.flatMap enc).set (i * sz + j) u = (l.set i x).flatMap enc := by
  induction l generalizing i with
  | nil => simp at hi
  | cons y l ih =>
    cases i with
    | zero =>
      rw [List.flatMap_cons, List.set_cons_zero, List.flatMap_cons, List.set_append_left _ _ (by rw [hlen]; omega), hx, Nat.zero_mul, Nat.zero_add]
      rfl
    | succ i =>
      rw [List.flatMap_cons, List.set_cons_succ, List.flatMap_cons, List.set_append_right _ _ (by rw [hlen, Nat.add_mul]; omega), hlen, show (i + 1) * sz + j - sz = i * sz + j by rw [Nat.add_mul]; omega]
      rw [ih i (by simpa using hi) (by simpa using hx)]
theorem Row.set_one {α : Type} {w : World} {e sz g n c : Nat} {enc : α → List Value} {l : List α} (h : Row w e sz enc (.slice (some ⟨g, 0, none⟩) n c) l) (hlen : ∀ x, (enc x).length = sz) (i j : Nat) (x : α) (u : Value) (hi : i < l.length) (hj : j < sz) (hx : enc x = (enc l[i]).set j u) :
    Row (w.setCell ⟨g, i * sz + j, none⟩ u) e sz enc (.slice (some ⟨g, 0, none⟩) n c) (l.set i x) := by
  obtain ⟨rfl, cur, hg, hc, hm, hs, ht⟩ := h.block
  refine Row.of_block (heap_setCell_same w g (i * sz + j) cur e u hg) (by simp) hc hm (by simpa using hs) hlen ?_
  rw [← flat_set_one hlen l i j x u hi hj hx, ← ht, Array.toList_setIfInBounds, List.take_set]
end Go.Proofs.YtdfdlajfjcakaaaGreat
