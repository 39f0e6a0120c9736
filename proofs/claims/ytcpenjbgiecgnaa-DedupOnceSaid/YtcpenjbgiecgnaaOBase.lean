import Derived.WalkKit
import Derived.Below
import Derived.Deep.Draws
import Derived.Deep.LoopGhost
import Derived.Deep.QuietTactic
import Derived.BigQuiet
import Derived.OwnWalk
import Derived.KernelRfl
import Derived.Laws.MakeOwn
import Derived.Lib.Hide
import Derived.Outline
import Derived.Laws.OwnMore
import Derived.Maps.AppendAt
import Derived.Deep.AppendLies
import Derived.Shelf.Abstract
import Derived.Deep.RegionLaw
import Derived.WalkLawsBesides
import Derived.Test.YtcpenjbgiecgnaaProg
namespace Go.Proofs.Ytcpenjbgiecgnaa
open Go Go.RowKit
set_option linter.unusedVariables false
set_option linter.unusedSimpArgs false

theorem hold_ {p : Prop} (h : Hid p) : p := h
/-- Block g is just the cells cs of element type t, none frozen. -/
def Blk (w : World) (g : Nat) (t : TypeId) (cs : Array Value) : Prop := w.heap[g]? = some (.cells cs t (0, 0))

/-- Outside of S no block of w has turned. -/
structure Kept (w w' : World) (S : Nat → Prop) : Prop where
  os : w'.os = w.os
  tape : w'.tape = w.tape
  output : w'.output = w.output
  size : w.heap.size ≤ w'.heap.size
  block : ∀ k, k < w.heap.size → ¬ S k → w'.heap[k]? = w.heap[k]?

section
variable {w w' : World} {g : Nat} {t : TypeId} {cs : Array Value}
theorem Blk.lt (h : Blk w g t cs) : g < w.heap.size := by
  rcases Nat.lt_or_ge g w.heap.size with hlt | hge
  · exact hlt
  · unfold Blk at h; rw [Array.getElem?_eq_none hge] at h; cases h
theorem Blk.cell (h : Blk w g t cs) (i : Nat) : w.cell? ⟨g, i, none⟩ = cs[i]? := cell_of_row w g i cs t (0, 0) h
theorem Blk.frozen (h : Blk w g t cs) (i : Nat) : w.frozen? ⟨g, i, none⟩ = false := by
  unfold Blk at h
  simp [World.frozen?, h]
theorem Blk.new (w : World) (t : TypeId) (cs : Array Value) : Blk (w.alloc (.cells cs t)) w.heap.size t cs := heap_alloc_new w _
theorem Blk.drew (h : Blk w g t cs) : Blk w.drew g t cs := h
theorem Blk.drewN (h : Blk w g t cs) (n : Nat) : Blk (w.drewN n) g t cs := h
theorem Blk.alloc (h : Blk w g t cs) (o : Obj) : Blk (w.alloc o) g t cs := (Below.heap_alloc w o g h.lt).trans h
theorem Blk.set_ (h : Blk w g t cs) (i : Nat) (u : Value) : Blk (w.setCell ⟨g, i, none⟩ u) g t (cs.setIfInBounds i u) := by
  unfold Blk at h ⊢
  simp [World.setCell, Array.getElem?_modify, h]
theorem Blk.far (h : Blk w g t cs) {p : Addr} (hp : g ≠ p.block) (u : Value) : Blk (w.setCell p u) g t cs := (Below.heap_setCell w p u g hp).trans h
theorem Blk.kept {S : Nat → Prop} (h : Blk w g t cs) (hb : Kept w w' S) (hg : ¬ S g) : Blk w' g t cs := (hb.block g h.lt hg).trans h
theorem Blk.ne_ {g' : Nat} {t' : TypeId} {cs' : Array Value} (h : Blk w g t cs) (h' : Blk w g' t' cs') (hne : t ≠ t') : g ≠ g' := by
  rintro rfl
  unfold Blk at h h'
  rw [h] at h'
  injection h' with h'
  injection h' with _ ht
  exact hne ht

theorem Kept.refl (w : World) (S : Nat → Prop) : Kept w w S := ⟨rfl, rfl, rfl, Nat.le_refl _, fun _ _ _ => rfl⟩
theorem Kept.trans {a b c : World} {S : Nat → Prop} (h : Kept a b S) (k : Kept b c S) : Kept a c S :=
  ⟨k.os.trans h.os, k.tape.trans h.tape, k.output.trans h.output, Nat.le_trans h.size k.size, fun i hi hs => (k.block i (Nat.lt_of_lt_of_le hi h.size) hs).trans (h.block i hi hs)⟩
theorem Kept.mono {S S' : Nat → Prop} (h : Kept w w' S) (hs : ∀ k, k < w.heap.size → S k → S' k) : Kept w w' S' :=
  ⟨h.os, h.tape, h.output, h.size, fun k hk hn => h.block k hk (fun x => hn (hs k hk x))⟩
/-- A second step, whose own set lies in S or behind the first world. -/
theorem Kept.then_ {a b c : World} {S S' : Nat → Prop} (h : Kept a b S) (k : Kept b c S') (hs : ∀ i, S' i → S i ∨ a.heap.size ≤ i) : Kept a c S :=
  ⟨k.os.trans h.os, k.tape.trans h.tape, k.output.trans h.output, Nat.le_trans h.size k.size, fun i hi hn =>
    (k.block i (Nat.lt_of_lt_of_le hi h.size) (fun x => (hs i x).elim hn (fun y => absurd hi (by omega)))).trans (h.block i hi hn)⟩
theorem Kept.drew {a : World} {S : Nat → Prop} (h : Kept a w S) : Kept a w.drew S := ⟨h.os, h.tape, h.output, h.size, h.block⟩
theorem Kept.drewN {a : World} {S : Nat → Prop} (h : Kept a w S) (n : Nat) : Kept a (w.drewN n) S := ⟨h.os, h.tape, h.output, h.size, h.block⟩
theorem Kept.alloc {a : World} {S : Nat → Prop} (h : Kept a w S) (o : Obj) : Kept a (w.alloc o) S :=
  ⟨h.os, h.tape, h.output, Nat.le_trans h.size (by simp), fun i hi hn => (Below.heap_alloc w o i (Nat.lt_of_lt_of_le hi h.size)).trans (h.block i hi hn)⟩
theorem Kept.setCell {a : World} {S : Nat → Prop} (h : Kept a w S) {p : Addr} (hp : S p.block ∨ a.heap.size ≤ p.block) (u : Value) : Kept a (w.setCell p u) S :=
  ⟨h.os, h.tape, h.output, by simpa [World.setCell] using h.size, fun i hi hn => (Below.heap_setCell w p u i (by
    rintro rfl
    rcases hp with hp | hp
    · exact hn hp
    · omega)).trans (h.block i hi hn)⟩
theorem Kept.grown {a : World} {S : Nat → Prop} (h : Kept a w S) {row : Option Nat} (hg : w.grownBy w' row) (hr : ∀ k, row = some k → S k ∨ a.heap.size ≤ k) : Kept a w' S :=
  ⟨hg.os.trans h.os, hg.tape.trans h.tape, hg.output.trans h.output, Nat.le_trans h.size hg.size, fun i hi hn =>
    (hg.block i (Nat.lt_of_lt_of_le hi h.size) (fun e => (hr i e.symm).elim hn (fun y => absurd hi (by omega)))).trans (h.block i hi hn)⟩
theorem Kept.of_below {a : World} (h : Below a.heap.size a w) (S : Nat → Prop) : Kept a w S := ⟨h.os, h.tape, h.output, h.size, fun i hi _ => h.block i hi⟩
theorem Kept.below {a : World} {S : Nat → Prop} {B : Nat} (h : Kept a w S) (hB : B ≤ a.heap.size) (hs : ∀ k, k < B → ¬ S k) : Below B a w :=
  ⟨h.os, h.tape, h.output, h.size, fun i hi => h.block i (by omega) (hs i hi)⟩
theorem Kept.cell {a : World} {S : Nat → Prop} (h : Kept a w S) {p : Addr} (hp : p.block < a.heap.size) (hn : ¬ S p.block) : w.cell? p = a.cell? p := World.cell?_of_block (h.block _ hp hn)
theorem Kept.frozen {a : World} {S : Nat → Prop} (h : Kept a w S) {p : Addr} (hp : p.block < a.heap.size) (hn : ¬ S p.block) : w.frozen? p = a.frozen? p := World.frozen?_of_block (h.block _ hp hn)
end


/-! Rows of elements of one kind: enc says an element's cells. -/
theorem addr0 (g j : Nat) : (⟨g, 0, none⟩ : Addr).add j = ⟨g, j, none⟩ := by unfold Addr.add; split <;> simp_all
def Row {α : Type} (w : World) (e sz : Nat) (enc : α → List Value) (v : Value) (l : List α) : Prop := w.ownsRow 0 e sz v l.length (l.flatMap enc)
section
variable {α : Type} {w w' : World} {e sz : Nat} {enc : α → List Value} {v : Value} {l : List α}
theorem flat_length (h : ∀ x, (enc x).length = sz) (l : List α) : (l.flatMap enc).length = l.length * sz := by
  induction l with
  | nil => simp
  | cons x l ih => rw [List.flatMap_cons, List.length_append, h, ih, List.length_cons, Nat.add_mul, Nat.one_mul, Nat.add_comm]
theorem flat_get (h : ∀ x, (enc x).length = sz) (l : List α) (i j : Nat) (hi : i < l.length) (hj : j < sz) : (l.flatMap enc)[i * sz + j]? = (enc l[i])[j]? := by
  induction l generalizing i with
  | nil => simp at hi
  | cons x l ih =>
    rw [List.flatMap_cons]
    cases i with
    | zero =>
      rw [List.getElem?_append_left (by rw [h]; omega)]
      simp
    | succ i =>
      rw [List.getElem?_append_right (by rw [h, Nat.add_mul]; omega), h, show (i + 1) * sz + j - sz = i * sz + j by rw [Nat.add_mul]; omega]
      exact ih i (by simpa using hi)
theorem Row.nil_ (w : World) (e sz : Nat) (enc : α → List Value) : Row w e sz enc (.slice none 0 0) ([] : List α) := World.ownsRow_nil ..
theorem Row.shape (h : Row w e sz enc v l) : ∃ A c, v = .slice A l.length c := by
  rcases h.2 with ⟨rfl, h0⟩ | ⟨g, cap, cur, rfl, _⟩
  · exact ⟨none, 0, by rw [h0]⟩
  · exact ⟨_, cap, rfl⟩
theorem Row.form (h : Row w e sz enc v l) (hn : 0 < l.length) : ∃ g c, v = .slice (some ⟨g, 0, none⟩) l.length c ∧ g < w.heap.size ∧ l.length ≤ c := by
  rcases h.2 with ⟨_, h0⟩ | ⟨g, cap, cur, hv, hb, hg, hc, _⟩
  · omega
  · exact ⟨g, cap, hv, (Array.getElem?_eq_some_iff.1 hg).1, hc⟩
theorem Row.lt (h : Row w e sz enc v l) {k : Nat} (hk : v.ownBlock = some k) : k < w.heap.size := (World.ownsRow.lt h k hk).2
theorem Row.typed (h : Row w e sz enc v l) {k : Nat} (hk : v.ownBlock = some k) : ∃ cells, Blk w k e cells := by
  rcases h.2 with ⟨rfl, _⟩ | ⟨g, cap, cur, rfl, _, hg, _⟩
  · simp [Value.ownBlock] at hk
  · have : g = k := by simpa [Value.ownBlock] using hk
    subst this
    exact ⟨_, hg⟩
theorem Row.kept {S : Nat → Prop} (h : Row w e sz enc v l) (hk : Kept w w' S) (hS : ∀ k, v.ownBlock = some k → ¬ S k) : Row w' e sz enc v l := by
  refine ⟨h.1, ?_⟩
  rcases h.2 with hn | ⟨g, cap, cur, rfl, hb, hg, rest⟩
  · exact .inl hn
  · exact .inr ⟨g, cap, cur, rfl, hb, (hk.block g (Array.getElem?_eq_some_iff.1 hg).1 (hS g (by simp [Value.ownBlock]))).trans hg, rest⟩
theorem Row.alloc (h : Row w e sz enc v l) (o : Obj) : Row (w.alloc o) e sz enc v l := World.ownsRow.alloc h o
theorem Row.drew (h : Row w e sz enc v l) : Row w.drew e sz enc v l := h
theorem Row.drewN (h : Row w e sz enc v l) (n : Nat) : Row (w.drewN n) e sz enc v l := h
theorem Row.cell {g n c : Nat} (h : Row w e sz enc (.slice (some ⟨g, 0, none⟩) n c) l) (hs : ∀ x, (enc x).length = sz) (i j : Nat) (hi : i < l.length) (hj : j < sz) : w.cell? ⟨g, i * sz + j, none⟩ = (enc l[i])[j]? := by
  have e1 := flat_get hs l i j hi hj
  obtain ⟨u, hu⟩ : ∃ u, (enc l[i])[j]? = some u := ⟨(enc l[i])[j]'(by rw [hs]; exact hj), List.getElem?_eq_getElem _⟩
  rw [hu] at e1 ⊢
  have := World.ownsRow.cells h (g := g) rfl _ _ e1
  rwa [addr0] at this
theorem Row.frozen {g n c : Nat} (h : Row w e sz enc (.slice (some ⟨g, 0, none⟩) n c) l) (j : Nat) : w.frozen? ⟨g, j, none⟩ = false := by
  rcases h.2 with ⟨h', _⟩ | ⟨g', cap', cur, h', _, hg, _⟩
  · simp at h'
  · simp only [Value.slice.injEq, Option.some.injEq, Addr.mk.injEq, and_true] at h'
    obtain ⟨rfl, _⟩ := h'
    exact frozen_of_row w g j cur e hg
end

/-! append to a row: the value and the world behind it -/
theorem flat_one {α : Type} {enc : α → List Value} (h1 : ∀ x, ∀ u ∈ enc x, u.oneCell' = true) (l : List α) : ∀ u ∈ l.flatMap enc, u.oneCell' = true := by
  intro u hu
  obtain ⟨x, _, hx⟩ := List.mem_flatMap.1 hu
  exact h1 x u hx
section
variable {P : Program} {α : Type} {enc : α → List Value}
theorem Row.append_run {W : World} (t ty e : TypeId) (z : Value) (sz bytes : Nat) (ht : P.underlying t = some (.slice e)) (hinfo : (P.info? e).map (fun i => (i.zero, i.size, i.bytes)) = some (some z, sz, bytes)) (hz : z.cells.size = sz) (hs0 : 0 < sz) (hb0 : 0 < bytes)
    (v : Value) (l ys : List α) (HR : Row W e sz enc v l) (ad : Addr) (m c : Nat) (hm : ys.length = m) (hlen : ∀ x, (enc x).length = sz) (hnews : ∀ j u, (ys.flatMap enc)[j]? = some u → W.cell? (ad.add j) = some u)
    (h1 : ∀ x, ∀ u ∈ enc x, u.oneCell' = true) (hl : (l.length + m) * bytes ≤ 140737488355328) :
    ∃ v1 w1, (Builtin.append_ #[t, t] ty #[v, .slice (some ad) m c]).run P W = .ok v1 w1 ∧ Row w1 e sz enc v1 (l ++ ys) ∧ W.grownBy w1 v.ownBlock ∧ (v1.ownBlock = v.ownBlock ∨ v1.ownBlock = some W.heap.size) := by
  obtain ⟨i0, hi, hzz⟩ := Option.map_eq_some_iff.1 hinfo
  simp only [Prod.mk.injEq] at hzz
  obtain ⟨hz0, hz1, hz2⟩ := hzz
  have hle : l.length + m ≤ 140737488355328 := Nat.le_trans (Nat.le_mul_of_pos_right _ hb0) hl
  obtain ⟨v1, w1, hr, hown, hg, _, hat⟩ := run_append_own_at (P := P) W 0 t ty e i0 z sz bytes ht hi hz0 hz1 hz2 hz hs0 v l.length (l.flatMap enc) HR ad m c (ys.flatMap enc) (by rw [flat_length hlen, hm]) hnews (flat_one h1 ys) (by simp only [maxLen]; omega) hl (Nat.zero_le _)
  refine ⟨v1, w1, hr, ?_, hg, hat⟩
  unfold Row
  rw [List.length_append, hm, List.flatMap_append]
  exact hown
variable {ops : Array Oper} {rest : List Oper} {o : Oper} {a : Act} {Q : Exit → Act → World → Prop} {K : Act → World → Prop} {E : Prop} {W : World}
theorem Row.append_step (hgd : o.guard = none) (s x : Operand) (t e : TypeId) (z : Value) (sz bytes : Nat)
    (ho : o.op = .call { callee := .builtin .append, args := #[s, x], argTypes := #[t, t] })
    (ht : P.underlying t = some (.slice e)) (hinfo : (P.info? e).map (fun i => (i.zero, i.size, i.bytes)) = some (some z, sz, bytes)) (hz : z.cells.size = sz) (hs0 : 0 < sz) (hb0 : 0 < bytes)
    (v : Value) (l ys : List α) (hs : a.eval s = v) (ad : Addr) (m c : Nat) (hx : a.eval x = .slice (some ad) m c) (HR : Row W e sz enc v l) (hm : ys.length = m) (hlen : ∀ x, (enc x).length = sz) (hnews : ∀ j u, (ys.flatMap enc)[j]? = some u → W.cell? (ad.add j) = some u)
    (h1 : ∀ x, ∀ u ∈ enc x, u.oneCell' = true) (hl : (l.length + m) * bytes ≤ 140737488355328)
    (h : ∀ v1 w1, Row w1 e sz enc v1 (l ++ ys) → W.grownBy w1 v.ownBlock → (v1.ownBlock = v.ownBlock ∨ v1.ownBlock = some W.heap.size) → K (a.put o.dst v1) w1) :
    if Region.wanted o (yielded ops a.tmps) = true then Oper.wp P o a W K Q else E := by
  have hw : Region.wanted o (yielded ops a.tmps) = true := by simp [Region.wanted, hgd]
  rw [if_pos hw]
  obtain ⟨v1, w1, hr, h2, h3, h4⟩ := Row.append_run (P := P) (W := W) t o.type e z sz bytes ht hinfo hz hs0 hb0 v l ys HR ad m c hm hlen hnews h1 hl
  unfold Oper.wp execOp
  simp only [ho, resolve, invoke, builtin, Sem.run_bind, Sem.run_pure, Result.andThen_ok, List.map_toArray, List.map_cons, List.map_nil, hs, hx, hr]
  exact h v1 w1 h2 h3 h4
theorem Row.append_list (hgd : o.guard = none) (s x : Operand) (t e : TypeId) (z : Value) (sz bytes : Nat)
    (ho : o.op = .call { callee := .builtin .append, args := #[s, x], argTypes := #[t, t] })
    (ht : P.underlying t = some (.slice e)) (hinfo : (P.info? e).map (fun i => (i.zero, i.size, i.bytes)) = some (some z, sz, bytes)) (hz : z.cells.size = sz) (hs0 : 0 < sz) (hb0 : 0 < bytes)
    (v : Value) (l ys : List α) (hs : a.eval s = v) (ad : Addr) (m c : Nat) (hx : a.eval x = .slice (some ad) m c) (HR : Row W e sz enc v l) (hm : ys.length = m) (hlen : ∀ x, (enc x).length = sz) (hnews : ∀ j u, (ys.flatMap enc)[j]? = some u → W.cell? (ad.add j) = some u)
    (h1 : ∀ x, ∀ u ∈ enc x, u.oneCell' = true) (hl : (l.length + m) * bytes ≤ 140737488355328)
    (h : ∀ v1 w1, Row w1 e sz enc v1 (l ++ ys) → W.grownBy w1 v.ownBlock → (v1.ownBlock = v.ownBlock ∨ v1.ownBlock = some W.heap.size) → wpList P ops Q rest (a.put o.dst v1) w1) :
    wpList P ops Q (o :: rest) a W := by
  refine wpList_plain hgd fun K hK => ?_
  obtain ⟨v1, w1, hr, h2, h3, h4⟩ := Row.append_run (P := P) (W := W) t o.type e z sz bytes ht hinfo hz hs0 hb0 v l ys HR ad m c hm hlen hnews h1 hl
  unfold Oper.wp execOp
  simp only [ho, resolve, invoke, builtin, Sem.run_bind, Sem.run_pure, Result.andThen_ok, List.map_toArray, List.map_cons, List.map_nil, hs, hx, hr]
  exact hK _ _ (h v1 w1 h2 h3 h4)
end
/-- The cells of a row, for 'append(v, ys...)'. -/
theorem Row.news {α : Type} {w : World} {e sz : Nat} {enc : α → List Value} {g n c : Nat} {l : List α} (h : Row w e sz enc (.slice (some ⟨g, 0, none⟩) n c) l) : ∀ j u, (l.flatMap enc)[j]? = some u → w.cell? ((⟨g, 0, none⟩ : Addr).add j) = some u := World.ownsRow.cells h rfl

/-! A row whose cells are known -/
theorem Row.of_block {α : Type} {w : World} {e sz g cap n : Nat} {enc : α → List Value} {cur : Array Value} {l : List α} (hg : w.heap[g]? = some (.cells cur e (0, 0))) (hn : l.length = n) (hc : n ≤ cap) (hm : cap ≤ maxLen) (hs : cur.size = cap * sz) (hlen : ∀ x, (enc x).length = sz) (ht : cur.toList.take (n * sz) = l.flatMap enc) :
    Row w e sz enc (.slice (some ⟨g, 0, none⟩) n cap) l := by
  subst hn
  exact ⟨flat_length hlen l, .inr ⟨g, cap, cur, rfl, Nat.zero_le _, hg, hc, hm, hs, ht⟩⟩
theorem Row.block {α : Type} {w : World} {e sz g n cap : Nat} {enc : α → List Value} {l : List α} (h : Row w e sz enc (.slice (some ⟨g, 0, none⟩) n cap) l) : n = l.length ∧ ∃ cur : Array Value, w.heap[g]? = some (.cells cur e (0, 0)) ∧ l.length ≤ cap ∧ cap ≤ maxLen ∧ cur.size = cap * sz ∧ cur.toList.take (l.length * sz) = l.flatMap enc := by
  rcases h.2 with ⟨h', _⟩ | ⟨g', cap', cur, h', _, hg, hc, hm, hs, ht⟩
  · cases h'
  · simp only [Value.slice.injEq, Option.some.injEq, Addr.mk.injEq, and_true] at h'
    obtain ⟨rfl, rfl, rfl⟩ := h'
    exact ⟨rfl, cur, hg, hc, hm, hs, ht⟩
theorem grown_setRow (w : World) (g : Nat) (cs : Array Value) : w.grownBy (w.setRow g cs) (some g) := ⟨rfl, rfl, rfl, by simp, fun k _ hk => setRow_other w g k _ (fun e => hk (by simp [e]))⟩
theorem setCells_row {w : World} {g o : Nat} {t : TypeId} {cur : Array Value} {vs : List Value} (hg : w.heap[g]? = some (.cells cur t (0, 0))) (hl : o + vs.length ≤ cur.size) (h1 : ∀ v ∈ vs, v.oneCell' = true) :
    w.setCells g o vs = w.setRow g (cur.toList.take o ++ vs ++ cur.toList.drop (o + vs.length)).toArray := by
  have a := run_storeCells_at Try.prog g o t vs 0 cur w hg (by simpa using hl) h1
  have b := run_storeCells_cells (P := Try.prog) g o vs 0 w (fun j hj => by rw [cell_of_row w g _ cur t (0, 0) hg, Array.getElem?_eq_getElem (by omega)]; rfl) (fun j _ => frozen_of_row w g _ cur t hg) h1
  rw [b] at a
  injection a with _ a
/-- clear(s): the cells of a block from o on. -/
theorem run_clear_row (P : Program) (w : World) (t e ty : TypeId) (z : Value) (sz : Nat) (ht : P.underlying t = some (.slice e)) (hv : ∀ w, (zeroValue e).run P w = .ok z w) (hz : z.cells.size = sz) (h1 : ∀ u ∈ z.cells.toList, u.oneCell' = true) (g o n c : Nat) (cur : Array Value) (hg : w.heap[g]? = some (.cells cur e (0, 0))) (hl : o + n * sz ≤ cur.size) :
    ∃ cs : Array Value, (Builtin.clear_ #[t] ty #[.slice (some ⟨g, o, none⟩) n c]).run P w = .ok (.tuple #[]) (w.setRow g cs) ∧ cs.size = cur.size ∧ cs.toList.take o = cur.toList.take o := by
  have hsz : (Builtin.zeroCells z.cells n).toList.length = n * sz := by rw [Array.length_toList, size_zeroCells, hz]
  rcases Nat.eq_zero_or_pos n with h0 | h0
  · subst h0
    refine ⟨cur, ?_, rfl, rfl⟩
    rw [setRow_self w g cur e (0, 0) hg]
    simp [Builtin.clear_, run_underlying ht]
  · have hst := run_storeCells_at P g o e (Builtin.zeroCells z.cells n).toList 0 cur w hg (by rw [hsz]; simpa using hl) (by
      intro u hu
      simp only [Builtin.zeroCells, Array.toList_map, List.mem_map, Array.mem_toList_iff, Array.mem_range] at hu
      obtain ⟨i, hi, rfl⟩ := hu
      have hp : 0 < z.cells.size := by
        rcases Nat.eq_zero_or_pos z.cells.size with h | h
        · rw [h] at hi; simp at hi
        · exact h
      have hm := Nat.mod_lt i hp
      rw [getElem!_pos z.cells _ hm]
      exact h1 _ (by simp))
    simp only [Nat.add_zero] at hst
    obtain ⟨m, rfl⟩ : ∃ m, n = m + 1 := ⟨n - 1, by omega⟩
    refine ⟨_, by simp [Builtin.clear_, run_underlying ht, hv, hst]; rfl, ?_, ?_⟩
    · simp only [List.size_toArray, List.length_append, List.length_take, List.length_drop, Array.length_toList]
      rw [Array.length_toList] at hsz
      omega
    · show List.take o (_ ++ _) = _
      rw [List.take_append_of_le_length (by simp; omega), List.take_take, Nat.min_self]

/-! An element stored into a row. -/
theorem flat_set {α : Type} {enc : α → List Value} {sz : Nat} (hlen : ∀ x, (enc x).length = sz) (l : List α) (i : Nat) (x : α) (hi : i < l.length) : (l.set i x).flatMap enc = (l.flatMap enc).take (i * sz) ++ enc x ++ (l.flatMap enc).drop (i * sz + sz) := by
  have e : l.flatMap enc = (l.take i).flatMap enc ++ (enc l[i] ++ (l.drop (i + 1)).flatMap enc) := by
    rw [← List.flatMap_cons, ← List.drop_eq_getElem_cons hi, ← List.flatMap_append, List.take_append_drop]
  have h1 : ((l.take i).flatMap enc).length = i * sz := by rw [flat_length hlen, List.length_take, Nat.min_eq_left (by omega)]
  rw [e, List.take_left' h1, List.drop_append, h1, List.drop_of_length_le (by rw [h1]; omega), show i * sz + sz - i * sz = sz by omega, List.drop_left' (hlen _), List.nil_append, List.set_eq_take_append_cons_drop, if_pos hi, List.flatMap_append, List.flatMap_cons, List.append_assoc]
theorem setCells_zero (w : World) (g o : Nat) : w.setCells g o [] = w := rfl
theorem setCells_two (w : World) (g o : Nat) (a b : Value) : (w.setCell ⟨g, o, none⟩ a).setCell ⟨g, o + 1, none⟩ b = w.setCells g o [a, b] := rfl
theorem setCells_three (w : World) (g o : Nat) (a b c : Value) : ((w.setCell ⟨g, o, none⟩ a).setCell ⟨g, o + 1, none⟩ b).setCell ⟨g, o + 2, none⟩ c = w.setCells g o [a, b, c] := rfl
theorem setCells_four (w : World) (g o : Nat) (a b c d : Value) : (((w.setCell ⟨g, o, none⟩ a).setCell ⟨g, o + 1, none⟩ b).setCell ⟨g, o + 2, none⟩ c).setCell ⟨g, o + 3, none⟩ d = w.setCells g o [a, b, c, d] := rfl
theorem Row.set_ {α : Type} {w : World} {e sz g n c : Nat} {enc : α → List Value} {l : List α} (h : Row w e sz enc (.slice (some ⟨g, 0, none⟩) n c) l) (hlen : ∀ x, (enc x).length = sz) (h1 : ∀ x, ∀ u ∈ enc x, u.oneCell' = true) (i : Nat) (x : α) (hi : i < l.length) :
    Row (w.setCells g (i * sz) (enc x)) e sz enc (.slice (some ⟨g, 0, none⟩) n c) (l.set i x) ∧ w.grownBy (w.setCells g (i * sz) (enc x)) (some g) := by
  obtain ⟨rfl, cur, hg, hc, hm, hs, ht⟩ := h.block
  have hm1 : (i + 1) * sz ≤ l.length * sz := Nat.mul_le_mul_right _ hi
  have hm2 : l.length * sz ≤ c * sz := Nat.mul_le_mul_right _ hc
  rw [Nat.add_mul, Nat.one_mul] at hm1
  rw [setCells_row (cur := cur) hg (by rw [hlen]; omega) (h1 x)]
  refine ⟨Row.of_block (setRow_heap w g cur _ _ _ hg) (by simp) hc hm ?_ hlen ?_, grown_setRow w g _⟩
  · simp only [List.size_toArray, List.length_append, List.length_take, List.length_drop, Array.length_toList, hlen]
    omega
  · rw [flat_set hlen l i x hi, ← ht, List.take_take, Nat.min_eq_left (by omega)]
    show List.take _ (_ ++ _) = _
    have h3 : (cur.toList.take (i * sz) ++ enc x).length = i * sz + sz := by rw [List.length_append, List.length_take, Array.length_toList, hlen]; omega
    rw [List.take_append, h3, List.take_of_length_le (by rw [h3]; omega), List.drop_take, hlen]
theorem Kept.of_grown {w w' : World} {g : Nat} (h : w.grownBy w' (some g)) : Kept w w' (fun k => k = g) := ⟨h.os, h.tape, h.output, h.size, fun k hk hn => h.block k hk (fun e => hn (by injection e))⟩
theorem Blk.grown {w w' : World} {g : Nat} {t : TypeId} {cs : Array Value} (h : Blk w g t cs) {row : Option Nat} (hg : w.grownBy w' row) (hn : some g ≠ row) : Blk w' g t cs := (hg.block g h.lt hn).trans h
theorem Row.grown {α : Type} {w w' : World} {e sz : Nat} {enc : α → List Value} {v : Value} {l : List α} (h : Row w e sz enc v l) {row : Option Nat} (hg : w.grownBy w' row) (hn : ∀ k, v.ownBlock = some k → some k ≠ row) : Row w' e sz enc v l := by
  refine h.kept (S := fun k => some k = row) ⟨hg.os, hg.tape, hg.output, hg.size, fun k hk hn => hg.block k hk hn⟩ (fun k e => hn k e)
/-- Two rows of unlike types share no block. -/
theorem Row.apart {α β : Type} {w : World} {e e' sz sz' : Nat} {enc : α → List Value} {enc' : β → List Value} {v v' : Value} {l : List α} {l' : List β} (h : Row w e sz enc v l) (h' : Row w e' sz' enc' v' l') (hne : e ≠ e') : ∀ k, v.ownBlock = some k → v'.ownBlock ≠ some k := by
  intro k hk hk'
  obtain ⟨c1, b1⟩ := h.typed hk
  obtain ⟨c2, b2⟩ := h'.typed hk'
  exact b1.ne_ b2 hne rfl
theorem Row.ne_blk {α : Type} {w : World} {e sz g t : Nat} {cs : Array Value} {enc : α → List Value} {v : Value} {l : List α} (h : Row w e sz enc v l) (hb : Blk w g t cs) (hne : e ≠ t) : v.ownBlock ≠ some g := by
  intro hk
  obtain ⟨c1, b1⟩ := h.typed hk
  exact b1.ne_ hb hne rfl
/-- The one element that append(v, x) lays first. -/
theorem news_lit {α : Type} (enc : α → List Value) (w : World) (e : TypeId) (x : α) (cs : Array Value) (h : cs.toList = enc x) : ∀ j u, ([x].flatMap enc)[j]? = some u → (w.alloc (.cells cs e)).cell? ((⟨w.heap.size, 0, none⟩ : Addr).add j) = some u := by
  intro j u hu
  refine World.news_of_block (heap_alloc_new w _) j u ?_
  rw [h]
  simpa using hu
theorem Row.some_slice {α : Type} {w : World} {e sz : Nat} {enc : α → List Value} {v : Value} {l : List α} (h : Row w e sz enc v l) : ∃ A n c, v = .slice A n c := by
  obtain ⟨A, c, e⟩ := h.shape
  exact ⟨A, _, c, e⟩
end Go.Proofs.Ytcpenjbgiecgnaa
