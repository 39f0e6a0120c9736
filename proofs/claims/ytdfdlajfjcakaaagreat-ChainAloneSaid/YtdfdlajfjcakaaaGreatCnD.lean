import Derived.Test.YtdfdlajfjcakaaaGreatCnC
namespace Go.Proofs.YtdfdlajfjcakaaaGreat
open Go Go.RowKit
open Go.Proofs.YtdfdlajfjcakaaaGreatW.PrintLast
set_option linter.unusedVariables false
set_option linter.unusedSimpArgs false
set_option maxRecDepth 100000

/-! A member of a chain, as it lies. -/
def NoT (w : World) (S : Nat → Prop) (t : TypeId) : Prop := ∀ k, S k → ∀ cs, ¬ Blk w k t cs
theorem Row.keptT {α : Type} {w w' : World} {e sz : Nat} {enc : α → List Value} {v : Value} {l : List α} {S : Nat → Prop} (h : Row w e sz enc v l) (hk : Kept w w' S) (hn : NoT w S e) : Row w' e sz enc v l :=
  h.kept hk (fun k e hs => by obtain ⟨cs, hc⟩ := h.typed e; exact hn k hs cs hc)
theorem NoT.two {w : World} {g t1 t2 t : Nat} {cs : Array Value} {v : Value} (hb : Blk w g t1 cs) (hr : ∀ k, v.ownBlock = some k → ∃ cs, Blk w k t2 cs) (h1 : t1 ≠ t) (h2 : t2 ≠ t) : NoT w (fun k => k = g ∨ v.ownBlock = some k) t := fun k e cs' hc => by
  rcases e with e | e
  · subst e; exact hb.ne_ hc h1 rfl
  · obtain ⟨cs2, hc2⟩ := hr k e
    exact hc2.ne_ hc h2 rfl
theorem NoT.one {w : World} {g t1 t : Nat} {cs : Array Value} (hb : Blk w g t1 cs) (h1 : t1 ≠ t) : NoT w (fun k => k = g) t := fun k e cs' hc => by
  subst e; exact hb.ne_ hc h1 rfl
/-- None of these blocks bears what is shared: operations, results, rows. -/
def Frz (w : World) (S : Nat → Prop) : Prop := NoT w S 85 ∧ NoT w S 87 ∧ NoT w S 115
/-- Two lists, thing by thing. -/
def Are {α β : Type} (I : World → α → β → Prop) (w : World) (raw : List α) (l : List β) : Prop := raw.length = l.length ∧ ∀ (i : Nat) (r : α), raw[i]? = some r → ∃ x : β, l[i]? = some x ∧ I w r x
section
variable {α β : Type} {I : World → α → β → Prop} {w w' : World} {raw : List α} {l : List β}
theorem Are.nil : Are I w [] [] := ⟨rfl, fun i r h => by simp at h⟩
theorem Are.imp (h : Are I w raw l) (hi : ∀ r x, I w r x → I w' r x) : Are I w' raw l := ⟨h.1, fun i r hr => by obtain ⟨x, hx, hI⟩ := h.2 i r hr; exact ⟨x, hx, hi r x hI⟩⟩
theorem Are.snoc (h : Are I w raw l) {r : α} {x : β} (hx : I w r x) : Are I w (raw ++ [r]) (l ++ [x]) := by
  refine ⟨by simp [h.1], fun i r' hr => ?_⟩
  rcases Nat.lt_or_ge i raw.length with hi | hi
  · rw [List.getElem?_append_left hi] at hr
    rw [List.getElem?_append_left (by have := h.1; omega)]
    exact h.2 i r' hr
  · rw [List.getElem?_append_right hi] at hr
    rw [List.getElem?_append_right (by have := h.1; omega)]
    have : i - raw.length = 0 := by have := (List.getElem?_eq_some_iff.1 hr).1; simp at this; omega
    rw [this] at hr
    rw [show i - l.length = 0 by have := h.1; omega]
    injection hr with hr
    exact ⟨x, rfl, hr ▸ hx⟩
theorem Are.drop (h : Are I w raw l) (n : Nat) : Are I w (raw.drop n) (l.drop n) := ⟨by simp [h.1], fun i r hr => by rw [List.getElem?_drop] at hr ⊢; exact h.2 _ r hr⟩
theorem Are.take (h : Are I w raw l) (n : Nat) : Are I w (raw.take n) (l.take n) := ⟨by simp [h.1], fun i r hr => by
  rw [List.getElem?_take] at hr ⊢
  split at hr
  · rename_i hin; rw [if_pos hin]; exact h.2 _ r hr
  · cases hr⟩
theorem Are.at (h : Are I w raw l) (i : Nat) (hi : i < raw.length) (hi2 : i < l.length) : I w raw[i] l[i] := by
  obtain ⟨x, hx, hI⟩ := h.2 i raw[i] (List.getElem?_eq_getElem hi)
  rw [List.getElem?_eq_getElem hi2] at hx
  injection hx with hx
  exact hx ▸ hI
end
/-- Operations that are read, in a block of operations. -/
def OpsV (w : World) (v : Value) (l : List OpT) : Prop := SegG w OpT.cells v l ∧ ∀ k, v.ownBlock = some k → ∃ cs, Blk w k 85 cs
theorem OpsV.kept {w w' : World} {S : Nat → Prop} {v : Value} {l : List OpT} (h : OpsV w v l) (hk : Kept w w' S) (hS : Frz w S) : OpsV w' v l := by
  have hn : ∀ k, v.ownBlock = some k → ¬ S k := fun k e hs' => by
    obtain ⟨cs, hc⟩ := h.2 k e
    exact hS.1 k hs' cs hc
  exact ⟨h.1.kept hk hn, fun k e => by
    obtain ⟨cs, hc⟩ := h.2 k e
    exact ⟨cs, hc.kept hk (hn k e)⟩⟩
/-- A reply; what is under way; a letter. -/
structure RepT where (client seq : Int) (res : List ResT) (at_ code : Int)
structure LetT where (to_ : Int) (body : ByteArray)
deriving instance Inhabited for LetT
def LetT.cells (x : LetT) : List Value := [.int .i64 x.to_, .string x.body]
structure RepW where (client seq : Int) (A : Option Addr) (n c : Nat) (at_ code : Int)
def RepW.cells (x : RepW) : List Value := [.int .i64 x.client, .int .i64 x.seq, .slice x.A x.n x.c, .int .i64 x.at_, .int .i64 x.code]
structure UndW where (client seq : Int) (A : Option Addr) (n c : Nat) (p : RepW)
def UndW.cells (x : UndW) : List Value := [.int .i64 x.client, .int .i64 x.seq, .slice x.A x.n x.c, .int .i64 x.p.client, .int .i64 x.p.seq, .slice x.p.A x.p.n x.p.c, .int .i64 x.p.at_, .int .i64 x.p.code]
def RepIs (w : World) (r : RepW) (x : RepT) : Prop := r.client = x.client ∧ r.seq = x.seq ∧ r.at_ = x.at_ ∧ r.code = x.code ∧ ResL w (.slice r.A r.n r.c) x.res
def UndIs (w : World) (r : UndW) (x : ReqT × RepT) : Prop := r.client = x.1.client ∧ r.seq = x.1.seq ∧ OpsV w (.slice r.A r.n r.c) x.1.ops ∧ RepIs w r.p x.2
section
variable {w w' : World} {S : Nat → Prop}
theorem RepIs.kept {r : RepW} {x : RepT} (h : RepIs w r x) (hk : Kept w w' S) (hS : Frz w S) : RepIs w' r x := by
  obtain ⟨a, b, c, d, e⟩ := h
  exact ⟨a, b, c, d, e.kept hk hS.2.2 hS.2.1⟩
theorem UndIs.kept {r : UndW} {x : ReqT × RepT} (h : UndIs w r x) (hk : Kept w w' S) (hS : Frz w S) : UndIs w' r x := by
  obtain ⟨a, b, c, d⟩ := h
  exact ⟨a, b, c.kept hk hS, d.kept hk hS⟩
end
theorem info_let : (Tryz.prog.info? 64).map (fun i => (i.zero, i.size, i.bytes)) = some (some (.agg #[.int .i64 0, .string ⟨#[]⟩]), 2, 24) := by kernel_rfl
theorem info_rep : (Tryz.prog.info? 34).map (fun i => (i.zero, i.size, i.bytes)) = some (some (.agg #[.int .i64 0, .int .i64 0, .slice none 0 0, .int .i64 0, .int .i64 0]), 5, 56) := by kernel_rfl
theorem info_und : (Tryz.prog.info? 95).map (fun i => (i.zero, i.size, i.bytes)) = some (some (.agg #[.int .i64 0, .int .i64 0, .slice none 0 0, .int .i64 0, .int .i64 0, .slice none 0 0, .int .i64 0, .int .i64 0]), 8, 96) := by kernel_rfl
theorem one_let : ∀ x, ∀ u ∈ LetT.cells x, u.oneCell' = true := by
  intro x u hu
  simp [LetT.cells] at hu
  rcases hu with rfl | rfl <;> rfl
theorem one_rep : ∀ x, ∀ u ∈ RepW.cells x, u.oneCell' = true := by
  intro x u hu
  simp [RepW.cells] at hu
  rcases hu with rfl | rfl | rfl | rfl | rfl <;> rfl
theorem one_und : ∀ x, ∀ u ∈ UndW.cells x, u.oneCell' = true := by
  intro x u hu
  simp [UndW.cells] at hu
  rcases hu with rfl | rfl | rfl | rfl | rfl | rfl | rfl | rfl <;> rfl
/-- A member, plain. -/
structure Mem where (id epoch : Int) (order : List Int) (rows : List RowT) (behind : Int) (way : List (ReqT × RepT)) (out : List LetT) (told : List RepT)
structure MemP (w : World) (g : Nat) (m : Mem) (tb : Nat) (vo vw vl vt : Value) (rw_ : List UndW) (rt : List RepW) : Prop where
  b : Blk w g 83 #[.int .i64 m.id, .int .i64 m.epoch, vo, .pointer (some ⟨tb, 0, none⟩), .int .i64 m.behind, vw, vl, vt]
  o : Row w 3 1 icell vo m.order
  t : TabAt w tb m.rows
  r : Row w 95 8 UndW.cells vw rw_
  ri : Are UndIs w rw_ m.way
  l : Row w 64 2 LetT.cells vl m.out
  d : Row w 34 5 RepW.cells vt rt
  di : Are RepIs w rt m.told
/-- The blocks that are a member's own. -/
def Foot (g tb : Nat) (vo vw vl vt : Value) (k : Nat) : Prop := k = g ∨ k = tb ∨ vo.ownBlock = some k ∨ vw.ownBlock = some k ∨ vl.ownBlock = some k ∨ vt.ownBlock = some k
def MemAt (w : World) (F : Nat → Prop) (g : Nat) (m : Mem) : Prop := ∃ tb vo vw vl vt rw_ rt, MemP w g m tb vo vw vl vt rw_ rt ∧ F = Foot g tb vo vw vl vt
theorem TabAt.blk {w : World} {g : Nat} {l : List RowT} (h : TabAt w g l) : ∃ cs, Blk w g 100 cs := by obtain ⟨v, hb, _⟩ := h; exact ⟨_, hb⟩
section
variable {w w' : World} {F S : Nat → Prop} {g : Nat} {m : Mem} {tb : Nat} {vo vw vl vt : Value} {rw_ : List UndW} {rt : List RepW}
theorem MemP.typed (h : MemP w g m tb vo vw vl vt rw_ rt) (k : Nat) (hk : Foot g tb vo vw vl vt k) : ∃ t cs, Blk w k t cs ∧ t ≠ 85 ∧ t ≠ 87 ∧ t ≠ 115 := by
  rcases hk with e | e | e | e | e | e
  · subst e; exact ⟨_, _, h.b, by decide, by decide, by decide⟩
  · subst e; obtain ⟨cs, hc⟩ := h.t.blk; exact ⟨_, cs, hc, by decide, by decide, by decide⟩
  · obtain ⟨cs, hc⟩ := h.o.typed e; exact ⟨_, cs, hc, by decide, by decide, by decide⟩
  · obtain ⟨cs, hc⟩ := h.r.typed e; exact ⟨_, cs, hc, by decide, by decide, by decide⟩
  · obtain ⟨cs, hc⟩ := h.l.typed e; exact ⟨_, cs, hc, by decide, by decide, by decide⟩
  · obtain ⟨cs, hc⟩ := h.d.typed e; exact ⟨_, cs, hc, by decide, by decide, by decide⟩
theorem MemP.frz (h : MemP w g m tb vo vw vl vt rw_ rt) : Frz w (Foot g tb vo vw vl vt) := by
  refine ⟨fun k hk cs hc => ?_, fun k hk cs hc => ?_, fun k hk cs hc => ?_⟩ <;> (obtain ⟨t, cs', hb, h1, h2, h3⟩ := h.typed k hk)
  · exact hb.ne_ hc h1 rfl
  · exact hb.ne_ hc h2 rfl
  · exact hb.ne_ hc h3 rfl
theorem MemP.flt (h : MemP w g m tb vo vw vl vt rw_ rt) : ∀ k, Foot g tb vo vw vl vt k → k < w.heap.size := fun k hk => by
  obtain ⟨t, cs', hb, _⟩ := h.typed k hk
  exact hb.lt
theorem MemP.kept (h : MemP w g m tb vo vw vl vt rw_ rt) (hk : Kept w w' S) (hd : ∀ k, Foot g tb vo vw vl vt k → ¬ S k) (hz : Frz w S) : MemP w' g m tb vo vw vl vt rw_ rt where
  b := h.b.kept hk (hd _ (.inl rfl))
  o := h.o.kept hk (fun k e => hd k (.inr (.inr (.inl e))))
  t := h.t.kept hk (hd _ (.inr (.inl rfl))) hz.2.2
  r := h.r.kept hk (fun k e => hd k (.inr (.inr (.inr (.inl e)))))
  ri := h.ri.imp (fun _ _ x => x.kept hk hz)
  l := h.l.kept hk (fun k e => hd k (.inr (.inr (.inr (.inr (.inl e))))))
  d := h.d.kept hk (fun k e => hd k (.inr (.inr (.inr (.inr (.inr e))))))
  di := h.di.imp (fun _ _ x => x.kept hk hz)
theorem Frz.none : Frz w (fun _ => False) := ⟨fun _ h => h.elim, fun _ h => h.elim, fun _ h => h.elim⟩
theorem MemP.below (h : MemP w g m tb vo vw vl vt rw_ rt) (hb : Below w.heap.size w w') : MemP w' g m tb vo vw vl vt rw_ rt := h.kept (Kept.of_below hb fun _ => False) (fun _ _ h => h) Frz.none
theorem MemAt.kept (h : MemAt w F g m) (hk : Kept w w' S) (hd : ∀ k, F k → ¬ S k) (hz : Frz w S) : MemAt w' F g m := by
  obtain ⟨tb, vo, vw, vl, vt, rw_, rt, h, rfl⟩ := h
  exact ⟨tb, vo, vw, vl, vt, rw_, rt, h.kept hk hd hz, rfl⟩
theorem MemAt.below (h : MemAt w F g m) (hb : Below w.heap.size w w') : MemAt w' F g m := h.kept (Kept.of_below hb fun _ => False) (fun _ _ h => h) Frz.none
theorem MemAt.frz (h : MemAt w F g m) : Frz w F := by
  obtain ⟨tb, vo, vw, vl, vt, rw_, rt, h, rfl⟩ := h
  exact h.frz
theorem MemAt.flt (h : MemAt w F g m) : ∀ k, F k → k < w.heap.size := by
  obtain ⟨tb, vo, vw, vl, vt, rw_, rt, h, rfl⟩ := h
  exact h.flt
theorem MemAt.own (h : MemAt w F g m) : F g := by
  obtain ⟨tb, vo, vw, vl, vt, rw_, rt, h, rfl⟩ := h
  exact .inl rfl
end
/-- Behind a call of a member. -/
def MPost (w : World) (F : Nat → Prop) (g : Nat) (m : Mem) (w' : World) : Prop := ∃ F', MemAt w' F' g m ∧ Kept w w' F ∧ ∀ k, F' k → F k ∨ w.heap.size ≤ k
theorem MPost.mk0 {w w' : World} {F : Nat → Prop} {g : Nat} {m : Mem} (h : MemAt w F g m) (hb : Below w.heap.size w w') : MPost w F g m w' := ⟨F, h.below hb, Kept.of_below hb _, fun k hf => .inl hf⟩
theorem MPost.trans {w w1 w2 : World} {F : Nat → Prop} {g : Nat} {m1 m2 : Mem} (h1 : MPost w F g m1 w1) (h2 : ∀ F1, MemAt w1 F1 g m1 → MPost w1 F1 g m2 w2) : MPost w F g m2 w2 := by
  obtain ⟨F1, hm, hk, hf⟩ := h1
  obtain ⟨F2, hm2, hk2, hf2⟩ := h2 F1 hm
  refine ⟨F2, hm2, hk.then_ hk2 hf, fun k h => ?_⟩
  rcases hf2 k h with h | h
  · exact hf k h
  · exact .inr (Nat.le_trans hk.size h)
end Go.Proofs.YtdfdlajfjcakaaaGreat
