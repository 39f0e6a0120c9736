import Derived.RangeFuncBox
import Derived.RangeFuncNested
import Derived.RangeFuncBound
import Derived.RangeFuncLeaves
import Derived.Test.YtpimpdgibcjbeaaOBase
namespace Go.Proofs.Ytpimpdgibcjbeaa
open Go Go.RowKit
set_option linter.unusedVariables false
set_option linter.unusedSimpArgs false

/-! A range over an iterator that itself ranges over one: the caller's words J, Jx abide whatever turn of a block, no cells, that was laid since; a round leaves alone what is no cells from C on. -/
variable {F : Fence} {n : Nat} {P : Program}
/-- All cells lie as they lay. -/
structure CellsStay (W W' : World) : Prop where
  size : W.heap.size ≤ W'.heap.size
  same : ∀ (k : Nat) (o : Obj), W.heap[k]? = some o → o.isCells = true → W'.heap[k]? = some o
theorem CellsStay.refl (W : World) : CellsStay W W := ⟨Nat.le_refl _, fun _ _ h _ => h⟩
theorem CellsStay.trans {X Y Z : World} (h : CellsStay X Y) (k : CellsStay Y Z) : CellsStay X Z := ⟨Nat.le_trans h.size k.size, fun i o hi ho => k.same i o (h.same i o hi ho) ho⟩
theorem CellsStay.alloc {X Y : World} (h : CellsStay X Y) (o : Obj) : CellsStay X (Y.alloc o) := ⟨Nat.le_trans h.size (by simp), fun i o' hi ho => by
  have hy := h.same i o' hi ho
  exact (Below.heap_alloc Y o i (Array.getElem?_eq_some_iff.1 hy).1).trans hy⟩
theorem CellsStay.putObj {X Y : World} (h : CellsStay X Y) {l : Nat} {o : Obj} (o' : Obj) (hl : Y.heap[l]? = some o) (ho : o.isCells = false) : CellsStay X (Y.putObj l o') := ⟨Nat.le_trans h.size (by simp [World.putObj]), fun i oi hi hoi => by
  have hy := h.same i oi hi hoi
  by_cases e : i = l
  · subst e
    rw [hl] at hy
    injection hy with hy
    rw [hy, hoi] at ho
    cases ho
  · exact (World.putObj_heap_other e).trans hy⟩
theorem CellsStay.blk {X Y : World} (h : CellsStay X Y) {g : Nat} {t : TypeId} {cs : Array Value} (hb : Blk X g t cs) : Blk Y g t cs := h.same g _ hb rfl
theorem CellsStay.cell {X Y : World} (h : CellsStay X Y) {p : Addr} {v : Value} (hc : X.cell? p = some v) : Y.cell? p = some v := by
  have hlt := World.block_lt_of_cell? X p hc
  have hx : X.heap[p.block]? = some X.heap[p.block] := Array.getElem?_eq_getElem hlt
  unfold World.cell? at hc ⊢
  rw [hx] at hc
  cases ho : X.heap[p.block] with
  | cells cs t fz =>
    rw [ho] at hx hc
    rw [h.same _ _ hx rfl]
    exact hc
  | _ => rw [ho] at hc; simp at hc
theorem CellsStay.ownFrom {β : Type} (X : World) (B : Nat) : OwnFrom B (fun (_ : β) Y => CellsStay X Y) := fun s Y Z row hs hg hr => ⟨Nat.le_trans hs.size hg.size, fun i o hi ho => by
  have hy := hs.same i o hi ho
  refine (hg.block i (Array.getElem?_eq_some_iff.1 hy).1 fun e => ?_).trans hy
  obtain ⟨_, o', ho', hc⟩ := hr i e.symm
  rw [hy] at ho'
  injection ho' with ho'
  rw [← ho', ho] at hc
  cases hc⟩
theorem of_less {β : Type} {B C : Nat} {I : β → World → Prop} (h : OwnFrom B I) (hb : B ≤ C) : OwnFrom C I := fun s X Y row hs hg hr => h s X Y row hs hg (fun r e => ⟨Nat.le_trans hb (hr r e).1, (hr r e).2⟩)
theorem kf_less {B C : Nat} {X Y : World} (h : KeepsFrom B X Y) (hb : B ≤ C) : KeepsFrom C X Y := ⟨h.size, fun k o hk => h.same k o (Nat.le_trans hb hk)⟩
theorem kf_put {X : World} {l C : Nat} (hl : l < C) (o : Obj) : KeepsFrom C X (X.putObj l o) := ⟨by simp [World.putObj], fun k o' hk ho _ => (World.putObj_heap_other (by omega)).trans ho⟩
def SeqO {α : Type} (C : Nat) (F : Fence) (n : Nat) (P : Program) (g : Nat) (lb : Array Value) (encs : α → Array Value) (Kp : World → World → Prop) (S Sp : List α → Prop) (N : Nat) (w : World) : Prop :=
  ∀ (l : Nat) (J Jx : List α → World → Prop) (W : World), Below w.heap.size w W → C ≤ W.heap.size → OwnFrom W.heap.size J → OwnFrom W.heap.size Jx →
    (∀ pre x W1, J pre W1 → pre.length < N → YieldAt F (n - 1) P l (encs x) W1 fun e W' =>
      ((e = .returned (.bool true) ∧ J (pre ++ [x]) W' ∧ Kp W1 W') ∨ (e = .returned (.bool false) ∧ Jx (pre ++ [x]) W')) ∧ KeepsFrom C W1 W') →
    J [] W →
    CallsIn F n P g (#[.func (.yield l) #[] #[]] ++ lb) W fun e W' => (∃ v, e = .returned v) ∧ ((∃ xs, S xs ∧ J xs W') ∨ (∃ pre, Sp pre ∧ Jx pre W'))
/-- How a round's body is left: it goes on, or it returns. -/
def roundEnd {α : Type} (B : Nat) (Kp : World → World → Prop) (I Ix : List α → World → Prop) (xs : List α) (W : World) : Exit → Act → World → Prop
  | .normal, _, W' => KeepsFrom B W W' ∧ Kp W W' ∧ I xs W'
  | .ret, _, W' => KeepsFrom B W W' ∧ Ix xs W'
  | _, _, _ => False
/-- The two blocks of the loop's book: the rounds' deferred calls at B, the record at B + 1. -/
def Book (B : Nat) (o : Obj) (W : World) : Prop := W.heap[B + 1]? = some o ∧ W.heap[B]? = some (.deferred (some []))
theorem Book.ownFrom {β : Type} (B : Nat) (o : Obj) {C : Nat} (h : B + 2 ≤ C) : OwnFrom C (fun (_ : β) W => Book B o W) := fun s X Y row hs hg hr =>
  ⟨(hg.block _ (Array.getElem?_eq_some_iff.1 hs.1).1 (fun e => by have := (hr _ e.symm).1; omega)).trans hs.1, (hg.block _ (Array.getElem?_eq_some_iff.1 hs.2).1 (fun e => by have := (hr _ e.symm).1; omega)).trans hs.2⟩
theorem Book.lt {B : Nat} {o : Obj} {W : World} (h : Book B o W) : B + 1 < W.heap.size := (Array.getElem?_eq_some_iff.1 h.1).1
theorem Book.turn {B : Nat} {o : Obj} {W : World} (h : Book B o W) (o' : Obj) : Book B o' (W.putObj (B + 1) o') := ⟨World.putObj_heap_same h.lt, (World.putObj_heap_other (by omega)).trans h.2⟩
theorem Book.stays {B : Nat} {r : Loop} {W W' : World} (h : Book B (.loop r) W) (hk : KeepsFrom B W W') : Book B (.loop r) W' := ⟨hk.same _ _ (by omega) h.1 rfl, hk.same _ _ (Nat.le_refl _) h.2 rfl⟩

theorem range_own {α : Type} {g : Operand} {ps : Array Tmp} {assign body : Code} {Q : Exit → Act → World → Prop} {a : Act} {w : World}
    (hro : F.round = none) (h1 : 1 ≤ n) {gf : Nat} {lb : Array Value} (hg : a.eval g = .func (.func gf) #[] lb) (hFg : F.fn gf) (eg : ∀ args w, (callFunc gf args).run P w = .ok (.enter gf args) w)
    {encs : α → Array Value} {Kp : World → World → Prop} {S Sp : List α → Prop} {N : Nat} {w0 : World} (hseq : SeqO (w.heap.size + 2) F (n - 1) P gf lb encs Kp S Sp N w0)
    (hKt : ∀ {A B C : World}, Kp A B → Kp B C → Kp A C) (hKb : ∀ (W : World) (o o' : Obj), W.heap[w.heap.size + 1]? = some o → o.isCells = false → Kp W (W.putObj (w.heap.size + 1) o')) (hb0 : Below w0.heap.size w0 w) (hps : ∀ x, (encs x).size = ps.size)
    (I Ix : List α → World → Prop) (hI : OwnFrom w.heap.size I) (hIx : OwnFrom w.heap.size Ix) (h0 : I [] w) (Ax : α → Act → World → Prop) (hAx : ∀ x a', OwnFrom w.heap.size (fun (_ : Unit) W => Ax x a' W))
    (hassign : ∀ (l : Nat) (pre : List α) (x : α) (W : World) (K : Act → World → Prop), I pre W → (∀ a' W', KeepsFrom w.heap.size W W' → Kp W W' → I pre W' → Ax x a' W' → K a' W') →
      assign.wpIn (F.inRound l) (n - 1 - 1) P (Exit.then K (fun _ _ _ => False)) { tmps := (ps.zip (encs x)).foldl (fun t (p, v) => t.setIfInBounds p v) a.tmps, defers := [] } W)
    (hbody : ∀ (l : Nat) (pre : List α) (x : α) (a' : Act) (W : World), I pre W → Ax x a' W → pre.length < N → body.wpIn (F.inRound l) (n - 1 - 1) P (roundEnd w.heap.size Kp I Ix (pre ++ [x]) W) a' W)
    (hdone : ∀ (D : Nat) (xs : List α) (W : World), w.heap.size ≤ D → S xs → I xs W → W.heap[D]? = some (.deferred (some [])) → Q .normal { a with defers := { target := .collected D, args := #[] } :: a.defers } W)
    (hstop : ∀ (D : Nat) (pre : List α) (W : World), w.heap.size ≤ D → Sp pre → Ix pre W → W.heap[D]? = some (.deferred (some [])) → Code.ret.wpIn F n P Q { a with defers := { target := .collected D, args := #[] } :: a.defers } W) :
    (Code.rangeFunc g ps assign body).wpIn F n P Q a w := by
  refine wpIn_rangeFunc fun fn hfn => ?_
  rw [hro]
  let lp : LoopState → Option Code → Loop := fun st pe => { state := st, pending := pe, fn := fn, tmps := a.tmps, params := ps, assign := assign, body := body, defers := w.heap.size }
  have hbk : Book w.heap.size (.loop (lp .ready none)) ((w.alloc (.deferred (some []))).alloc (.loop (lp .ready none))) := by
    refine ⟨?_, (Below.heap_alloc _ _ _ (by simp)).trans (World.alloc_heap_new w _)⟩
    have := World.alloc_heap_new (w.alloc (.deferred (some []))) (.loop (lp .ready none))
    rwa [World.size_alloc] at this
  have hi0 : I [] ((w.alloc (.deferred (some []))).alloc (.loop (lp .ready none))) := hI.alloc _ (hI.alloc _ h0)
  have hbel : Below w0.heap.size w0 ((w.alloc (.deferred (some []))).alloc (.loop (lp .ready none))) := hb0.trans ((((Below.refl _ w).alloc (Nat.le_refl _) _).alloc (by simp) _).mono hb0.size)
  have hsz : ((w.alloc (.deferred (some []))).alloc (.loop (lp .ready none))).heap.size = w.heap.size + 2 := by simp
  have hen := run_enterLoop_outer (P := P) (w := w) fn a.tmps ps assign body
  generalize hW1 : (w.alloc (.deferred (some []))).alloc (.loop (lp .ready none)) = W1 at hbk hi0 hbel hsz
  have hen' : (Instr.enterLoop fn a.tmps ps assign body none).run P w = .ok (w.heap.size + 1, [{ target := .collected w.heap.size, args := #[] }]) W1 := by rw [← hW1]; exact hen
  refine ⟨w.heap.size + 1, [{ target := .collected w.heap.size, args := #[] }], W1, { target := .fn (.func gf) lb, args := #[.func (.yield (w.heap.size + 1)) #[] #[]] }, W1, gf, #[.func (.yield (w.heap.size + 1)) #[] #[]] ++ lb, W1, hen', ?_, ?_, ?_, fun _ => h1, ?_⟩
  · simp only [resolve, hg]
    simp [go_sem]
  · intro f' hf'
    simp [Target.leads] at hf'
    exact hf' ▸ hFg
  · simp [invoke, go_sem, eg]
  have hup : ∀ {X : World} {row : Option Nat}, (∀ r, row = some r → W1.heap.size ≤ r ∧ ∃ o : Obj, X.heap[r]? = some o ∧ o.isCells = false) → ∀ r, row = some r → w.heap.size ≤ r ∧ ∃ o : Obj, X.heap[r]? = some o ∧ o.isCells = false :=
    fun h r e => ⟨by have := (h r e).1; omega, (h r e).2⟩
  refine (hseq (w.heap.size + 1) (fun pre W => I pre W ∧ Book w.heap.size (.loop (lp .ready none)) W) (fun pre W => Ix pre W ∧ Book w.heap.size (.loop (lp .done (some .ret))) W) W1 hbel (by omega)
    (fun s X Y row hs hgr hr => ⟨hI s X Y row hs.1 hgr (hup hr), Book.ownFrom w.heap.size _ (by omega) s X Y row hs.2 hgr hr⟩)
    (fun s X Y row hs hgr hr => ⟨hIx s X Y row hs.1 hgr (hup hr), Book.ownFrom w.heap.size _ (by omega) s X Y row hs.2 hgr hr⟩) ?_ ⟨hi0, hbk⟩).mono ?_
  · rintro pre x W ⟨hi, hb⟩ hlen
    refine ⟨fn, _, assign, body, run_yield (P := P) (args := encs x) hb.1 (hps x), roundIn_of_wpIn hfn (hassign _ pre x W _ hi fun a' Wa hkf hkp hia hax => ?_)⟩
    have hba := hb.stays hkf
    refine ⟨_, run_beginRound hba.1 rfl, wpIn_mono (hbody _ pre x a' _ (hI.putObj _ hia (by omega) hba.1 rfl) ((hAx x a').putObj (s := ()) _ hax (by omega) hba.1 rfl) hlen) ?_⟩
    have hbb := hba.turn (.loop { lp .ready none with state := .busy })
    have hk2 : Kp W (Wa.putObj (w.heap.size + 1) (.loop { lp .ready none with state := .busy })) := hKt hkp (hKb _ _ _ hba.1 rfl)
    intro e a3 W3 hp
    cases e with
    | normal =>
      have hb3 := hbb.stays hp.1
      exact ⟨_, _, run_endRound (P := P) none hb3.1, .inl ⟨rfl, ⟨hI.putObj _ hp.2.2 (by omega) hb3.1 rfl, hb3.turn _⟩, hKt (hKt hk2 hp.2.1) (hKb _ _ _ hb3.1 rfl)⟩, ((kf_less hkf (by omega)).trans (kf_put (by omega) _)).trans ((kf_less hp.1 (by omega)).trans (kf_put (by omega) _))⟩
    | ret =>
      have hb3 := hbb.stays hp.1
      exact ⟨_, _, run_endRound (P := P) (some .ret) hb3.1, .inr ⟨rfl, hIx.putObj _ hp.2 (by omega) hb3.1 rfl, hb3.turn _⟩, ((kf_less hkf (by omega)).trans (kf_put (by omega) _)).trans ((kf_less hp.1 (by omega)).trans (kf_put (by omega) _))⟩
    | exit id => exact hp.elim
    | goto t => exact hp.elim
    | panic ch => exact hp.elim
    | outgrown => exact hp.elim
  · rintro e W2 ⟨⟨v, rfl⟩, ⟨xs, hS, hi, hb⟩ | ⟨pre, hSp, hi, hb⟩⟩
    · exact ⟨none, _, run_endLoop (P := P) hb.1 (by simp [lp]), hdone _ xs _ (Nat.le_refl _) hS (hI.putObj _ hi (by omega) hb.1 rfl) (hb.turn _).2⟩
    · exact ⟨some .ret, _, run_endLoop (P := P) hb.1 (by simp [lp]), hstop _ pre _ (Nat.le_refl _) hSp (hIx.putObj _ hi (by omega) hb.1 rfl) (hb.turn _).2⟩
end Go.Proofs.Ytpimpdgibcjbeaa
