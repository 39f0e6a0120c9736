-- written by a program of ours (wip/printx: the kit's print, changed in a few places)
import Derived.Test.YtdfdlajfjcakaaaGreatPAllx0
namespace Go.Proofs.YtdfdlajfjcakaaaGreat.PAll
open Go.RowKit Go.Proofs.YtdfdlajfjcakaaaGreat.Extra Go.Proofs.YtdfdlajfjcakaaaGreatW.PrintWords Go.Proofs.YtdfdlajfjcakaaaGreatW.PrintLast Go.Proofs.YtdfdlajfjcakaaaGreatW.PrintMore
attribute [local go_sem] max2_int min2_int max_two min_two max_three min_three max_four min_four   -- for this text's walks alone
set_option linter.unusedVariables false
set_option linter.unusedSimpArgs false

/-- Blocks of other types than these have not turned; nor has anything below base. -/
structure TK (ts : List Nat) (base : Nat) (w w' : World) : Prop where
  below : Below base w w'
  keep : ∀ k, k < w.heap.size → (∀ cells q, q ∈ ts → w.heap[k]? ≠ some (.cells cells q (0, 0))) → w'.heap[k]? = w.heap[k]?
theorem TK.refl (ts : List Nat) (base : Nat) (w : World) : TK ts base w w := ⟨Below.refl _ _, fun _ _ _ => rfl⟩
theorem TK.blk {ts : List Nat} {base : Nat} {w w' : World} (h : TK ts base w w') {k t : Nat} {cells : Array Value} (hk : w.heap[k]? = some (.cells cells t (0, 0))) (ht : t ∉ ts) : w'.heap[k]? = some (.cells cells t (0, 0)) := by
  have hlt : k < w.heap.size := by
    rcases Nat.lt_or_ge k w.heap.size with h | h
    · exact h
    · rw [Array.getElem?_eq_none h] at hk; cases hk
  rw [h.keep k hlt, hk]
  intro c q hq he
  rw [hk] at he
  injection he with he
  injection he with _ he
  subst he
  exact ht hq
theorem TK.trans {ts : List Nat} {base : Nat} {a b c : World} (h : TK ts base a b) (k : TK ts base b c) : TK ts base a c := by
  refine ⟨⟨k.below.os.trans h.below.os, k.below.tape.trans h.below.tape, k.below.output.trans h.below.output, Nat.le_trans h.below.size k.below.size, fun i hi => ?_⟩, fun i hi hn => ?_⟩
  · by_cases hlt : i < b.heap.size
    · exact (k.below.block i hi).trans (h.below.block i hi)
    · exact (k.below.block i hi).trans (h.below.block i hi)
  · have e1 := h.keep i hi hn
    exact (k.keep i (Nat.lt_of_lt_of_le hi h.below.size) (fun c q hq => by rw [e1]; exact hn c q hq)).trans e1
theorem TK.alloc {ts : List Nat} {base : Nat} {a b : World} (h : TK ts base a b) (hb : base ≤ a.heap.size) (o : Obj) : TK ts base a (b.alloc o) :=
  ⟨h.below.alloc (Nat.le_trans hb h.below.size) o, fun i hi hn => (Below.heap_alloc b o i (Nat.lt_of_lt_of_le hi h.below.size)).trans (h.keep i hi hn)⟩
theorem TK.drew {ts : List Nat} {base : Nat} {a b : World} (h : TK ts base a b) : TK ts base a b.drew := ⟨h.below.drew, h.keep⟩
theorem TK.drewN {ts : List Nat} {base : Nat} {a b : World} (h : TK ts base a b) (n : Nat) : TK ts base a (b.drewN n) := ⟨pw_below_drewN h.below n, h.keep⟩
theorem TK.set {ts : List Nat} {base : Nat} {a b : World} (h : TK ts base a b) {g t : Nat} {cells : Array Value} (hg : b.heap[g]? = some (.cells cells t (0, 0))) (ht : t ∈ ts) (hb : base ≤ g) (j : Nat) (u : Value) : TK ts base a (b.setCell ⟨g, j, none⟩ u) := by
  refine ⟨h.below.setCell hb u, fun i hi hn => ?_⟩
  have e1 := h.keep i hi hn
  by_cases hig : i = g
  · subst hig
    rw [e1] at hg
    exact absurd hg (hn _ _ ht)
  · exact (Below.heap_setCell b ⟨g, j, none⟩ u i hig).trans e1
theorem TK.grown {ts : List Nat} {base : Nat} {a b c : World} (h : TK ts base a b) {row : Option Nat} (hg : b.grownBy c row) (hb : base ≤ a.heap.size) (hr : ∀ k, row = some k → base ≤ k ∧ ∃ cells q, q ∈ ts ∧ b.heap[k]? = some (.cells cells q (0, 0))) : TK ts base a c := by
  have hm : ∀ i, i < a.heap.size → row ≠ some i → c.heap[i]? = b.heap[i]? := fun i hi hn => hg.block i (Nat.lt_of_lt_of_le hi h.below.size) (fun e => hn e.symm)
  refine ⟨⟨hg.os.trans h.below.os, hg.tape.trans h.below.tape, hg.output.trans h.below.output, Nat.le_trans h.below.size hg.size, fun i hi => ?_⟩, fun i hi hn => ?_⟩
  · by_cases he : row = some i
    · exact absurd hi (by have := (hr i he).1; omega)
    · exact (hm i (by omega) he).trans (h.below.block i hi)
  · have e1 := h.keep i hi hn
    by_cases he : row = some i
    · obtain ⟨_, cells, q, hq, hc⟩ := hr i he
      rw [e1] at hc
      exact absurd hc (hn _ _ hq)
    · exact (hm i hi he).trans e1
theorem blk_cell {w : World} {g t : Nat} {cells : Array Value} (h : w.heap[g]? = some (.cells cells t (0, 0))) (i : Nat) : w.cell? ⟨g, i, none⟩ = cells[i]? := cell_of_row w g i cells t (0, 0) h
theorem blk_frozen {w : World} {g t : Nat} {cells : Array Value} (h : w.heap[g]? = some (.cells cells t (0, 0))) (i : Nat) : w.frozen? ⟨g, i, none⟩ = false := by simp [World.frozen?, h]
theorem alloc_at {w : World} {o : Obj} {n : Nat} (h : n = w.heap.size) : (w.alloc o).heap[n]? = some o := by
  subst h
  exact heap_alloc_new w o
theorem alloc_before {w : World} {o o' : Obj} {n : Nat} (h : w.heap[n]? = some o') : (w.alloc o).heap[n]? = some o' := (Below.heap_alloc w o n (blk_lt h)).trans h
/-- A field of a number, of a text. -/
def fN (n : Int) : S136 := ⟨false, n, (⟨#[]⟩ : ByteArray)⟩
def fT (s : ByteArray) : S136 := ⟨true, 0, s⟩
/-- A writer of fields. -/
def Wr (w : World) (base g : Nat) (l : List S136) : Prop :=
  ∃ v, w.heap[g]? = some (.cells #[v] 154 (0, 0)) ∧ base ≤ g ∧ Kd.R k136 136 w base (fun _ => True) v l
theorem Wr.alloc {w : World} {base g : Nat} {l : List S136} (h : Wr w base g l) (o : Obj) : Wr (w.alloc o) base g l := by
  obtain ⟨v, h1, h2, h3⟩ := h
  exact ⟨v, alloc_before h1, h2, Kd.R_alloc h3 o⟩
/-- What a round of a writer's loop does: v1 is the list's row behind the append. -/
theorem Wr.put {w w0 w1 : World} {base g : Nat} {l l1 : List S136} {v v1 : Value} (hg : w.heap[g]? = some (.cells #[v] 154 (0, 0))) (hb : base ≤ g)
    (hR : Kd.R k136 136 w base (fun _ => True) v l) (hR1 : Kd.R k136 136 w1 base (fun _ => True) v1 l1) (hgr : w.grownBy w1 v.ownBlock)
    (ht : TK [136, 154] base w0 w) (hbase : base ≤ w0.heap.size) :
    w1.heap[g]? = some (.cells #[v] 154 (0, 0)) ∧ Wr (w1.setCell ⟨g, 0, none⟩ v1) base g l1 ∧ TK [136, 154] base w0 (w1.setCell ⟨g, 0, none⟩ v1) := by
  have hlt : g < w.heap.size := blk_lt hg
  have hne : some g ≠ v.ownBlock := Kd.R_ne hR hg (by decide)
  have h1 : w1.heap[g]? = some (.cells #[v] 154 (0, 0)) := (hgr.block g hlt hne).trans hg
  refine ⟨h1, ⟨v1, ?_, hb, Kd.R_set hR1 h1 (by intro q hq; simp [k136, Kd.iso, Kd.pair, Kd.bool, Kd.int, Kd.string, Kd.scalar] at hq; subst hq; decide) 0 v1⟩, ?_⟩
  · simp [World.setCell, Array.getElem?_modify, h1]
  · refine TK.set (ht.grown hgr hbase fun k hk => ?_) h1 (by simp) hb 0 v1
    obtain ⟨cells, hc⟩ := Kd.R_typed hR k hk
    exact ⟨Kd.R_base hR k hk, cells, _, by simp, hc⟩
theorem R_form3 {α : Type} {d : Kd α} {e : Nat} {w : World} {base : Nat} {ok : Nat → Prop} {v : Value} {xs : List α} (h : d.R e w base ok v xs) : ∃ A n c, v = .slice A n c := by
  obtain ⟨A, c, e⟩ := Kd.R_slice h
  exact ⟨A, _, c, e⟩
theorem take_snoc_ {α : Type} (l : List α) (k : Nat) (h : k < l.length) : l.take (k + 1) = l.take k ++ [l[k]] := by
  rw [List.take_succ_eq_append_getElem h]
set_option maxHeartbeats 4000000 in
set_option maxRecDepth 100000 in
theorem op_writer_num.calls (base g a : Nat) (xs : List Int) (l : List S136) (w : World) (hW : Wr w base g l) (hbase : base ≤ w.heap.size) (ha : w.heap[a]? = some (.cells (nums .i64 xs).toArray 3 (0, 0)))
    (hl : l.length + xs.length ≤ 4398046511104) :
    Calls Tryz.prog 85 #[.pointer (some ⟨g, 0, none⟩), .slice (some ⟨a, 0, none⟩) xs.length xs.length] w fun e w' => e = .returned (.tuple #[]) ∧ Wr w' base g (l ++ xs.map fN) ∧ TK [136, 154] base w w' := by
  have hu := Tryz.underlying136
  have HW := Aside0.mk hW
  have HA := Aside0.mk ha
  clear hW ha
  go_enter Tryz.func85, Tryz.ntmps85
  go_wp2
  go_loopw [8] (fun v wr => ∃ i : Nat, i ≤ xs.length ∧ v = .int .i64 i ∧ Aside0 (Wr wr base g (l ++ (xs.take i).map fN)) ∧ Aside0 (TK [136, 154] base w wr)) (fun v _ => xs.length - (intOf v).toNat)
  case atStart => exact ⟨0, by omega, rfl, by simpa using HW, Aside0.mk (TK.refl _ _ _)⟩
  case round =>
    obtain ⟨i, hi, rfl, HI, HT⟩ := hrel
    by_cases hlt : i < xs.length
    · obtain ⟨v, hg, hb, hR⟩ := HI.out
      have hcell : wr.cell? ⟨g, 0, none⟩ = some v := blk_cell hg 0
      have hx : wr.cell? ⟨a, i, none⟩ = some (.int .i64 xs[i]) := by
        rw [blk_cell (HT.out.blk HA.out (by decide)) i]
        simp [nums, hlt]
      have hfr : wr.frozen? ⟨g, 0, none⟩ = false := blk_frozen hg 0
      have HG := Aside0.mk hg
      have HR := Aside0.mk hR
      have HB := Aside0.mk hb
      clear hg hR hb
      go_wp2_with (((with_reducible refine gate_builtin (b := .append) (xs := #[.tmp 16, .tmp 19]) rfl ?_); at_builtin; refine Kd.R_append k136 (w0 := w) base rfl (.tmp 16) (.tmp 19) 132 136 (.agg #[(.bool false), (.int .i64 0), (.string ⟨#[]⟩)]) 32 rfl Tryz.underlying132 info136 rfl (by decide) (by omega) v (l ++ (xs.take i).map fN) (fN xs[i]) [.bool false, .int .i64 xs[i], .string (⟨#[]⟩ : ByteArray)] (fun _ => True) (fun _ => False) rfl rfl ?aP (fun _ hk => hk.elim) (fun _ _ => trivial) ?aO ?aB ?aS ?aL ?_; (case aP => exact k136_mkM _ _ _ (fN xs[i])); (case aO => exact HR.out); (case aB => exact HT.out.below); (case aS => exact Nat.le_trans hbase HT.out.below.size); (case aL => rw [List.length_append, List.length_map, List.length_take]; omega); intro v1 w1 hR1 hb1 hg1 hat1; obtain ⟨Ao, no, co, eo⟩ := R_form3 hR1; subst eo; have HP := Aside0.mk (Wr.put HG.out HB.out HR.out hR1 hg1 HT.out hbase); clear hR1 hb1 hg1 hat1; have hc1 := blk_cell HP.out.1 0; have hf1 := blk_frozen HP.out.1 0))
      go_roundw
      case rel => exact ⟨i + 1, by omega, by go_num, by rw [take_snoc_ _ _ hlt, List.map_append, ← List.append_assoc, List.map_cons, List.map_nil]; exact Aside0.mk HP.out.2.1, Aside0.mk HP.out.2.2⟩
      case measure => simp [intOf]; omega
    · have hil : i = xs.length := by omega
      subst hil
      go_wp2
      go_end0
      exact ⟨rfl, by have := HI.out; rw [List.take_length] at this; exact this, HT.out⟩
set_option maxHeartbeats 4000000 in
set_option maxRecDepth 100000 in
theorem op_writer_text.calls (base g a : Nat) (xs : List ByteArray) (l : List S136) (w : World) (hW : Wr w base g l) (hbase : base ≤ w.heap.size) (ha : w.heap[a]? = some (.cells (pw_strs xs).toArray 9 (0, 0)))
    (hl : l.length + xs.length ≤ 4398046511104) :
    Calls Tryz.prog 86 #[.pointer (some ⟨g, 0, none⟩), .slice (some ⟨a, 0, none⟩) xs.length xs.length] w fun e w' => e = .returned (.tuple #[]) ∧ Wr w' base g (l ++ xs.map fT) ∧ TK [136, 154] base w w' := by
  have hu := Tryz.underlying136
  have HW := Aside0.mk hW
  have HA := Aside0.mk ha
  clear hW ha
  go_enter Tryz.func86, Tryz.ntmps86
  go_wp2
  go_loopw [8] (fun v wr => ∃ i : Nat, i ≤ xs.length ∧ v = .int .i64 i ∧ Aside0 (Wr wr base g (l ++ (xs.take i).map fT)) ∧ Aside0 (TK [136, 154] base w wr)) (fun v _ => xs.length - (intOf v).toNat)
  case atStart => exact ⟨0, by omega, rfl, by simpa using HW, Aside0.mk (TK.refl _ _ _)⟩
  case round =>
    obtain ⟨i, hi, rfl, HI, HT⟩ := hrel
    by_cases hlt : i < xs.length
    · obtain ⟨v, hg, hb, hR⟩ := HI.out
      have hcell : wr.cell? ⟨g, 0, none⟩ = some v := blk_cell hg 0
      have hx : wr.cell? ⟨a, i, none⟩ = some (.string xs[i]) := by
        rw [blk_cell (HT.out.blk HA.out (by decide)) i]
        simp [pw_strs, hlt]
      have hfr : wr.frozen? ⟨g, 0, none⟩ = false := blk_frozen hg 0
      have HG := Aside0.mk hg
      have HR := Aside0.mk hR
      have HB := Aside0.mk hb
      clear hg hR hb
      go_wp2_with (((with_reducible refine gate_builtin (b := .append) (xs := #[.tmp 16, .tmp 19]) rfl ?_); at_builtin; refine Kd.R_append k136 (w0 := w) base rfl (.tmp 16) (.tmp 19) 132 136 (.agg #[(.bool false), (.int .i64 0), (.string ⟨#[]⟩)]) 32 rfl Tryz.underlying132 info136 rfl (by decide) (by omega) v (l ++ (xs.take i).map fT) (fT xs[i]) [.bool true, .int .i64 0, .string xs[i]] (fun _ => True) (fun _ => False) rfl rfl ?aP (fun _ hk => hk.elim) (fun _ _ => trivial) ?aO ?aB ?aS ?aL ?_; (case aP => exact k136_mkM _ _ _ (fT xs[i])); (case aO => exact HR.out); (case aB => exact HT.out.below); (case aS => exact Nat.le_trans hbase HT.out.below.size); (case aL => rw [List.length_append, List.length_map, List.length_take]; omega); intro v1 w1 hR1 hb1 hg1 hat1; obtain ⟨Ao, no, co, eo⟩ := R_form3 hR1; subst eo; have HP := Aside0.mk (Wr.put HG.out HB.out HR.out hR1 hg1 HT.out hbase); clear hR1 hb1 hg1 hat1; have hc1 := blk_cell HP.out.1 0; have hf1 := blk_frozen HP.out.1 0))
      go_roundw
      case rel => exact ⟨i + 1, by omega, by go_num, by rw [take_snoc_ _ _ hlt, List.map_append, ← List.append_assoc, List.map_cons, List.map_nil]; exact Aside0.mk HP.out.2.1, Aside0.mk HP.out.2.2⟩
      case measure => simp [intOf]; omega
    · have hil : i = xs.length := by omega
      subst hil
      go_wp2
      go_end0
      exact ⟨rfl, by have := HI.out; rw [List.take_length] at this; exact this, HT.out⟩

end Go.Proofs.YtdfdlajfjcakaaaGreat.PAll
