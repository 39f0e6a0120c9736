import Derived.Test.YtaaeiljeanfinaaNetD
namespace Go.Proofs.Ytaaeiljeanfinaa
open Go Go.RowKit
set_option linter.unusedVariables false
set_option linter.unusedSimpArgs false

structure NetS where (nodes next : Int) (l : List Letter) (parted : List Pr)
/-- A net at block g; what it owns lies in F. -/
def NetAt (w : World) (F : Nat → Prop) (g : Nat) (s : NetS) : Prop :=
  ∃ vl vp, Blk w g 62 #[.int .i64 s.nodes, vl, .int .i64 s.next, vp] ∧ Row w 38 4 Letter.cells vl s.l ∧ Row w 69 2 Pr.cells vp s.parted ∧ F g ∧ (∀ k, vl.ownBlock = some k → F k) ∧ (∀ k, vp.ownBlock = some k → F k)
theorem NetAt.kept {w w' : World} {F S : Nat → Prop} {g : Nat} {s : NetS} (h : NetAt w F g s) (hk : Kept w w' S) (hn : ∀ k, k < w.heap.size → F k → ¬ S k) : NetAt w' F g s := by
  obtain ⟨vl, vp, hb, h1, h2, hg, f1, f2⟩ := h
  exact ⟨vl, vp, hb.kept hk (hn g hb.lt hg), h1.kept hk (fun k e => hn k (h1.lt e) (f1 k e)), h2.kept hk (fun k e => hn k (h2.lt e) (f2 k e)), hg, f1, f2⟩
theorem NetAt.below {w w' : World} {F : Nat → Prop} {g : Nat} {s : NetS} (h : NetAt w F g s) (hb : Below w.heap.size w w') : NetAt w' F g s := h.kept (Kept.of_below hb fun _ => False) (fun _ _ _ h => h)
theorem NetAt.mono {w : World} {F F' : Nat → Prop} {g : Nat} {s : NetS} (h : NetAt w F g s) (hf : ∀ k, k < w.heap.size → F k → F' k) : NetAt w F' g s := by
  obtain ⟨vl, vp, hb, h1, h2, hg, f1, f2⟩ := h
  exact ⟨vl, vp, hb, h1, h2, hf g hb.lt hg, fun k e => hf k (h1.lt e) (f1 k e), fun k e => hf k (h2.lt e) (f2 k e)⟩
theorem NetAt.lt {w : World} {F : Nat → Prop} {g : Nat} {s : NetS} (h : NetAt w F g s) : g < w.heap.size := by obtain ⟨vl, vp, hb, _⟩ := h; exact hb.lt

theorem not_any {α : Type} (p : α → Bool) (l : List α) : (!l.any p) = l.all (fun x => !p x) := by induction l <;> simp_all
def NetS.has (s : NetS) (x : Int) : Bool := !decide (x < 0 ∨ s.nodes ≤ x)

theorem net_known (F : Nat → Prop) (g : Nat) (s : NetS) (v : Value) (l : List Int) (w : World) (h : NetAt w F g s) (hr : Row w 3 1 icells v l) (hl : l.length ≤ 4611686018427387904) :
    Calls Try.prog 23 #[.pointer (some ⟨g, 0, none⟩), v] w fun e w' => e = .returned (.bool (l.all s.has)) ∧ Below w.heap.size w w' := by
  obtain ⟨vl, vp, hb, h1, h2, hg, f1, f2⟩ := h
  have hlt := hb.lt
  have hs := known_says (fun _ => False) g w.heap.size s.nodes (w.alloc (.cells #[.pointer (some ⟨g, 0, none⟩)] 22)) (by go_simp) ((World.cell?_alloc_lt _ _ _ hlt).trans (hb.cell 0)) (by simp) (by simp; omega) id id
  have hc := any_ints _ v l _ _ _ _ (hr.alloc _) hl hs (Go.Proofs.enters_of Try.func43 (by kernel_rfl) rfl)
  have e1 : l.all s.has = !(l.any fun x => decide (x < 0 ∨ s.nodes ≤ x)) := by rw [not_any]; rfl
  rw [e1]
  generalize (l.any fun x => decide (x < 0 ∨ s.nodes ≤ x)) = q at hc ⊢
  clear e1 hs h1 h2 hb hr
  go_enter Try.func23, Try.ntmps23
  go_wp2_with (fail)
  refine hc.mono ?_
  rintro e w' ⟨rfl, hb'⟩
  go_wp2
  go_ret
  exact ⟨rfl, below_next ((Below.refl _ _).alloc (Nat.le_refl _) _) hb'⟩

def NetS.find (s : NetS) (id : Int) : Int := idx (fun x : Letter => x.id == id) s.l 0
theorem net_at (F : Nat → Prop) (g : Nat) (s : NetS) (id : Int) (w : World) (h : NetAt w F g s) (hl : s.l.length ≤ 4611686018427387904) :
    Calls Try.prog 25 #[.pointer (some ⟨g, 0, none⟩), .int .i64 id] w fun e w' => e = .returned (.int .i64 (s.find id)) ∧ Below w.heap.size w w' := by
  obtain ⟨vl, vp, hb, h1, h2, hg, f1, f2⟩ := h
  have hlt := hb.lt
  have c1 := hb.cell 1
  have hs := at_says (fun _ => False) w.heap.size id (w.alloc (.cells #[.int .i64 id] 3)) (by go_simp) (by simp) (fun h => h)
  have hc := idx_letters _ vl s.l _ _ _ _ (h1.alloc _) hl hs (Go.Proofs.enters_of Try.func45 (by kernel_rfl) rfl)
  unfold NetS.find
  generalize idx (fun x : Letter => x.id == id) s.l 0 = q at hc ⊢
  obtain ⟨A, c, rfl⟩ := h1.shape
  clear hs h1 h2 hb
  go_enter Try.func25, Try.ntmps25
  go_wp2_with (fail)
  refine hc.mono ?_
  rintro e w' ⟨rfl, hb'⟩
  go_wp2
  go_ret
  exact ⟨rfl, below_next ((Below.refl _ _).alloc (Nat.le_refl _) _) hb'⟩

/-- What F has grown to. -/
def grow (F : Nat → Prop) (w w' : World) : Nat → Prop := fun k => F k ∨ (w.heap.size ≤ k ∧ k < w'.heap.size)

theorem net_pull (F : Nat → Prop) (g : Nat) (s : NetS) (i : Nat) (hi : i < s.l.length) (w : World) (h : NetAt w F g s) (hl : s.l.length ≤ 4611686018427387904) :
    Calls Try.prog 26 #[.pointer (some ⟨g, 0, none⟩), .int .i64 (i : Int)] w fun e w' => e = .returned s.l[i].val ∧ Kept w w' F ∧ NetAt w' F g { s with l := s.l.eraseIdx i } := by
  obtain ⟨vl, vp, hb, h1, h2, hg, f1, f2⟩ := h
  have hlt := hb.lt
  have hc1 := hb.cell 1
  obtain ⟨gb, c, rfl, hgl, hcl⟩ := h1.form (by omega)
  have c0 := h1.cell (fun _ => rfl) i 0 hi (by omega)
  have c1 := h1.cell (fun _ => rfl) i 1 hi (by omega)
  have c2 := h1.cell (fun _ => rfl) i 2 hi (by omega)
  have c3 := h1.cell (fun _ => rfl) i 3 hi (by omega)
  obtain ⟨x, hx⟩ : ∃ x, x = s.l[i] := ⟨_, rfl⟩
  rw [← hx] at c0 c1 c2 c3 ⊢
  simp only [Letter.cells, List.getElem?_cons_zero, List.getElem?_cons_succ, Nat.add_zero, Nat.mul_one] at c0 c1 c2 c3
  have HB := Lib.hid hb
  have H1 := Lib.hid h1
  have H2 := Lib.hid h2
  have hne : g ≠ gb := by
    rintro rfl
    obtain ⟨cells, hc⟩ := h1.typed (k := g) rfl
    exact hb.ne_ hc (by decide) rfl
  have hiz : (i : Int) < (s.l.length : Int) := by omega
  clear hx hb h1 h2
  go_enter Try.func26, Try.ntmps26
  go_wp2_with (fail)
  refine (delete_letters _ s.l i _ ((H1.out.alloc _).alloc _) hi hl).mono ?_
  rintro e w1 ⟨v', rfl, hR, hG, hO⟩
  have HR := Lib.hid hR
  have HG := Lib.hid hG
  have HO := Lib.hid hO
  obtain ⟨A', c', rfl⟩ := hR.shape
  have hz : w.heap.size + 2 ≤ w1.heap.size := by have := hG.size; simpa using this
  have hgf : w1.frozen? ⟨g, 1, none⟩ = false := (hG.frozen_far ⟨g, 1, none⟩ (by simp; omega) (by simp [Value.ownBlock, hne])).trans (((HB.out.alloc _).alloc _).frozen 1)
  have hgc : w1.cell? ⟨g, 1, none⟩ = some (.slice (some ⟨gb, 0, none⟩) s.l.length c) := (hG.cell_far ⟨g, 1, none⟩ (by simp; omega) (by simp [Value.ownBlock, hne])).trans (((HB.out.alloc _).alloc _).cell 1)
  have hb1 := Lib.hid (show Blk w1 (w.heap.size + 1) 38 #[.int .i64 x.id, .int .i64 x.src, .int .i64 x.dst, .string x.body] from (hG.block _ (by simp) (by simp [Value.ownBlock]; omega)).trans (by simpa using heap_alloc_new (w.alloc _) _))
  have hb0 := Lib.hid (show Blk w1 w.heap.size 38 #[.int .i64 0, .int .i64 0, .int .i64 0, .string ⟨#[]⟩] from (hG.block _ (by simp; omega) (by simp [Value.ownBlock]; omega)).trans ((Blk.new w _ _).alloc _))
  have hgl1 : g ≠ w.heap.size + 1 := by omega
  have hgl0 : g ≠ w.heap.size := by omega
  have x0 := hb1.out.cell 0
  have x1 := hb1.out.cell 1
  have x2 := hb1.out.cell 2
  have x3 := hb1.out.cell 3
  have y0 := hb0.out.cell 0
  have y1 := hb0.out.cell 1
  have y2 := hb0.out.cell 2
  have y3 := hb0.out.cell 3
  have z0 := hb0.out.frozen
  clear hR hG hO
  have hap := Lib.hid (H2.out.apart H1.out (by decide))
  have hxv := Lib.hid (show x.val = .agg #[.int .i64 x.id, .int .i64 x.src, .int .i64 x.dst, .string x.body] from rfl)
  have hSg : F gb := f1 gb rfl
  go_wp2
  refine bodyPost_ret (v := .agg #[.int .i64 x.id, .int .i64 x.src, .int .i64 x.dst, .string x.body]) (by simp [results, Try.results26, go_sem, y0, y1, y2, y3]) rfl ⟨by rw [hxv.out], ?_, ?_⟩
  · refine ((((((((Kept.refl w F).alloc _).alloc _).grown HG.out (fun k hk => .inl ?_)).setCell (.inl ?_) _).setCell (.inr (Nat.le_refl _)) _).setCell (.inr (Nat.le_refl _)) _).setCell (.inr (Nat.le_refl _)) _).setCell (.inr (Nat.le_refl _)) _
    · simp [Value.ownBlock] at hk; subst hk; exact hSg
    · exact hg
  · have hk : Kept w1 _ (fun k => k = g ∨ k = w.heap.size) := ((((((Kept.refl w1 (fun k => k = g ∨ k = w.heap.size)).setCell (p := ⟨g, 1, none⟩) (.inl (.inl rfl)) (.slice A' (s.l.eraseIdx i).length c')).setCell (p := ⟨w.heap.size, 0, none⟩) (.inl (.inr rfl)) (.int .i64 x.id)).setCell (p := ⟨w.heap.size, 1, none⟩) (.inl (.inr rfl)) (.int .i64 x.src)).setCell (p := ⟨w.heap.size, 2, none⟩) (.inl (.inr rfl)) (.int .i64 x.dst)).setCell (p := ⟨w.heap.size, 3, none⟩) (.inl (.inr rfl)) (.string x.body))
    refine ⟨_, vp, ((((((HB.out.alloc _).alloc _).grown HG.out (by simp [Value.ownBlock, hne])).set_ 1 _).far (p := ⟨w.heap.size, 0, none⟩) hgl0 _).far (p := ⟨w.heap.size, 1, none⟩) hgl0 _).far (p := ⟨w.heap.size, 2, none⟩) hgl0 _ |>.far (p := ⟨w.heap.size, 3, none⟩) hgl0 _, HR.out.kept hk ?_, (((H2.out.alloc _).alloc _).grown HG.out ?_).kept hk ?_, hg, ?_, f2⟩
    · intro k e; rw [HO.out] at e; simp [Value.ownBlock] at e; omega
    · intro k e h; exact hap.out k e h.symm
    · intro k e h
      rcases h with h | h
      · subst h; exact H2.out.ne_blk HB.out (by decide) e
      · have := H2.out.lt e; omega
    · intro k e; rw [HO.out] at e; exact f1 k e
end Go.Proofs.Ytaaeiljeanfinaa
