import Derived.Test.YtpimpdgibcjbeaaRlB
namespace Go.Proofs.Ytpimpdgibcjbeaa
open Go Go.RowKit
set_option linter.unusedVariables false
set_option linter.unusedSimpArgs false

theorem info_entries : (Try.prog.info? 44).map (fun i => (i.zero, i.size, i.bytes)) = some (some (.agg #[.int .i64 0, .string ⟨#[]⟩]), 2, 24) := by kernel_rfl
def LogPost (w : World) (F : Nat → Prop) (g : Nat) (s : LogS) (w' : World) : Prop := Kept w w' F ∧ LogAt w' (grow F w w') g s
set_option maxRecDepth 100000 in
set_option maxHeartbeats 1000000 in
/-- An entry that is taken. -/
theorem log_append_ok (F : Nat → Prop) (g : Nat) (s : LogS) (x : Ent) (w : World) (h : LogAt w F g s) (hb0 : 0 ≤ s.base) (hl : s.base + s.l.length < 1048576) (ht : mayT x.term = true) (hr : s.lastTerm ≤ x.term) (hs : x.data.size ≤ 4096) :
    Calls Try.prog 18 #[.pointer (some ⟨g, 0, none⟩), .agg #[.int .i64 x.term, .string x.data]] w fun e w' => e = .returned (.tuple #[.int .i64 (s.last + 1), .int .i64 0]) ∧ LogPost w F g ⟨s.base, s.term, s.l ++ [x]⟩ w' := by
  have hlast := log_last F g s _ (h.below ((Below.refl _ w).alloc (Nat.le_refl _) (.cells #[.int .i64 x.term, .string x.data] 44))) hb0 (by omega) (by omega)
  have hlt := h.lt
  have hgl : g ≠ w.heap.size := by omega
  have H := Lib.hid h
  have a1 : (x.data.size : Int) ≤ 4096 := by omega
  have hla : s.last < 1048576 ∧ 0 ≤ s.last := by unfold LogS.last; omega
  have a2 : s.last < 1048576 := hla.1
  have a20 : 0 ≤ s.last := hla.2
  generalize hLT : s.lastTerm = lt at hlast hr
  generalize hLA : s.last = la at hlast a2 a20 ⊢
  clear h hLT hla hLA
  go_enter Try.func18, Try.ntmps18
  go_wp2_with (fail)
  refine hlast.mono ?_
  rintro e w2 ⟨rfl, hb2⟩
  clear hlast
  have hX2 := Lib.hid ((Blk.new w 44 #[.int .i64 x.term, .string x.data]).kept (Kept.of_below hb2 fun _ => False) (fun h => h))
  have x0 := hX2.out.cell 0
  have x1 := hX2.out.cell 1
  have hwW := hX2.out.lt
  go_wp2_with (fail)
  refine (may_calls x.term w2).mono ?_
  rw [ht]
  rintro e w3 ⟨rfl, hw3⟩
  obtain rfl := hw3.symm
  clear hw3 ht
  have hk0 := Lib.hid (show Kept w w2 (fun _ => False) from (Kept.of_below (below_next ((Below.refl _ w).alloc (Nat.le_refl _) _) hb2) _))
  have hL2 := Lib.hid (H.out.kept hk0.out (fun _ _ _ h => h))
  clear hb2
  obtain ⟨vl, hb, h1, hg, f1⟩ := H.out
  obtain ⟨A, c, rfl⟩ := h1.shape
  have HB := Lib.hid hb
  have H1 := Lib.hid h1
  have hB0 := Lib.hid (hb.kept hk0.out (fun h => h))
  have hR0 := Lib.hid (h1.kept hk0.out (fun _ _ h => h))
  have b1 := hB0.out.cell 2
  have fg := hB0.out.frozen 2
  have hle : (s.l.length + 1) * 24 ≤ 140737488355328 := by omega
  have h1c : Hid (∀ x : Ent, ∀ u ∈ Ent.cells x, u.oneCell' = true) := Lib.hid (fun x u hu => by simp [Ent.cells] at hu; rcases hu with rfl | rfl <;> rfl)
  have hgW := hB0.out.lt
  clear hb h1
  go_wp2_with (fail)
  go_region_law (first
    | (refine Row.append_step (by rfl) (.tmp 36) (.tmp 38) 36 44 (.agg #[.int .i64 0, .string ⟨#[]⟩]) 2 24 (by rfl) Try.underlying36 info_entries rfl (by decide) (by decide) (.slice A s.l.length c) s.l [x] (by rfl) ⟨w2.heap.size, 0, none⟩ 1 1 (by rfl) (hR0.out.drew.alloc _) rfl (fun _ => rfl) (news_lit Ent.cells w2.drew 44 x #[.int .i64 x.term, .string x.data] rfl) h1c.out hle ?_; intro v1 w1 hR hG hO; have HR := Lib.hid hR; have HG := Lib.hid hG; have HO := Lib.hid hO; obtain ⟨A1, m1, c1, rfl⟩ := hR.some_slice; have hgc : w1.cell? ⟨g, 2, none⟩ = some (.slice A s.l.length c) := ((hB0.out.drew.alloc _).grown hG (fun e => hR0.out.ne_blk hB0.out (by decide) e.symm)).cell 2; have hgf : w1.frozen? ⟨g, 2, none⟩ = false := ((hB0.out.drew.alloc _).grown hG (fun e => hR0.out.ne_blk hB0.out (by decide) e.symm)).frozen 2; have hx1 : w1.cell? ⟨w.heap.size, 0, none⟩ = some (.int .i64 x.term) := ((hX2.out.drew.alloc _).grown hG (fun e => by have := H1.out.lt e.symm; omega)).cell 0; have hne' : g ≠ w.heap.size := hgl; clear hR hG hO)
    | fail)
  all_goals
    go_wp2
    go_ret2
    have hgg := (hB0.out.drew.alloc (.cells #[.int .i64 x.term, .string x.data] 44)).grown HG.out (fun e => hR0.out.ne_blk hB0.out (by decide) e.symm)
    have hks : Kept w1 (w1.setCell ⟨g, 2, none⟩ (.slice A1 m1 c1)) (fun k => k = g) := (Kept.refl w1 (fun k => k = g)).setCell (p := ⟨g, 2, none⟩) (.inl rfl) _
    refine ⟨rfl, ?_, ?_⟩
    · refine (hk0.out.mono (S' := F) fun k _ h => h.elim).then_ (S' := fun k => k = g ∨ (Value.slice A s.l.length c).ownBlock = some k) ((((Kept.refl w2 _).drew.alloc _).grown HG.out (fun k hk => .inl (.inr hk))).setCell (p := ⟨g, 2, none⟩) (.inl (.inl rfl)) _) (fun k h => .inl ?_)
      rcases h with h | h
      · exact h ▸ hg
      · exact f1 k h
    · refine ⟨_, hgg.set_ 2 _, ?_, .inl hg, ?_⟩
      · exact HR.out.kept hks (fun k e h => HR.out.ne_blk hgg (by decide) (h ▸ e))
      · intro k e
        have hkl := HR.out.lt e
        rcases HO.out with h | h
        · exact .inl (f1 k (h ▸ e))
        · refine .inr ⟨?_, by simpa using hkl⟩
          rw [h] at e
          simp at e
          have := hk0.out.size
          omega
end Go.Proofs.Ytpimpdgibcjbeaa
