import Derived.Test.YtaaeiljeanfinaaNetE
namespace Go.Proofs.Ytaaeiljeanfinaa
open Go Go.RowKit
set_option linter.unusedVariables false
set_option linter.unusedSimpArgs false

/-- put: the state, the number, the error behind it. -/
def NetS.full (s : NetS) (body : ByteArray) : Prop := 65536 < body.size ∨ 4096 ≤ s.l.length ∨ 1099511627776 ≤ s.next
def NetS.add (s : NetS) (src dst : Int) (body : ByteArray) : NetS := { s with l := s.l ++ [⟨s.next, src, dst, body⟩], next := s.next + 1 }

theorem net_put_full (F : Nat → Prop) (g : Nat) (s : NetS) (x : Letter) (w : World) (h : NetAt w F g s) (hf : s.full x.body) (hs : x.body.size ≤ 140737488355328) :
    Calls Try.prog 24 #[.pointer (some ⟨g, 0, none⟩), .agg #[.int .i64 x.id, .int .i64 x.src, .int .i64 x.dst, .string x.body]] w fun e w' => e = .returned (.tuple #[.int .i64 0, .int .i64 2]) ∧ Below w.heap.size w w' := by
  obtain ⟨vl, vp, hb, h1, h2, hg, f1, f2⟩ := h
  have hlt := hb.lt
  have hc1 := hb.cell 1
  have hc2 := hb.cell 2
  obtain ⟨A, c, rfl⟩ := h1.shape
  clear hb h1 h2
  unfold NetS.full at hf
  generalize s.l.length = n at *
  generalize s.next = nx at *
  generalize x.body = bd at *
  by_cases g1 : 65536 < bd.size
  · have i1 : (65536 : Int) < (bd.size : Int) := by omega
    clear hf
    go_enter Try.func24, Try.ntmps24
    go_wp2
    go_ret2
    exact ⟨rfl, (Below.refl _ _).alloc (Nat.le_refl _) _⟩
  · have i1 : (bd.size : Int) ≤ 65536 := by omega
    by_cases g2 : 4096 ≤ n
    · have i2 : (4096 : Int) ≤ (n : Int) := by omega
      clear hf g1 g2
      go_enter Try.func24, Try.ntmps24
      go_wp2
      go_ret2
      exact ⟨rfl, (Below.refl _ _).alloc (Nat.le_refl _) _⟩
    · have i2 : (n : Int) < 4096 := by omega
      have i3 : 1099511627776 ≤ nx := by omega
      clear hf g1 g2
      go_enter Try.func24, Try.ntmps24
      go_wp2
      go_ret2
      exact ⟨rfl, (Below.refl _ _).alloc (Nat.le_refl _) _⟩

set_option maxRecDepth 100000 in
set_option maxHeartbeats 1000000 in
theorem net_put_ok (F : Nat → Prop) (g : Nat) (s : NetS) (x : Letter) (w : World) (h : NetAt w F g s) (hf : ¬ s.full x.body) (hn : 0 ≤ s.next) :
    Calls Try.prog 24 #[.pointer (some ⟨g, 0, none⟩), .agg #[.int .i64 x.id, .int .i64 x.src, .int .i64 x.dst, .string x.body]] w fun e w' => e = .returned (.tuple #[.int .i64 s.next, .int .i64 0]) ∧ Kept w w' F ∧ NetAt w' (grow F w w') g (s.add x.src x.dst x.body) := by
  obtain ⟨vl, vp, hb, h1, h2, hg, f1, f2⟩ := h
  have hlt := hb.lt
  have hc1 := hb.cell 1
  have hc2 := hb.cell 2
  have hfz := hb.frozen
  obtain ⟨A, c, rfl⟩ := h1.shape
  have HB := Lib.hid hb
  have H1 := Lib.hid h1
  have H2 := Lib.hid h2
  have a1 : (x.body.size : Int) ≤ 65536 := by unfold NetS.full at hf; omega
  have a2 : (s.l.length : Int) < 4096 := by unfold NetS.full at hf; omega
  have a3 : s.next < 1099511627776 := by unfold NetS.full at hf; omega
  have hgl : g ≠ w.heap.size := by omega
  clear hb h1 h2 hf
  go_enter Try.func24, Try.ntmps24
  go_wp2
  have hk0 := Lib.hid (show Kept w ((w.setCell ⟨g, 2, none⟩ (.int .i64 (s.next + 1))).alloc (.cells #[.int .i64 s.next, .int .i64 x.src, .int .i64 x.dst, .string x.body] 38)) (fun k => k = g) from (((Kept.refl w (fun k => k = g)).setCell (p := ⟨g, 2, none⟩) (.inl rfl) _).alloc _))
  have hB0 := Lib.hid (show Blk ((w.setCell ⟨g, 2, none⟩ (.int .i64 (s.next + 1))).alloc (.cells #[.int .i64 s.next, .int .i64 x.src, .int .i64 x.dst, .string x.body] 38)) g 62 #[.int .i64 s.nodes, .slice A s.l.length c, .int .i64 (s.next + 1), vp] from (HB.out.set_ 2 _).alloc _)
  have hX0 := Lib.hid (show Blk ((w.setCell ⟨g, 2, none⟩ (.int .i64 (s.next + 1))).alloc (.cells #[.int .i64 s.next, .int .i64 x.src, .int .i64 x.dst, .string x.body] 38)) w.heap.size 38 #[.int .i64 s.next, .int .i64 x.src, .int .i64 x.dst, .string x.body] from by simpa using Blk.new (w.setCell ⟨g, 2, none⟩ (.int .i64 (s.next + 1))) _ _)
  have hz0 : ((w.setCell ⟨g, 2, none⟩ (.int .i64 (s.next + 1))).alloc (.cells #[.int .i64 s.next, .int .i64 x.src, .int .i64 x.dst, .string x.body] 38)).heap.size = w.heap.size + 1 := by simp
  generalize ((w.setCell ⟨g, 2, none⟩ (.int .i64 (s.next + 1))).alloc (.cells #[.int .i64 s.next, .int .i64 x.src, .int .i64 x.dst, .string x.body] 38)) = W0 at hk0 hB0 hX0 hz0 ⊢
  have hR0 := Lib.hid (H1.out.kept hk0.out (fun k e h => H1.out.ne_blk HB.out (by decide) (h ▸ e)))
  have hP0 := Lib.hid (H2.out.kept hk0.out (fun k e h => H2.out.ne_blk HB.out (by decide) (h ▸ e)))
  have hZ := Lib.hid hz0
  have b1 := hB0.out.cell 1
  have x0 := hX0.out.cell 0
  have x1 := hX0.out.cell 1
  have x2 := hX0.out.cell 2
  have x3 := hX0.out.cell 3
  have fg := hB0.out.frozen 1
  have hle : (s.l.length + 1) * 40 ≤ 140737488355328 := by omega
  have h1 : Hid (∀ x : Letter, ∀ u ∈ Letter.cells x, u.oneCell' = true) := Lib.hid (fun x u hu => by simp [Letter.cells] at hu; rcases hu with rfl | rfl | rfl | rfl <;> rfl)
  have hgW := hB0.out.lt
  have hwW : w.heap.size < W0.heap.size := by omega
  clear hz0 hc1 hc2 hfz
  go_region_law (refine Row.append_step (by rfl) (.tmp 41) (.tmp 43) 41 38 (.agg #[.int .i64 0, .int .i64 0, .int .i64 0, .string ⟨#[]⟩]) 4 40 (by rfl) Try.underlying41 info_letters rfl (by decide) (by decide) (.slice A s.l.length c) s.l [(⟨s.next, x.src, x.dst, x.body⟩ : Letter)] (by rfl) ⟨W0.heap.size, 0, none⟩ 1 1 (by rfl) (hR0.out.drew.alloc _) rfl (fun _ => rfl) (news_lit Letter.cells W0.drew 38 (⟨s.next, x.src, x.dst, x.body⟩ : Letter) #[.int .i64 s.next, .int .i64 x.src, .int .i64 x.dst, .string x.body] rfl) h1.out hle ?_; intro v1 w1 hR hG hO; have HR := Lib.hid hR; have HG := Lib.hid hG; have HO := Lib.hid hO; obtain ⟨A1, m1, c1, rfl⟩ := hR.some_slice; have hgc : w1.cell? ⟨g, 1, none⟩ = some (.slice A s.l.length c) := ((hB0.out.drew.alloc _).grown hG (fun e => hR0.out.ne_blk hB0.out (by decide) e.symm)).cell 1; have hgf : w1.frozen? ⟨g, 1, none⟩ = false := ((hB0.out.drew.alloc _).grown hG (fun e => hR0.out.ne_blk hB0.out (by decide) e.symm)).frozen 1; have hx1 : w1.cell? ⟨w.heap.size, 0, none⟩ = some (.int .i64 s.next) := ((hX0.out.drew.alloc _).grown hG (fun e => by have := H1.out.lt e.symm; omega)).cell 0; have hne' : g ≠ w.heap.size := hgl; clear hR hG hO)
  all_goals
    go_wp2
    go_ret2
    have hap := Lib.hid (H2.out.apart H1.out (by decide))
    have hgg := (hB0.out.drew.alloc (.cells #[.int .i64 s.next, .int .i64 x.src, .int .i64 x.dst, .string x.body] 38)).grown HG.out (fun e => hR0.out.ne_blk hB0.out (by decide) e.symm)
    have hks : Kept w1 (w1.setCell ⟨g, 1, none⟩ (.slice A1 m1 c1)) (fun k => k = g) := (Kept.refl w1 (fun k => k = g)).setCell (p := ⟨g, 1, none⟩) (.inl rfl) _
    refine ⟨rfl, ?_, ?_⟩
    · refine (hk0.out.mono fun k _ h => h ▸ hg).then_ (S' := fun k => k = g ∨ (Value.slice A s.l.length c).ownBlock = some k) ((((Kept.refl W0 _).drew.alloc _).grown HG.out (fun k hk => .inl (.inr hk))).setCell (p := ⟨g, 1, none⟩) (.inl (.inl rfl)) _) (fun k h => .inl ?_)
      rcases h with h | h
      · exact h ▸ hg
      · exact f1 k h
    · refine ⟨_, vp, ((hB0.out.drew.alloc _).grown HG.out (fun e => hR0.out.ne_blk hB0.out (by decide) e.symm)).set_ 1 _, ?_, ?_, .inl hg, ?_, fun k e => .inl (f2 k e)⟩
      · exact HR.out.kept hks (fun k e h => HR.out.ne_blk hgg (by decide) (h ▸ e))
      · have hp1 := (hP0.out.drew.alloc (.cells #[.int .i64 s.next, .int .i64 x.src, .int .i64 x.dst, .string x.body] 38)).grown HG.out (fun k e h => hap.out k e h.symm)
        exact hp1.kept hks (fun k e h => hp1.ne_blk hgg (by decide) (h ▸ e))
      · intro k e
        have hkl := HR.out.lt e
        rcases HO.out with h | h
        · exact .inl (f1 k (h ▸ e))
        · refine .inr ⟨?_, by simpa using hkl⟩
          rw [h] at e
          simp at e
          omega
end Go.Proofs.Ytaaeiljeanfinaa
