import Derived.Test.YtaaeiljeanfinaaNetH
namespace Go.Proofs.Ytaaeiljeanfinaa
open Go Go.RowKit
set_option linter.unusedVariables false
set_option linter.unusedSimpArgs false

theorem lt_of_cell {w : World} {g : Nat} {v : Value} {o : Nat} (h : w.cell? ⟨g, o, none⟩ = some v) : g < w.heap.size := World.block_lt_of_cell? w _ h
/-- The question whether two nodes are parted, of a net's row. -/
def AsksParted (w : World) (vp : Value) (l : List Pr) : Prop := ∀ W a b, Below w.heap.size w W → Calls Try.prog 27 #[vp, .agg #[.int .i64 a, .int .i64 b]] W fun e w' => e = .returned (.bool (l.any fun x : Pr => a == x.1 && b == x.2)) ∧ Below W.heap.size W w'
theorem asks_of (w : World) (vp : Value) (l : List Pr) (h : Row w 69 2 Pr.cells vp l) (hl : l.length ≤ 1000000) : AsksParted w vp l :=
  fun W a b hb => contains_pairs vp l a b W (h.kept (Kept.of_below hb fun _ => False) (fun _ _ h => h)) (by omega)

theorem net_take_none (F : Nat → Prop) (g : Nat) (s : NetS) (id : Int) (w : World) (h : NetAt w F g s) (hl : s.l.length ≤ 1000000) (hn : s.find id = -1) :
    Calls Try.prog 15 #[.pointer (some ⟨g, 0, none⟩), .int .i64 id] w fun e w' => e = .returned (.tuple #[Letter.zero.val, .int .i64 5]) ∧ Below w.heap.size w w' := by
  have ha := net_at F g s id _ (h.below ((Below.refl _ w).alloc (Nat.le_refl _) (.cells #[.int .i64 0, .int .i64 0, .int .i64 0, .string ⟨#[]⟩] 38))) (by omega)
  rw [hn] at ha
  clear h hn
  go_enter Try.func15, Try.ntmps15
  go_wp2_with (fail)
  refine ha.mono ?_
  rintro e w' ⟨rfl, hb'⟩
  have hz := hb'.size
  simp only [World.size_alloc] at hz
  have hB := Lib.hid (show Blk w' w.heap.size 38 #[.int .i64 0, .int .i64 0, .int .i64 0, .string ⟨#[]⟩] from (hb'.block _ (by simp)).trans (Blk.new w _ _))
  have y0 := hB.out.cell 0
  have y1 := hB.out.cell 1
  have y2 := hB.out.cell 2
  have y3 := hB.out.cell 3
  have z0 := hB.out.frozen
  have HB := Lib.hid hb'
  clear hb'
  go_wp2
  refine bodyPost_ret (v := .tuple #[.agg #[.int .i64 0, .int .i64 0, .int .i64 0, .string ⟨#[]⟩], .int .i64 5]) (by simp [results, Try.results15, go_sem, y0, y1, y2, y3]) rfl ⟨rfl, ?_⟩
  exact ((((below_next ((Below.refl _ w).alloc (Nat.le_refl _) _) HB.out).setCell (Nat.le_refl _) _).setCell (Nat.le_refl _) _).setCell (Nat.le_refl _) _).setCell (Nat.le_refl _) _

set_option maxHeartbeats 1000000 in
set_option maxRecDepth 100000 in
theorem net_take_parted (F : Nat → Prop) (g : Nat) (s : NetS) (id : Int) (i : Nat) (hi : i < s.l.length) (w : World) (h : NetAt w F g s) (hl : s.l.length ≤ 1000000) (hlp : s.parted.length ≤ 1000000) (hn : s.find id = (i : Int)) (hp : s.isParted s.l[i].src s.l[i].dst = true) :
    Calls Try.prog 15 #[.pointer (some ⟨g, 0, none⟩), .int .i64 id] w fun e w' => e = .returned (.tuple #[Letter.zero.val, .int .i64 4]) ∧ Below w.heap.size w w' := by
  have ha := net_at F g s id _ (h.below ((Below.refl _ w).alloc (Nat.le_refl _) (.cells #[.int .i64 0, .int .i64 0, .int .i64 0, .string ⟨#[]⟩] 38))) (by omega)
  rw [hn] at ha
  obtain ⟨vl, vp, hb, r1, r2, hg', f1, f2⟩ := h
  obtain ⟨gb, c, rfl, hgl, hcl⟩ := r1.form (by omega)
  have HA := Lib.hid (asks_of w vp s.parted r2 hlp)
  have hglt := hb.lt
  have hc1 := hb.cell 1
  have hc3 := hb.cell 3
  have c1 := r1.cell (fun _ => rfl) i 1 hi (by omega)
  have c2 := r1.cell (fun _ => rfl) i 2 hi (by omega)
  unfold NetS.isParted at hp
  generalize s.l[i] = x at c1 c2 hp
  simp only [Letter.cells, List.getElem?_cons_zero, List.getElem?_cons_succ, Nat.add_zero, Nat.mul_one] at c1 c2
  obtain ⟨Ap, np, cp, rfl⟩ := r2.some_slice
  have HPa := Lib.hid hp
  clear hb r1 r2 hn hp
  have hiz : (0 : Int) ≤ (i : Int) := by omega
  have hiz2 : (i : Int) < (s.l.length : Int) := by omega
  go_enter Try.func15, Try.ntmps15
  go_wp2_with (fail)
  refine ha.mono ?_
  rintro e w' ⟨rfl, hb'⟩
  have hz := hb'.size
  simp only [World.size_alloc] at hz
  have hB := Lib.hid (show Blk w' w.heap.size 38 #[.int .i64 0, .int .i64 0, .int .i64 0, .string ⟨#[]⟩] from (hb'.block _ (by simp)).trans (Blk.new w _ _))
  have d1 : w'.cell? ⟨g, 1, none⟩ = _ := (hb'.cell (p := ⟨g, 1, none⟩) (by simp; omega)).trans ((World.cell?_alloc_lt _ _ _ hglt).trans hc1)
  have d3 : w'.cell? ⟨g, 3, none⟩ = _ := (hb'.cell (p := ⟨g, 3, none⟩) (by simp; omega)).trans ((World.cell?_alloc_lt _ _ _ hglt).trans hc3)
  have k1 : w'.cell? ⟨gb, i * 4 + 1, none⟩ = _ := (hb'.cell (p := ⟨gb, i * 4 + 1, none⟩) (by simp; omega)).trans ((World.cell?_alloc_lt _ _ _ hgl).trans c1)
  have k2 : w'.cell? ⟨gb, i * 4 + 2, none⟩ = _ := (hb'.cell (p := ⟨gb, i * 4 + 2, none⟩) (by simp; omega)).trans ((World.cell?_alloc_lt _ _ _ hgl).trans c2)
  have HB := Lib.hid (below_next ((Below.refl _ w).alloc (Nat.le_refl _) _) hb')
  clear hb' ha hc1 hc3 c1 c2
  go_wp2
  go_region_held3 (fun W => W.cell? ⟨g, 1, none⟩ = some (.slice (some ⟨gb, 0, none⟩) s.l.length c) ∧ W.cell? ⟨g, 3, none⟩ = some (.slice Ap np cp) ∧ W.cell? ⟨gb, i * 4 + 1, none⟩ = some (.int .i64 x.src) ∧ W.cell? ⟨gb, i * 4 + 2, none⟩ = some (.int .i64 x.dst)) (first | go_keep | exact ⟨by assumption, by assumption, by assumption, by assumption⟩)
    (first
      | (go_at_call 28; (with_reducible refine (net_of _ _ _).mono ?_); rintro e w1 ⟨rfl, hb1⟩; have q1 : w1.cell? ⟨g, 1, none⟩ = _ := (hb1.cell (p := ⟨g, 1, none⟩) (lt_of_cell d1)).trans d1; have q3 : w1.cell? ⟨g, 3, none⟩ = _ := (hb1.cell (p := ⟨g, 3, none⟩) (lt_of_cell d1)).trans d3; have q5 : w1.cell? ⟨gb, i * 4 + 1, none⟩ = _ := (hb1.cell (p := ⟨gb, i * 4 + 1, none⟩) (lt_of_cell k1)).trans k1; have q6 : w1.cell? ⟨gb, i * 4 + 2, none⟩ = _ := (hb1.cell (p := ⟨gb, i * 4 + 2, none⟩) (lt_of_cell k1)).trans k2; have HB1 := Lib.hid (below_next HB.out.drew hb1); have hB1 := Lib.hid (show Blk w1 w.heap.size _ _ from (hb1.block _ hB.out.lt).trans hB.out); clear hb1)
      | (go_at_call 27; (refine (HA.out _ _ _ HB1.out).mono ?_); rintro e w2 ⟨rfl, hb2⟩; have t1 : w2.cell? ⟨g, 1, none⟩ = _ := (hb2.cell (p := ⟨g, 1, none⟩) (lt_of_cell q1)).trans q1; have t3 : w2.cell? ⟨g, 3, none⟩ = _ := (hb2.cell (p := ⟨g, 3, none⟩) (lt_of_cell q1)).trans q3; have t5 : w2.cell? ⟨gb, i * 4 + 1, none⟩ = _ := (hb2.cell (p := ⟨gb, i * 4 + 1, none⟩) (lt_of_cell q5)).trans q5; have t6 : w2.cell? ⟨gb, i * 4 + 2, none⟩ = _ := (hb2.cell (p := ⟨gb, i * 4 + 2, none⟩) (lt_of_cell q5)).trans q6; have HB2 := Lib.hid (below_next HB1.out hb2); have hB2 := Lib.hid (show Blk w2 w.heap.size _ _ from (hb2.block _ hB1.out.lt).trans hB1.out); clear hb2; rw [HPa.out]))
  all_goals
    have y0 := hB2.out.cell 0
    have y1 := hB2.out.cell 1
    have y2 := hB2.out.cell 2
    have y3 := hB2.out.cell 3
    have z0 := hB2.out.frozen
    go_wp2
    refine bodyPost_ret (v := .tuple #[.agg #[.int .i64 0, .int .i64 0, .int .i64 0, .string ⟨#[]⟩], .int .i64 4]) (by simp [results, Try.results15, go_sem, y0, y1, y2, y3]) rfl ⟨rfl, ?_⟩
    exact (((HB2.out.setCell (Nat.le_refl _) _).setCell (Nat.le_refl _) _).setCell (Nat.le_refl _) _).setCell (Nat.le_refl _) _

set_option maxHeartbeats 1000000 in
set_option maxRecDepth 100000 in
theorem net_take_free (F : Nat → Prop) (g : Nat) (s : NetS) (id : Int) (i : Nat) (hi : i < s.l.length) (w : World) (h : NetAt w F g s) (hF : ∀ k, F k → k < w.heap.size) (hl : s.l.length ≤ 1000000) (hlp : s.parted.length ≤ 1000000) (hn : s.find id = (i : Int)) (hp : s.isParted s.l[i].src s.l[i].dst = false) :
    Calls Try.prog 15 #[.pointer (some ⟨g, 0, none⟩), .int .i64 id] w fun e w' => e = .returned (.tuple #[s.l[i].val, .int .i64 0]) ∧ NetPost w F g (s.cut i) w' := by
  have ha := net_at F g s id _ (h.below ((Below.refl _ w).alloc (Nat.le_refl _) (.cells #[.int .i64 0, .int .i64 0, .int .i64 0, .string ⟨#[]⟩] 38))) (by omega)
  rw [hn] at ha
  have H := Lib.hid h
  have hp0 := fun W hW => net_pull F g s i hi W hW (by omega)
  obtain ⟨vl, vp, hb, r1, r2, hg', f1, f2⟩ := h
  obtain ⟨gb, c, rfl, hgl, hcl⟩ := r1.form (by omega)
  have HA := Lib.hid (asks_of w vp s.parted r2 hlp)
  have hglt := hb.lt
  have hc1 := hb.cell 1
  have hc3 := hb.cell 3
  have c1 := r1.cell (fun _ => rfl) i 1 hi (by omega)
  have c2 := r1.cell (fun _ => rfl) i 2 hi (by omega)
  unfold NetS.isParted at hp
  generalize s.l[i] = x at c1 c2 hp hp0 ⊢
  simp only [Letter.cells, List.getElem?_cons_zero, List.getElem?_cons_succ, Nat.add_zero, Nat.mul_one] at c1 c2
  obtain ⟨Ap, np, cp, rfl⟩ := r2.some_slice
  have HPa := Lib.hid hp
  clear hb r1 r2 hn hp
  have hiz : (0 : Int) ≤ (i : Int) := by omega
  have hiz2 : (i : Int) < (s.l.length : Int) := by omega
  go_enter Try.func15, Try.ntmps15
  go_wp2_with (fail)
  refine ha.mono ?_
  rintro e w' ⟨rfl, hb'⟩
  have hz := hb'.size
  simp only [World.size_alloc] at hz
  have hB := Lib.hid (show Blk w' w.heap.size 38 #[.int .i64 0, .int .i64 0, .int .i64 0, .string ⟨#[]⟩] from (hb'.block _ (by simp)).trans (Blk.new w _ _))
  have d1 : w'.cell? ⟨g, 1, none⟩ = _ := (hb'.cell (p := ⟨g, 1, none⟩) (by simp; omega)).trans ((World.cell?_alloc_lt _ _ _ hglt).trans hc1)
  have d3 : w'.cell? ⟨g, 3, none⟩ = _ := (hb'.cell (p := ⟨g, 3, none⟩) (by simp; omega)).trans ((World.cell?_alloc_lt _ _ _ hglt).trans hc3)
  have k1 : w'.cell? ⟨gb, i * 4 + 1, none⟩ = _ := (hb'.cell (p := ⟨gb, i * 4 + 1, none⟩) (by simp; omega)).trans ((World.cell?_alloc_lt _ _ _ hgl).trans c1)
  have k2 : w'.cell? ⟨gb, i * 4 + 2, none⟩ = _ := (hb'.cell (p := ⟨gb, i * 4 + 2, none⟩) (by simp; omega)).trans ((World.cell?_alloc_lt _ _ _ hgl).trans c2)
  have HB := Lib.hid (below_next ((Below.refl _ w).alloc (Nat.le_refl _) _) hb')
  clear hb' ha hc1 hc3 c1 c2
  go_wp2
  go_region_held3 (fun W => W.cell? ⟨g, 1, none⟩ = some (.slice (some ⟨gb, 0, none⟩) s.l.length c) ∧ W.cell? ⟨g, 3, none⟩ = some (.slice Ap np cp) ∧ W.cell? ⟨gb, i * 4 + 1, none⟩ = some (.int .i64 x.src) ∧ W.cell? ⟨gb, i * 4 + 2, none⟩ = some (.int .i64 x.dst)) (first | go_keep | exact ⟨by assumption, by assumption, by assumption, by assumption⟩)
    (first
      | (go_at_call 28; (with_reducible refine (net_of _ _ _).mono ?_); rintro e w1 ⟨rfl, hb1⟩; have q1 : w1.cell? ⟨g, 1, none⟩ = _ := (hb1.cell (p := ⟨g, 1, none⟩) (lt_of_cell d1)).trans d1; have q3 : w1.cell? ⟨g, 3, none⟩ = _ := (hb1.cell (p := ⟨g, 3, none⟩) (lt_of_cell d1)).trans d3; have q5 : w1.cell? ⟨gb, i * 4 + 1, none⟩ = _ := (hb1.cell (p := ⟨gb, i * 4 + 1, none⟩) (lt_of_cell k1)).trans k1; have q6 : w1.cell? ⟨gb, i * 4 + 2, none⟩ = _ := (hb1.cell (p := ⟨gb, i * 4 + 2, none⟩) (lt_of_cell k1)).trans k2; have HB1 := Lib.hid (below_next HB.out.drew hb1); have hB1 := Lib.hid (show Blk w1 w.heap.size _ _ from (hb1.block _ hB.out.lt).trans hB.out); clear hb1)
      | (go_at_call 27; (refine (HA.out _ _ _ HB1.out).mono ?_); rintro e w2 ⟨rfl, hb2⟩; have t1 : w2.cell? ⟨g, 1, none⟩ = _ := (hb2.cell (p := ⟨g, 1, none⟩) (lt_of_cell q1)).trans q1; have t3 : w2.cell? ⟨g, 3, none⟩ = _ := (hb2.cell (p := ⟨g, 3, none⟩) (lt_of_cell q1)).trans q3; have t5 : w2.cell? ⟨gb, i * 4 + 1, none⟩ = _ := (hb2.cell (p := ⟨gb, i * 4 + 1, none⟩) (lt_of_cell q5)).trans q5; have t6 : w2.cell? ⟨gb, i * 4 + 2, none⟩ = _ := (hb2.cell (p := ⟨gb, i * 4 + 2, none⟩) (lt_of_cell q5)).trans q6; have HB2 := Lib.hid (below_next HB1.out hb2); have hB2 := Lib.hid (show Blk w2 w.heap.size _ _ from (hb2.block _ hB1.out.lt).trans hB1.out); clear hb2; rw [HPa.out]))
  all_goals
    go_wp2_with (fail)
    refine (hp0 _ (H.out.below HB2.out)).mono ?_
    rintro e w3 ⟨rfl, hk3, hn3⟩
    have hB3 := Lib.hid (hB2.out.kept hk3 (fun h => absurd (hF _ h) (by omega)))
    have HK3 := Lib.hid hk3
    have HN3 := Lib.hid hn3
    clear hk3 hn3 hp0
    have y0 := hB3.out.cell 0
    have y1 := hB3.out.cell 1
    have y2 := hB3.out.cell 2
    have y3 := hB3.out.cell 3
    have z0 := hB3.out.frozen
    simp only [Letter.val]
    go_wp2
    refine bodyPost_ret (v := .tuple #[x.val, .int .i64 0]) (by simp [results, Try.results15, go_sem, y0, y1, y2, y3, Letter.val]) rfl ⟨rfl, ?_⟩
    have hk4 := ((((Kept.refl w3 (fun k => k = w.heap.size)).setCell (p := ⟨w.heap.size, 0, none⟩) (.inl rfl) (.int .i64 x.id)).setCell (p := ⟨w.heap.size, 1, none⟩) (.inl rfl) (.int .i64 x.src)).setCell (p := ⟨w.heap.size, 2, none⟩) (.inl rfl) (.int .i64 x.dst)).setCell (p := ⟨w.heap.size, 3, none⟩) (.inl rfl) (.string x.body)
    exact NetPost.kept (((Kept.of_below HB2.out F).trans HK3.out).then_ hk4 (fun k h => .inr (h ▸ Nat.le_refl _))) (HN3.out.kept hk4 (fun k _ h e => absurd (hF _ h) (by omega)))

theorem NetS.getD (s : NetS) (i : Nat) (hi : i < s.l.length) : s.l.getD i Letter.zero = s.l[i] := by simp [List.getD_eq_getElem?_getD, List.getElem?_eq_getElem hi]
theorem net_take (F : Nat → Prop) (g : Nat) (s : NetS) (id : Int) (w : World) (h : NetAt w F g s) (hF : ∀ k, F k → k < w.heap.size) (hl : s.l.length ≤ 1000000) (hlp : s.parted.length ≤ 1000000) :
    Calls Try.prog 15 #[.pointer (some ⟨g, 0, none⟩), .int .i64 id] w fun e w' => e = .returned (.tuple #[(s.take id).2.1.val, .int .i64 (s.take id).2.2]) ∧ NetPost w F g (s.take id).1 w' := by
  rcases s.pos_cases id with ⟨h1, h2, _⟩ | ⟨i, hi, h1, h2⟩
  · have e : s.take id = (s, Letter.zero, 5) := by unfold NetS.take; rw [h1]
    rw [e]
    exact (net_take_none F g s id w h hl h2).mono fun e w' ⟨he, hb⟩ => ⟨he, NetPost.of_below h hb⟩
  · have e : s.take id = if s.isParted s.l[i].src s.l[i].dst then (s, Letter.zero, 4) else (s.cut i, s.l[i], 0) := by unfold NetS.take; rw [h1]; simp only [s.getD i hi]
    rw [e]
    cases hp : s.isParted s.l[i].src s.l[i].dst with
    | true => exact (net_take_parted F g s id i hi w h hl hlp h2 hp).mono fun e w' ⟨he, hb⟩ => ⟨he, NetPost.of_below h hb⟩
    | false => exact net_take_free F g s id i hi w h hF hl hlp h2 hp
end Go.Proofs.Ytaaeiljeanfinaa
