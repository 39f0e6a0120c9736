import Derived.Test.YtaaeiljeanfinaaNetW
import Derived.Test.YtaaeiljeanfinaaNetN
import Derived.Deep.DeepCutAuto
namespace Go.Proofs.Ytaaeiljeanfinaa
open Go Go.RowKit
set_option linter.unusedVariables false
set_option linter.unusedSimpArgs false

/-- Both nets, apart; nothing below B has turned since w0. -/
structure BothF (B : Nat) (w0 w : World) (F G : Nat → Prop) (g h : Nat) (s : NetS) (r : RefS) : Prop where
  net : NetAt w F g s
  ref : RefAt w G h r
  fF : ∀ k, F k → B ≤ k ∧ k < w.heap.size
  fG : ∀ k, G k → B ≤ k ∧ k < w.heap.size
  dis : ∀ k, F k → ¬ G k
  back : Below B w0 w
  base : B ≤ w0.heap.size
section
variable {B : Nat} {w0 w w' : World} {F G : Nat → Prop} {g h : Nat} {s s' : NetS} {r r' : RefS}
theorem BothF.netP (b : BothF B w0 w F G g h s r) (p : NetPost w F g s' w') : BothF B w0 w' (grow F w w') G g h s' r := by
  have hz := b.back.size
  have hb := b.base
  refine ⟨p.2, b.ref.kept p.1 (fun k _ hg hf => b.dis k hf hg), fun k hk => ?_, fun k hk => ⟨(b.fG k hk).1, Nat.lt_of_lt_of_le (b.fG k hk).2 p.1.size⟩, fun k hk hg => ?_, b.back.trans (p.1.below (by omega) (fun k hk hf => by have := (b.fF k hf).1; omega)), b.base⟩
  · rcases hk with hk | hk
    · exact ⟨(b.fF k hk).1, Nat.lt_of_lt_of_le (b.fF k hk).2 p.1.size⟩
    · exact ⟨by omega, hk.2⟩
  · rcases hk with hk | hk
    · exact b.dis k hk hg
    · have := (b.fG k hg).2; omega
theorem BothF.refP (b : BothF B w0 w F G g h s r) (p : RefPost w G h r' w') : BothF B w0 w' F (grow G w w') g h s r' := by
  have hz := b.back.size
  have hb := b.base
  refine ⟨b.net.kept p.1 (fun k _ hf hg => b.dis k hf hg), p.2, fun k hk => ⟨(b.fF k hk).1, Nat.lt_of_lt_of_le (b.fF k hk).2 p.1.size⟩, fun k hk => ?_, fun k hf hg => ?_, b.back.trans (p.1.below (by omega) (fun k hk hf => by have := (b.fG k hf).1; omega)), b.base⟩
  · rcases hk with hk | hk
    · exact ⟨(b.fG k hk).1, Nat.lt_of_lt_of_le (b.fG k hk).2 p.1.size⟩
    · exact ⟨by omega, hk.2⟩
  · rcases hg with hg | hg
    · exact b.dis k hf hg
    · have := (b.fF k hf).2; omega
theorem BothF.below (b : BothF B w0 w F G g h s r) (hb : Below w.heap.size w w') : BothF B w0 w' F G g h s r := by
  have hz := b.back.size
  have hB := b.base
  exact ⟨b.net.below hb, b.ref.below hb, fun k hk => ⟨(b.fF k hk).1, Nat.lt_of_lt_of_le (b.fF k hk).2 hb.size⟩, fun k hk => ⟨(b.fG k hk).1, Nat.lt_of_lt_of_le (b.fG k hk).2 hb.size⟩, b.dis, b.back.trans (hb.mono (by omega)), b.base⟩
end
/-- A block of one's own, beside both. -/
theorem blk_net {w w' : World} {F : Nat → Prop} {k t : Nat} {cs : Array Value} (h : Blk w k t cs) (hk : Kept w w' F) (hn : ¬ F k) : Blk w' k t cs := h.kept hk hn

def ActK.val (a : ActK) : Value := .agg #[.int .i64 a.kind, .int .i64 a.a, .int .i64 a.b, .int .i64 a.i, .string a.body, .bool a.own]
def boxA (a : ActK) : Obj := .cells #[.int .i64 a.kind, .int .i64 a.a, .int .i64 a.b, .int .i64 a.i, .string a.body, .bool a.own] 48

set_option maxHeartbeats 8000000 in
set_option maxRecDepth 1000000 in
theorem step_walk (B : Nat) (w0 w : World) (F G : Nat → Prop) (g h n : Nat) (s : NetS) (r : RefS) (a : ActK) (hB : BothF B w0 w F G g h s r) (hS : Same n s r) (hn : n ≤ 1000) (hbs : a.body.size ≤ 140737488351232) :
    Calls Try.prog 21 #[.pointer (some ⟨g, 0, none⟩), .pointer (some ⟨h, 0, none⟩), .agg #[.int .i64 a.kind, .int .i64 a.a, .int .i64 a.b, .int .i64 a.i, .string a.body, .bool a.own]] w fun e w' => e = .returned (.bool true) ∧ ∃ s' r' F' G', Same (n + 1) s' r' ∧ BothF B w0 w' F' G' g h s' r' := by
  have HBB := Lib.hid hB
  have HS := Lib.hid hS
  obtain ⟨vl, vc, bs, N, hb0, r1, r2, r3, hg', f1, f2⟩ := hB.ref
  have hhl := hb0.lt
  have hc1 := hb0.cell 1
  obtain ⟨A, c, rfl⟩ := r1.shape
  have R1 := Lib.hid r1
  have hll := hS.len
  rw [hS.l] at hll
  clear hB hS hb0 r1 r2 r3
  obtain ⟨ak, aa, ab, ai, abd, ao⟩ := a
  have hb1 := Lib.hid ((Below.refl w.heap.size w).alloc (Nat.le_refl _) (.cells #[.int .i64 ak, .int .i64 aa, .int .i64 ab, .int .i64 ai, .string abd, .bool ao] 48))
  go_enter Try.func21, Try.ntmps21
  go_upto_region 1 with (fail)
  go_cut [7] (fun s7 wx => s7 = .int .i64 ai ∧ wx = w.alloc (.cells #[.int .i64 ak, .int .i64 aa, .int .i64 ab, .int .i64 ai, .string abd, .bool ao] 48))
  case first =>
    go_wp2_with (fail)
    go_meet
    exact ⟨rfl, rfl⟩
  obtain ⟨rfl, rfl⟩ := hcut
  rename_i hK1
  refine hK1 _ _ ?_
  refine wp_seq_k (fun K2 hK2 => ?_)
  go_cut [7] (fun s7 wx => ∃ id : Int, s7 = .int .i64 id ∧ Hid (Below w.heap.size w wx) ∧ Hid (Blk wx w.heap.size 48 #[.int .i64 ak, .int .i64 aa, .int .i64 ab, .int .i64 ai, .string abd, .bool ao]))
  case first =>
    cases ao with
    | false =>
      go_wp2_with (fail)
      go_meet
      exact ⟨ai, rfl, hb1, Lib.hid (Blk.new w _ _)⟩
    | true =>
      rcases Nat.eq_zero_or_pos r.l.length with h0 | h0
      · have h0z : ¬ ((0 : Int) < (r.l.length : Int)) := by omega
        clear h0
        go_wp2_with (fail)
        go_meet
        exact ⟨ai, rfl, hb1, Lib.hid (Blk.new w _ _)⟩
      · have h0z : (0 : Int) < (r.l.length : Int) := by omega
        have hab := amg_bounds ai (r.l.length : Int) h0z (by omega)
        obtain ⟨j, hj⟩ := Int.eq_ofNat_of_zero_le hab.1
        have hjl : j < r.l.length := by omega
        obtain ⟨gb, c2, hv, hgl, hcl⟩ := R1.out.form h0
        injection hv with hA _ hc
        subst hA hc
        have c0 := R1.out.cell (fun _ => rfl) j 0 hjl (by omega)
        generalize r.l[j] = x at c0
        simp only [Letter.cells, List.getElem?_cons_zero, Nat.add_zero] at c0
        have HJ := Lib.hid hj
        have j1 : (0 : Int) ≤ (j : Int) := by omega
        have j2 : (j : Int) < (r.l.length : Int) := by omega
        clear hab hj h0
        go_wp2_with (fail)
        go_quiet ((go_at_call 14; exact Calls.quiet_of_same (HJ.out ▸ among_calls _ _ _ h0z)))
        go_wp2_with (fail)
        go_meet
        exact ⟨x.id, rfl, Lib.hid (pw_drewN hb1.out _), Lib.hid ((Blk.new w _ _).drewN _)⟩
  case rest =>
    obtain ⟨id, rfl, HBx, HBox⟩ := hcut
    have bx0 := HBox.out.cell 0
    have bx1 := HBox.out.cell 1
    have bx2 := HBox.out.cell 2
    have bx4 := HBox.out.cell 4
    have hnF := Lib.hid (show ¬ F w.heap.size from fun hf => by have := (HBB.out.fF _ hf).2; omega)
    have hnG := Lib.hid (show ¬ G w.heap.size from fun hf => by have := (HBB.out.fG _ hf).2; omega)
    have HB3 := Lib.hid (HBB.out.below HBx.out)
    have hwc := HBox.out.lt
    have hs3 := Lib.hid (show s.l.length ≤ 1000000 by have := HS.out.len; omega)
    have hr3 := Lib.hid (show r.l.length ≤ 1000000 by have := HS.out.len; rw [← HS.out.l]; omega)
    have hp3 := Lib.hid (show s.parted.length ≤ 1000000 by have := HS.out.plen; omega)
    have hn3 := Lib.hid (show 0 ≤ r.next by rw [← HS.out.next]; exact HS.out.nlo)
    have hb3 := Lib.hid (show abd.size ≤ 140737488355328 by have : abd.size ≤ 140737488351232 := hbs; omega)
    have hov := Lib.hid (show ∀ x ∈ s.l, x.body.size ≤ 140737488355328 from fun x hx => (HS.out.ok x hx).2)
    have hov2 := Lib.hid (show ∀ x ∈ r.l, x.body.size ≤ 140737488355328 from fun x hx => (HS.out.ok x (by rw [HS.out.l]; exact hx)).2)
    have hva := Lib.hid (show ∀ x ∈ r.l, 0 ≤ x.src ∧ x.src < r.nodes ∧ 0 ≤ x.dst ∧ x.dst < r.nodes from fun x hx => by have := (HS.out.ok x (by rw [HS.out.l]; exact hx)).1; rw [HS.out.nodes] at this; exact this)
    have hFl := Lib.hid (show ∀ k, F k → k < wc.heap.size from fun k hk => (HB3.out.fF k hk).2)
    clear hhl hc1 hll hbs
    go_wp2_with (fail)
    refine (among_calls ak 8 _ (by decide)).mono ?_
    rintro e w2 ⟨rfl, hw2⟩
    subst hw2
    have hk8 := amg_bounds ak 8 (by decide) (by decide)
    have hk := show amg ak 8 = 0 ∨ amg ak 8 = 1 ∨ amg ak 8 = 2 ∨ amg ak 8 = 3 ∨ amg ak 8 = 4 ∨ amg ak 8 = 5 ∨ amg ak 8 = 6 ∨ amg ak 8 = 7 by omega
    clear hk8
    generalize amg ak 8 = y at hk ⊢
    rcases hk with rfl | rfl | rfl | rfl | rfl | rfl | rfl | rfl
    · have hsm := HS.out.send aa ab abd hb3.out
      have e := hsm.1
      have c1 := net_send F g s aa ab abd _ HB3.out.net HS.out.nlo hb3.out
      have c2 := fun W (hW : RefAt W G h r) => ref_send G h r aa ab abd W hW hn3.out hb3.out
      simp only [← e] at c2
      have HS2 := Lib.hid hsm.2
      generalize (s.send aa ab abd).2.1 = x1 at c1 c2
      generalize (s.send aa ab abd).2.2 = x2 at c1 c2
      clear hsm e
      go_wp2_with (fail)
      refine c1.mono ?_
      rintro e w3 ⟨rfl, p3⟩
      have HB4 := Lib.hid (HB3.out.netP p3)
      have HBox4 := Lib.hid (HBox.out.kept p3.1 hnF.out)
      have by1 := HBox4.out.cell 1
      have by2 := HBox4.out.cell 2
      have by4 := HBox4.out.cell 4
      have hw3 := HBox4.out.lt
      clear p3 c1
      go_wp2_with (fail)
      refine (c2 _ HB4.out.ref).mono ?_
      rintro e w4 ⟨rfl, p4⟩
      have HB5 := Lib.hid (HB4.out.refP p4)
      clear p4 c2
      go_wp2
      go_ret
      exact ⟨rfl, _, _, _, _, HS2.out.more (by omega), HB5.out⟩
    · have hsm := HS.out.take id
      have e := hsm.1
      have c1 := net_take F g s id _ HB3.out.net hFl.out hs3.out hp3.out
      have c2 := fun W (hW : RefAt W G h r) (hG : ∀ k, G k → k < W.heap.size) => ref_take G h r id W hW HS.out.wf hG hr3.out hva.out
      simp only [← e] at c2
      have HS2 := Lib.hid hsm.2
      generalize (s.take id).2.1 = x at c1 c2
      generalize (s.take id).2.2 = x2 at c1 c2
      simp only [Letter.val] at c1 c2
      have hbb : (x.body.toList == x.body.toList) = true := by simp
      clear hsm e
      go_wp2_with (fail)
      refine c1.mono ?_
      rintro e w3 ⟨rfl, p3⟩
      have HB4 := Lib.hid ((HB3.out.netP p3).below ((Below.refl _ w3).alloc (Nat.le_refl _) (.cells #[.int .i64 x.id, .int .i64 x.src, .int .i64 x.dst, .string x.body] 38)))
      have hG3 := Lib.hid (show ∀ k, G k → k < w3.heap.size from fun k hk => ((HB3.out.netP p3).fG k hk).2)
      clear p3 c1
      go_wp2_with (fail)
      refine (c2 _ HB4.out.ref (fun k hk => by have := hG3.out k hk; simp; omega)).mono ?_
      rintro e w4 ⟨rfl, p4⟩
      have hbl := Lib.hid ((Blk.new w3 38 #[.int .i64 x.id, .int .i64 x.src, .int .i64 x.dst, .string x.body]).kept p4.1 (fun hf => by have := hG3.out _ hf; omega))
      have d0 := hbl.out.cell 0
      have d1 := hbl.out.cell 1
      have d2 := hbl.out.cell 2
      have d3 := hbl.out.cell 3
      have hdl := hbl.out.lt
      have HB5 := Lib.hid ((HB4.out.refP p4).below ((Below.refl _ w4).alloc (Nat.le_refl _) (.cells #[.int .i64 x.id, .int .i64 x.src, .int .i64 x.dst, .string x.body] 81)))
      clear p4 c2
      go_wp2
      go_ret
      exact ⟨rfl, _, _, _, _, HS2.out.more (by omega), HB5.out⟩
    · have hsm := HS.out.lose id
      have e := hsm.1
      have c1 := net_lose F g s id _ HB3.out.net hs3.out
      have c2 := fun W (hW : RefAt W G h r) => ref_lose G h r id W hW hr3.out
      simp only [← e] at c2
      have HS2 := Lib.hid hsm.2
      generalize (s.lose id).2 = x1 at c1 c2
      clear hsm e
      go_wp2_with (fail)
      refine c1.mono ?_
      rintro e w3 ⟨rfl, p3⟩
      have HB4 := Lib.hid (HB3.out.netP p3)
      have HBox4 := Lib.hid (HBox.out.kept p3.1 hnF.out)
      have by1 := HBox4.out.cell 1
      have by2 := HBox4.out.cell 2
      have by4 := HBox4.out.cell 4
      have hw3 := HBox4.out.lt
      clear p3 c1
      go_wp2_with (fail)
      refine (c2 _ HB4.out.ref).mono ?_
      rintro e w4 ⟨rfl, p4⟩
      have HB5 := Lib.hid (HB4.out.refP p4)
      clear p4 c2
      go_wp2
      go_ret
      exact ⟨rfl, _, _, _, _, HS2.out.more (by omega), HB5.out⟩
    · have hsm := HS.out.copy id
      have e := hsm.1
      have c1 := net_copy F g s id _ HB3.out.net hs3.out HS.out.nlo hov.out
      have c2 := fun W (hW : RefAt W G h r) => ref_copy G h r id W hW hr3.out hn3.out hov2.out
      simp only [← e] at c2
      have HS2 := Lib.hid hsm.2
      generalize (s.copy id).2.1 = x1 at c1 c2
      generalize (s.copy id).2.2 = x2 at c1 c2
      clear hsm e
      go_wp2_with (fail)
      refine c1.mono ?_
      rintro e w3 ⟨rfl, p3⟩
      have HB4 := Lib.hid (HB3.out.netP p3)
      have HBox4 := Lib.hid (HBox.out.kept p3.1 hnF.out)
      have by1 := HBox4.out.cell 1
      have by2 := HBox4.out.cell 2
      have by4 := HBox4.out.cell 4
      have hw3 := HBox4.out.lt
      clear p3 c1
      go_wp2_with (fail)
      refine (c2 _ HB4.out.ref).mono ?_
      rintro e w4 ⟨rfl, p4⟩
      have HB5 := Lib.hid (HB4.out.refP p4)
      clear p4 c2
      go_wp2
      go_ret
      exact ⟨rfl, _, _, _, _, HS2.out.more (by omega), HB5.out⟩
    · have hsm := HS.out.part aa ab
      have e := hsm.1
      have c1 := fun W (hW : NetAt W F g s) (hF : ∀ k, F k → k < W.heap.size) => net_part F g s aa ab W hW hp3.out
      have c2 := fun W (hW : RefAt W G h r) => ref_part G h r aa ab W hW HS.out.wf
      simp only [← e] at c2
      have HS2 := Lib.hid hsm.2
      generalize (s.part aa ab).2 = x1 at c1 c2
      clear hsm e
      have hbw := HBox.out.lt
      go_wp2_with (fail)
      go_region_held3 (fun W => W.cell? ⟨w.heap.size, 1, none⟩ = some (.int .i64 aa) ∧ W.cell? ⟨w.heap.size, 2, none⟩ = some (.int .i64 ab)) (first | go_keep | exact ⟨by assumption, by assumption⟩)
        (first
          | (go_at_call 13; refine (c1 _ (HB3.out.below (pw_drewN (Below.refl _ _) 1)).net (fun k hk => hFl.out k hk)).mono ?_; rintro e w3 ⟨rfl, p3⟩; have HB4 := Lib.hid ((HB3.out.below (pw_drewN (Below.refl _ _) 1)).netP p3); have HBox4 := Lib.hid ((HBox.out.drewN 1).kept p3.1 hnF.out); have by1 := HBox4.out.cell 1; have by2 := HBox4.out.cell 2; clear p3)
          | (go_at_call 38; refine (c2 _ HB4.out.ref).mono ?_; rintro e w4 ⟨rfl, p4⟩; have HB5 := Lib.hid (HB4.out.refP p4); have HBox5 := Lib.hid (HBox4.out.kept p4.1 hnG.out); have bz1 := HBox5.out.cell 1; have bz2 := HBox5.out.cell 2; clear p4)
          | fail)
      all_goals
        go_wp2
        go_ret
        exact ⟨rfl, _, _, _, _, HS2.out, HB5.out⟩
    · have hsm := HS.out.join aa ab
      have e := hsm.1
      have c1 := fun W (hW : NetAt W F g s) (hF : ∀ k, F k → k < W.heap.size) => net_join F g s aa ab W hW hF hp3.out
      have c2 := fun W (hW : RefAt W G h r) => ref_join G h r aa ab W hW HS.out.wf
      simp only [← e] at c2
      have HS2 := Lib.hid hsm.2
      generalize (s.join aa ab).2 = x1 at c1 c2
      clear hsm e
      have hbw := HBox.out.lt
      go_wp2_with (fail)
      go_region_held3 (fun W => W.cell? ⟨w.heap.size, 1, none⟩ = some (.int .i64 aa) ∧ W.cell? ⟨w.heap.size, 2, none⟩ = some (.int .i64 ab)) (first | go_keep | exact ⟨by assumption, by assumption⟩)
        (first
          | (go_at_call 17; refine (c1 _ (HB3.out.below (pw_drewN (Below.refl _ _) 1)).net (fun k hk => hFl.out k hk)).mono ?_; rintro e w3 ⟨rfl, p3⟩; have HB4 := Lib.hid ((HB3.out.below (pw_drewN (Below.refl _ _) 1)).netP p3); have HBox4 := Lib.hid ((HBox.out.drewN 1).kept p3.1 hnF.out); have by1 := HBox4.out.cell 1; have by2 := HBox4.out.cell 2; clear p3)
          | (go_at_call 39; refine (c2 _ HB4.out.ref).mono ?_; rintro e w4 ⟨rfl, p4⟩; have HB5 := Lib.hid (HB4.out.refP p4); have HBox5 := Lib.hid (HBox4.out.kept p4.1 hnG.out); have bz1 := HBox5.out.cell 1; have bz2 := HBox5.out.cell 2; clear p4)
          | fail)
      all_goals
        go_wp2
        go_ret
        exact ⟨rfl, _, _, _, _, HS2.out.more (by omega), HB5.out⟩
    · have e := HS.out.askParted aa ab
      have c1 := net_parted F g s aa ab _ HB3.out.net hp3.out
      have c2 := fun W (hW : RefAt W G h r) => ref_parted G h r aa ab W hW HS.out.wf
      simp only [← e] at c2
      generalize (s.askParted aa ab).1 = x1 at c1 c2
      generalize (s.askParted aa ab).2 = x2 at c1 c2
      clear e
      go_wp2_with (fail)
      refine c1.mono ?_
      rintro e w3 ⟨rfl, p3⟩
      have HB4 := Lib.hid (HB3.out.below p3)
      have HBox4 := Lib.hid (HBox.out.kept (Kept.of_below p3 fun _ => False) (fun h => h))
      have by1 := HBox4.out.cell 1
      have by2 := HBox4.out.cell 2
      have hw3 := HBox4.out.lt
      clear p3 c1
      go_wp2_with (fail)
      refine (c2 _ HB4.out.ref).mono ?_
      rintro e w4 ⟨rfl, hw4⟩
      subst hw4
      clear c2
      go_wp2
      go_ret
      exact ⟨rfl, _, _, _, _, HS.out.more (by omega), HB4.out⟩
    · have hsm := HS.out.drop aa
      have e := hsm.1
      have c1 := net_drop F g s aa _ HB3.out.net hFl.out hs3.out
      have c2 := fun W (hW : RefAt W G h r) => ref_dropn G h r aa W hW hr3.out
      simp only [← e] at c2
      have HS2 := Lib.hid hsm.2
      generalize (s.drop aa).2.1 = x1 at c1 c2
      generalize (s.drop aa).2.2 = x2 at c1 c2
      clear hsm e
      go_wp2_with (fail)
      refine c1.mono ?_
      rintro e w3 ⟨rfl, p3⟩
      have HB4 := Lib.hid (HB3.out.netP p3)
      have HBox4 := Lib.hid (HBox.out.kept p3.1 hnF.out)
      have by1 := HBox4.out.cell 1
      have by2 := HBox4.out.cell 2
      have by4 := HBox4.out.cell 4
      have hw3 := HBox4.out.lt
      clear p3 c1
      go_wp2_with (fail)
      refine (c2 _ HB4.out.ref).mono ?_
      rintro e w4 ⟨rfl, p4⟩
      have HB5 := Lib.hid (HB4.out.refP p4)
      clear p4 c2
      go_wp2
      go_ret
      exact ⟨rfl, _, _, _, _, HS2.out.more (by omega), HB5.out⟩
end Go.Proofs.Ytaaeiljeanfinaa
