import Derived.Test.YtaaeiljeanfinaaNetJ
import Derived.Test.YtaaeiljeanfinaaOCall
namespace Go.Proofs.Ytaaeiljeanfinaa
open Go Go.RowKit
set_option linter.unusedVariables false
set_option linter.unusedSimpArgs false

def mkPr (a b : Int) : Pr := (a, b)
def NetS.cutPair (s : NetS) (a b : Int) : NetS := { s with parted := s.parted ++ [mkPr (min a b) (max a b)] }
def NetS.part (s : NetS) (a b : Int) : NetS × Int := if (s.has a && s.has b) = true then (if a = b then (s, 4) else if s.isParted a b = true then (s, 0) else (s.cutPair a b, 0)) else (s, 30)
theorem info_pairs : (Try.prog.info? 69).map (fun i => (i.zero, i.size, i.bytes)) = some (some (.agg #[.int .i64 0, .int .i64 0]), 2, 16) := by kernel_rfl

set_option maxHeartbeats 2000000 in
set_option maxRecDepth 100000 in
theorem net_part (F : Nat → Prop) (g : Nat) (s : NetS) (a b : Int) (w : World) (h : NetAt w F g s) (hlp : s.parted.length ≤ 1000000) :
    Calls Try.prog 13 #[.pointer (some ⟨g, 0, none⟩), .int .i64 a, .int .i64 b] w fun e w' => e = .returned (.int .i64 (s.part a b).2) ∧ NetPost w F g (s.part a b).1 w' := by
  have hba := Lib.hid ((Below.refl _ w).alloc (Nat.le_refl _) (.cells #[.int .i64 a, .int .i64 b] 3))
  have h1 := h.below hba.out
  have hk := net_known F g s _ [a, b] _ h1 (row_two w a b) (by simp)
  rw [show [a, b].all s.has = (s.has a && s.has b) by simp] at hk
  have H := Lib.hid h
  have HS := Lib.hid (show s.part a b = if (s.has a && s.has b) = true then (if a = b then (s, 4) else if s.isParted a b = true then (s, 0) else (s.cutPair a b, 0)) else (s, 30) from rfl)
  generalize s.part a b = r at HS ⊢
  generalize (s.has a && s.has b) = q at hk HS
  obtain ⟨vl, vp, hb, r1, r2, hg', f1, f2⟩ := h
  have HA := Lib.hid (asks_of w vp s.parted r2 hlp)
  have hglt := hb.lt
  have hc3 := hb.cell 3
  have HB := Lib.hid hb
  have R1 := Lib.hid r1
  have R2 := Lib.hid r2
  obtain ⟨Ap, np, cp, rfl⟩ := r2.some_slice
  clear h1 hb r1 r2
  cases q with
  | false =>
    obtain rfl : r = (s, 30) := HS.out
    go_enter Try.func13, Try.ntmps13
    go_wp2_with (fail)
    refine hk.mono ?_
    rintro e w' ⟨rfl, hb'⟩
    go_wp2
    go_ret
    exact ⟨rfl, NetPost.of_below H.out (below_next hba.out hb')⟩
  | true =>
    cases hab : (a == b) with
    | true =>
      obtain rfl : a = b := by simpa using hab
      have e : r = (s, 4) := by rw [HS.out]; simp
      subst e
      clear hab HS
      go_enter Try.func13, Try.ntmps13
      go_wp2_with (fail)
      refine hk.mono ?_
      rintro e w' ⟨rfl, hb'⟩
      go_wp2
      go_ret
      exact ⟨rfl, NetPost.of_below H.out (below_next hba.out hb')⟩
    | false =>
      have hne : a ≠ b := by simpa using hab
      have e := HS.out
      rw [if_pos rfl, if_neg hne] at e
      have HP := Lib.hid (show s.isParted a b = s.parted.any fun x : Pr => min a b == x.1 && max a b == x.2 from rfl)
      generalize s.isParted a b = pr at e HP
      have HE := Lib.hid e
      clear e HS hne
      cases pr with
      | true =>
        obtain rfl : r = (s, 0) := by rw [HE.out]; rfl
        clear HE
        go_enter Try.func13, Try.ntmps13
        go_wp2_with (fail)
        refine hk.mono ?_
        rintro e w' ⟨rfl, hb'⟩
        have d3 : w'.cell? ⟨g, 3, none⟩ = _ := (hb'.cell (p := ⟨g, 3, none⟩) (by simp; omega)).trans ((World.cell?_alloc_lt _ _ _ hglt).trans hc3)
        have HW := Lib.hid (below_next hba.out hb')
        clear hb' hk hc3
        go_wp2
        go_region_held3 (fun W => W.cell? ⟨g, 3, none⟩ = some (.slice Ap np cp)) (first | go_keep | assumption)
          (first
            | (go_at_call 28; (with_reducible refine (net_of _ _ _).mono ?_); rintro e w1 ⟨rfl, hb1⟩; have q3 : w1.cell? ⟨g, 3, none⟩ = _ := (hb1.cell (p := ⟨g, 3, none⟩) (lt_of_cell d3)).trans d3; have HB1 := Lib.hid (below_next HW.out.drew hb1); clear hb1)
            | (go_at_call 27; (refine (HA.out _ _ _ HB1.out).mono ?_); rintro e w2 ⟨rfl, hb2⟩; have t3 : w2.cell? ⟨g, 3, none⟩ = _ := (hb2.cell (p := ⟨g, 3, none⟩) (lt_of_cell q3)).trans q3; have HB2 := Lib.hid (below_next HB1.out hb2); clear hb2; rw [← HP.out]))
        all_goals
          go_wp2
          go_ret
          exact ⟨rfl, NetPost.of_below H.out HB2.out⟩
      | false =>
        obtain rfl : r = (s.cutPair a b, 0) := by rw [HE.out]; rfl
        clear HE
        go_enter Try.func13, Try.ntmps13
        go_wp2_with (fail)
        refine hk.mono ?_
        rintro e w' ⟨rfl, hb'⟩
        have d3 : w'.cell? ⟨g, 3, none⟩ = _ := (hb'.cell (p := ⟨g, 3, none⟩) (by simp; omega)).trans ((World.cell?_alloc_lt _ _ _ hglt).trans hc3)
        have HW := Lib.hid (below_next hba.out hb')
        clear hb' hk hc3
        go_wp2
        go_region_held3 (fun W => W.cell? ⟨g, 3, none⟩ = some (.slice Ap np cp)) (first | go_keep | assumption)
          (first
            | (go_at_call 28; (with_reducible refine (net_of _ _ _).mono ?_); rintro e w1 ⟨rfl, hb1⟩; have q3 : w1.cell? ⟨g, 3, none⟩ = _ := (hb1.cell (p := ⟨g, 3, none⟩) (lt_of_cell d3)).trans d3; have HB1 := Lib.hid (below_next HW.out.drew hb1); clear hb1)
            | (go_at_call 27; (refine (HA.out _ _ _ HB1.out).mono ?_); rintro e w2 ⟨rfl, hb2⟩; have t3 : w2.cell? ⟨g, 3, none⟩ = _ := (hb2.cell (p := ⟨g, 3, none⟩) (lt_of_cell q3)).trans q3; have HB2 := Lib.hid (below_next HB1.out hb2); clear hb2; rw [← HP.out]))
        all_goals
          have hfz := HB.out.kept (Kept.of_below HB2.out fun _ => False) (fun h => h)
          have HB3 := Lib.hid hfz
          clear hfz
          go_wp2
          have hle : (s.parted.length + 1) * 16 ≤ 140737488355328 := by omega
          have h1 : Hid (∀ x : Pr, ∀ u ∈ Pr.cells x, u.oneCell' = true) := Lib.hid (fun x u hu => by simp [Pr.cells] at hu; rcases hu with rfl | rfl <;> rfl)
          have hR2 := Lib.hid (R2.out.kept (Kept.of_below HB2.out fun _ => False) (fun _ _ h => h))
          have he := Go.Proofs.enters_of Try.func28 (by kernel_rfl) rfl
          go_region_law
            (first
              | (refine step_call he #[.tmp 33, .tmp 34] _ #[.int .i64 a, .int .i64 b] (by rfl) (by rfl) (by simp only [List.map_toArray, List.map_cons, List.map_nil]; rfl) ?_; (with_reducible refine (net_of _ _ _).mono ?_); rintro e w4 ⟨rfl, hb4⟩; refine ⟨_, rfl, ?_⟩; have u3 : w4.cell? ⟨g, 3, none⟩ = _ := (hb4.cell (p := ⟨g, 3, none⟩) (lt_of_cell t3)).trans t3; have hg4 := lt_of_cell u3; have HB4 := Lib.hid (below_next HB2.out.drew hb4); have hB4 := Lib.hid (HB3.out.drew.kept (Kept.of_below hb4 fun _ => False) (fun h => h)); have hR4 := Lib.hid (hR2.out.drew.kept (Kept.of_below hb4 fun _ => False) (fun _ _ h => h)); clear hb4)
              | (refine Row.append_step (by rfl) (.tmp 32) (.tmp 36) 60 69 (.agg #[.int .i64 0, .int .i64 0]) 2 16 (by rfl) Try.underlying60 info_pairs rfl (by decide) (by decide) (.slice Ap np cp) s.parted [mkPr (min a b) (max a b)] (by rfl) ⟨w4.heap.size, 0, none⟩ 1 1 (by rfl) (hR4.out.alloc _) rfl (fun _ => rfl) (news_lit Pr.cells w4 69 (mkPr (min a b) (max a b)) #[.int .i64 (min a b), .int .i64 (max a b)] rfl) h1.out hle ?_; intro v1 w5 hR hG hO; have HR := Lib.hid hR; have HG := Lib.hid hG; have HO := Lib.hid hO; obtain ⟨A1, m1, c1, rfl⟩ := hR.some_slice; have hgc : w5.cell? ⟨g, 3, none⟩ = some (.slice Ap np cp) := ((hB4.out.alloc _).grown hG (fun e => hR4.out.ne_blk hB4.out (by decide) e.symm)).cell 3; have hgf : w5.frozen? ⟨g, 3, none⟩ = false := ((hB4.out.alloc _).grown hG (fun e => hR4.out.ne_blk hB4.out (by decide) e.symm)).frozen 3; clear hR hG hO)
              | fail)
          all_goals
            go_wp2
            go_ret
            have hgg := (hB4.out.alloc (.cells #[.int .i64 (min a b), .int .i64 (max a b)] 69)).grown HG.out (fun e => hR4.out.ne_blk hB4.out (by decide) e.symm)
            have hks : Kept w5 (w5.setCell ⟨g, 3, none⟩ (.slice A1 m1 c1)) (fun k => k = g) := (Kept.refl w5 (fun k => k = g)).setCell (p := ⟨g, 3, none⟩) (.inl rfl) _
            have hw5 : w4.heap.size + 1 ≤ w5.heap.size := by have := HG.out.size; simpa using this
            have hw4 := HB4.out.size
            have r1' := (R1.out.kept (Kept.of_below HB4.out fun _ => False) (fun _ _ h => h)).alloc (.cells #[.int .i64 (min a b), .int .i64 (max a b)] 69) |>.grown HG.out (fun k e e' => R1.out.apart R2.out (by decide) k e e'.symm)
            refine ⟨rfl, ⟨((((Kept.of_below HB4.out F).alloc _).grown HG.out (fun k hk => .inl (f2 k hk))).setCell (.inl hg') _), ⟨vl, _, hgg.set_ 3 _, r1'.kept hks (fun k e h => r1'.ne_blk hgg (by decide) (h ▸ e)), HR.out.kept hks (fun k e h => HR.out.ne_blk hgg (by decide) (h ▸ e)), .inl hg', fun k e => .inl (f1 k e), ?_⟩⟩⟩
            intro k e
            have hkl := HR.out.lt e
            rcases HO.out with h | h
            · exact .inl (f2 k (h ▸ e))
            · refine .inr ⟨?_, by simpa using hkl⟩
              rw [h] at e
              simp at e
              omega

def NetS.drop (s : NetS) (nd : Int) : NetS × Int × Int := if s.has nd = true then ({ s with l := s.l.filter fun x : Letter => !(x.src == nd || x.dst == nd) }, (s.l.length : Int) - ((s.l.filter fun x : Letter => !(x.src == nd || x.dst == nd)).length : Int), 0) else (s, 0, 30)
set_option maxHeartbeats 1000000 in
theorem net_drop (F : Nat → Prop) (g : Nat) (s : NetS) (nd : Int) (w : World) (h : NetAt w F g s) (hF : ∀ k, F k → k < w.heap.size) (hl : s.l.length ≤ 1000000) :
    Calls Try.prog 19 #[.pointer (some ⟨g, 0, none⟩), .int .i64 nd] w fun e w' => e = .returned (.tuple #[.int .i64 (s.drop nd).2.1, .int .i64 (s.drop nd).2.2]) ∧ NetPost w F g (s.drop nd).1 w' := by
  have hbb := Lib.hid (((Below.refl _ w).alloc (Nat.le_refl _) (.cells #[.int .i64 nd] 3)).alloc (by simp) (.cells #[.int .i64 nd] 3))
  have h1 := h.below hbb.out
  have hk := net_known F g s _ [nd] _ h1 (row_one (w.alloc _) nd) (by simp)
  rw [show [nd].all s.has = s.has nd by simp] at hk
  have H := Lib.hid h
  have HS := Lib.hid (show s.drop nd = if s.has nd = true then ({ s with l := s.l.filter fun x : Letter => !(x.src == nd || x.dst == nd) }, (s.l.length : Int) - ((s.l.filter fun x : Letter => !(x.src == nd || x.dst == nd)).length : Int), 0) else (s, 0, 30) from rfl)
  generalize s.drop nd = r at HS ⊢
  generalize s.has nd = q at hk HS
  clear h1
  simp only [World.size_alloc] at hk
  cases q with
  | false =>
    obtain rfl : r = (s, 0, 30) := HS.out
    clear h
    go_enter Try.func19, Try.ntmps19
    go_wp2_with (fail)
    refine hk.mono ?_
    rintro e w' ⟨rfl, hb'⟩
    go_wp2
    go_ret2
    exact ⟨rfl, NetPost.of_below H.out (below_next hbb.out (by simpa using hb'))⟩
  | true =>
    obtain ⟨l2, HL2⟩ : ∃ l2, Hid (l2 = s.l.filter fun x : Letter => !(x.src == nd || x.dst == nd)) := ⟨_, Lib.hid rfl⟩
    have hll := List.length_filter_le (fun x : Letter => !(x.src == nd || x.dst == nd)) s.l
    rw [← HL2.out] at HS hll
    obtain rfl : r = ({ s with l := l2 }, (s.l.length : Int) - (l2.length : Int), 0) := HS.out
    obtain ⟨vl, vp, hb, r1, r2, hg, f1, f2⟩ := h
    have hglt := hb.lt
    have hc1 := hb.cell 1
    have HB := Lib.hid hb
    have R1 := Lib.hid r1
    have R2 := Lib.hid r2
    have hvp := Lib.hid (fun k (e : vl.ownBlock = some k) => r1.lt e)
    obtain ⟨Ap, cp, rfl⟩ := r1.shape
    clear hb r1 r2 HS
    generalize hn1 : s.l.length = n1 at *
    generalize hn2 : l2.length = n2 at *
    have HN1 := Lib.hid hn1
    have HN2 := Lib.hid hn2
    have i1 : (0 : Int) ≤ (n2 : Int) := by omega
    have i2 : (n2 : Int) ≤ (n1 : Int) := by omega
    have i3 : (n1 : Int) ≤ 1000000 := by omega
    clear hn1 hn2
    go_enter Try.func19, Try.ntmps19
    go_wp2_with (fail)
    refine hk.mono ?_
    rintro e w' ⟨rfl, hb'⟩
    have HW := Lib.hid (below_next hbb.out (by simpa using hb'))
    have d1 : w'.cell? ⟨g, 1, none⟩ = _ := (HW.out.cell (p := ⟨g, 1, none⟩) hglt).trans hc1
    have d1f : w'.frozen? ⟨g, 1, none⟩ = false := (HW.out.frozen (p := ⟨g, 1, none⟩) hglt).trans (HB.out.frozen 1)
    have xa : w'.cell? ⟨w.heap.size, 0, none⟩ = some (.int .i64 nd) := (hb'.cell (p := ⟨w.heap.size, 0, none⟩) (by simp; omega)).trans (by go_simp)
    clear hb' hk hc1
    have HD := Lib.hid (delfunc_letters (.slice Ap n1 cp) s.l _ _ _ w' (R1.out.kept (Kept.of_below HW.out fun _ => False) (fun _ _ h => h)) (by have := HN1.out; omega) (drop_says _ w.heap.size nd w' xa (lt_of_cell xa) (fun e => by have := hvp.out _ e; omega)) (Go.Proofs.enters_of Try.func33 (by kernel_rfl) rfl))
    go_wp2_with (fail)
    refine HD.out.mono ?_
    rintro e w2 ⟨v2, rfl, hR2, hK2, hO2⟩
    rw [← HL2.out] at hR2
    have HR2 := Lib.hid hR2
    have HK2 := Lib.hid hK2
    have HO2 := Lib.hid hO2
    have hB2 := Lib.hid ((HB.out.kept (Kept.of_below HW.out fun _ => False) (fun h => h)).kept hK2 (fun e => R1.out.ne_blk HB.out (by decide) e))
    have t1 := hB2.out.cell 1
    have t1f := hB2.out.frozen 1
    obtain ⟨A2, c2, rfl⟩ := hR2.shape_n HN2.out
    clear hR2 hK2 hO2
    go_wp2
    go_ret2
    have hks : Kept w2 (w2.setCell ⟨g, 1, none⟩ (.slice A2 n2 c2)) (fun k => k = g) := (Kept.refl w2 (fun k => k = g)).setCell (p := ⟨g, 1, none⟩) (.inl rfl) _
    refine ⟨rfl, NetPost.kept (((Kept.of_below HW.out F).trans (HK2.out.mono fun k _ e => f1 k e)).setCell (.inl hg) _) ⟨_, vp, hB2.out.set_ 1 _, HR2.out.kept hks (fun k e h => HR2.out.ne_blk hB2.out (by decide) (h ▸ e)), ?_, hg, fun k e => f1 k (HO2.out ▸ e), f2⟩⟩
    have r1' := (R2.out.kept (Kept.of_below HW.out fun _ => False) (fun _ _ h => h)).kept HK2.out (fun k e e' => R2.out.apart R1.out (by decide) k e e')
    exact r1'.kept hks (fun k e h => r1'.ne_blk hB2.out (by decide) (h ▸ e))
end Go.Proofs.Ytaaeiljeanfinaa
