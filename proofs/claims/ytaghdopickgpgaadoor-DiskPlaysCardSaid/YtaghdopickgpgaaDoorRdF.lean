import Derived.Test.YtaghdopickgpgaaDoorRdE
namespace Go.Proofs.YtaghdopickgpgaaDoor
open Go Go.RowKit
set_option linter.unusedVariables false
set_option linter.unusedSimpArgs false

set_option maxRecDepth 100000 in
set_option maxHeartbeats 8000000 in
theorem refd_append (G : Nat → Prop) (g : Nat) (s : DkS) (k d : ByteArray) (w : World) (h : RkAt w G g s) (hs : s.Ok) (hG : ∀ k, w.heap.size ≤ k → G k) (hk : k.size ≤ maxLen) (hd : d.size ≤ 140737488351232) :
    Calls Tryd.prog 36 #[.pointer (some ⟨g, 0, none⟩), .string k, .string d] w fun e w' => e = .returned (.int .i64 (s.append k d).2) ∧ RkPost w G g (s.append k d).1 w' := by
  have hnm := refd_named k w (by simp only [maxLen] at hk; omega)
  have H := Lib.hid h
  have HS := Lib.hid hs
  have HG := Lib.hid hG
  obtain ⟨R, hR⟩ : ∃ R, s.append k d = R := ⟨_, rfl⟩
  rw [hR]
  have hlook := hasF_look hs.sorted k
  have hfz : (fileAt s.fs k).has.size ≤ 262144 := hs.file_le' k
  unfold DkS.append at hR
  cases hq : okName k with
  | false =>
    rw [hq, if_pos rfl] at hR
    subst hR
    rw [hq] at hnm
    clear hs hG h hq hlook hfz
    go_enter Tryd.func36, Tryd.ntmps36
    go_wp2_with (fail)
    refine hnm.mono ?_
    rintro e w1 ⟨rfl, rfl⟩
    go_wp2
    go_ret
    exact ⟨rfl, Kept.refl _ _, H.out⟩
  | true =>
    rw [hq, if_neg (by simp)] at hR
    rw [hq] at hnm
    have HR := Lib.hid hR
    have hpl := refd_place G g s k w h hs.n
    have HAT := Lib.hid (@hasF_at s.fs hs.sorted k)
    have hn64 := hs.n
    have hu0 := hs.u0
    have hu1 := hs.u1
    have hr0 := hs.r0
    have hr1 := hs.r1
    have HLK := Lib.hid hlook
    clear hR hq hG h hlook hs
    generalize posF s.fs k = po at *
    generalize hasF s.fs k = there at *
    go_enter Tryd.func36, Tryd.ntmps36
    go_wp2_with (fail)
    refine hnm.mono ?_
    rintro e w1 ⟨rfl, hw⟩
    subst w1
    clear hnm
    go_wp2_with (fail)
    refine hpl.mono ?_
    rintro e w2 ⟨rfl, hb2⟩
    have H2 := Lib.hid (H.out.below hb2)
    have HP2 := Lib.hid (RkPost.of_below H.out hb2)
    have hs2 := hb2.size
    clear hpl hb2
    have hw1 : IntKind.i64.wrap (s.room - s.used) = s.room - s.used := by rw [IntKind.wrap_i64]; omega
    obtain ⟨vl, lf, hb, h1, _, _, _⟩ := H2.out
    obtain ⟨A, c, rfl⟩ := h1.shape
    have c0 := hb.cell 0
    have c1 := hb.cell 1
    have hgl := hb.lt
    have HB := Lib.hid hb
    have H1 := Lib.hid h1
    clear hb h1
    by_cases t1 : s.room - s.used < (d.size : Int)
    · go_wp2_with (fail)
      go_quiet (first | (go_at_call 45; exact Calls.quiet_of_same (refd_used G g s _ (H2.out.kept ((Kept.refl _ fun _ => False).drewN _) (fun _ _ _ h => h)) HS.out)) | fail)
      go_wp2
      go_ret
      have e := HR.out
      rw [if_pos (show s.tight k d from .inl t1)] at e
      subst e
      exact ⟨rfl, HP2.out.1.drewN _, H2.out.kept ((Kept.refl _ fun _ => False).drewN _) (fun _ _ _ h => h)⟩
    · cases hth : there with
      | true =>
        go_wp2_with (fail)
        go_quiet (first | (go_at_call 45; exact Calls.quiet_of_same (refd_used G g s _ (H2.out.kept ((Kept.refl _ fun _ => False).drewN _) (fun _ _ _ h => h)) HS.out)) | fail)
        have HTH := Lib.hid hth
        clear hth
        have HR2 := Lib.hid (show (if s.tick.down = true then (s.tick, (21 : Int)) else (s.tick.set k ⟨(fileAt s.fs k).has ++ d, (fileAt s.fs k).safe⟩, 0)) = R from by have e := HR.out; rw [if_neg (show ¬ s.tight k d from fun h => by unfold DkS.tight at h; rw [← HLK.out] at h; rw [HTH.out] at h; simp at h; omega)] at e; exact e)
        generalize hwq : w2.drewN nq = wq
        have HPQ : Hid (RkPost w G g s wq) := Lib.hid (by rw [← hwq]; exact ⟨HP2.out.1.drewN _, H2.out.kept ((Kept.refl _ fun _ => False).drewN _) (fun _ _ _ h => h)⟩)
        have hsq : w.heap.size ≤ wq.heap.size := HPQ.out.1.size
        clear hwq c0 c1 HB H1 H2 HP2 hw1 hs2
        have hrd := refd_ready G g s wq HPQ.out.2 HS.out.l0 HS.out.l1
        have hwx : (fileAt s.fs k).has.size + d.size ≤ 9223372036854775807 := by omega
        have HTK := Lib.hid (show s.tick.Ok from HS.out.tick)
        have HTF := Lib.hid (tick_fs s)
        have HFA := Lib.hid (fileAt_tick s k)
        generalize s.tick = s2 at *
        cases hdn : s2.down with
        | true =>
          rw [hdn] at hrd
          have e := HR2.out
          rw [hdn, if_pos rfl] at e
          subst e
          go_wp2_with (fail)
          refine hrd.mono ?_
          rintro e w3 ⟨rfl, h3⟩
          have H3 := Lib.hid (HPQ.out.then_ h3)
          clear hrd h3
          go_wp2
          go_ret
          exact ⟨rfl, H3.out⟩
        | false =>
          rw [hdn] at hrd
          have e := HR2.out
          rw [hdn, if_neg (by simp)] at e
          subst e
          go_wp2_with (fail)
          refine hrd.mono ?_
          rintro e w3 ⟨rfl, h3⟩
          have H3 := Lib.hid (HPQ.out.then_ h3)
          clear hrd h3 HR2
          have hs3 := H3.out.1.size
          obtain ⟨hil, hfk⟩ := HAT.out HTH.out
          have HFK := Lib.hid hfk
          obtain ⟨vl, lf, hb, h1, _, _, _⟩ := H3.out.2
          rw [HTF.out] at h1
          obtain ⟨gb, c, rfl, hgl, hcl⟩ := h1.form (by omega)
          have c1 := hb.cell 1
          have hglt := hb.lt
          obtain ⟨a0, a1, a2⟩ := FE_at h1 po hil
          rw [hfk] at a0 a1 a2
          obtain ⟨fo, hfo⟩ : ∃ fo, fileAt s.fs k = fo := ⟨_, rfl⟩
          rw [hfo] at a0 a1 a2 hwx
          simp only at a0 a1 a2
          have HFO := Lib.hid hfo
          have HX := Lib.hid (Blk.new w3 79 #[.string k, .string ⟨#[]⟩, .int .i64 0])
          have HX0 := Lib.hid (Blk.new w3 79 #[.string k, .string fo.has, .int .i64 fo.safe])
          have HX1 := Lib.hid (Blk.new w3 79 #[.string k, .string (fo.has ++ d), .int .i64 fo.safe])
          have HP4 := Lib.hid (H3.out.behind ((Below.refl _ w3).alloc (Nat.le_refl _) (.cells #[.string k, .string (fo.has ++ d), .int .i64 fo.safe] 79)))
          have hpu := refd_put G g s2 k ⟨fo.has ++ d, fo.safe⟩ _ HP4.out.2 HTK.out (fun j hj => HG.out j (by have := HP4.out.1.size; omega))
          have hlz : (po : Int) < (s.fs.length : Int) := by omega
          have HB3 := Lib.hid hb
          have H13 := Lib.hid h1
          clear hfk hfo hfz hb h1
          have HFO2 := Lib.hid (show s2.set k ⟨(fileAt s.fs k).has ++ d, (fileAt s.fs k).safe⟩ = s2.set k ⟨fo.has ++ d, fo.safe⟩ by rw [HFO.out])
          go_wp2_with (fail)
          refine hpu.mono ?_
          rintro e w5 ⟨rfl, h5⟩
          go_wp2
          go_ret
          refine ⟨rfl, ?_⟩
          rw [HFO2.out]
          exact HP4.out.then_ h5
      | false =>
        have HTH := Lib.hid hth
        by_cases t2 : 64 ≤ s.fs.length
        · have t3 : (64 : Int) ≤ (s.fs.length : Int) := by omega
          go_wp2_with (fail)
          go_quiet (first | (go_at_call 45; exact Calls.quiet_of_same (refd_used G g s _ (H2.out.kept ((Kept.refl _ fun _ => False).drewN _) (fun _ _ _ h => h)) HS.out)) | fail)
          go_wp2
          go_ret
          have e := HR.out
          rw [if_pos (show s.tight k d from .inr ⟨by rw [← HLK.out]; exact HTH.out, t2⟩)] at e
          subst e
          exact ⟨rfl, HP2.out.1.drewN _, H2.out.kept ((Kept.refl _ fun _ => False).drewN _) (fun _ _ _ h => h)⟩
        · have t3 : ¬ (64 : Int) ≤ (s.fs.length : Int) := by omega
          go_wp2_with (fail)
          go_quiet (first | (go_at_call 45; exact Calls.quiet_of_same (refd_used G g s _ (H2.out.kept ((Kept.refl _ fun _ => False).drewN _) (fun _ _ _ h => h)) HS.out)) | fail)
          have HR2 := Lib.hid (show (if s.tick.down = true then (s.tick, (21 : Int)) else (s.tick.set k ⟨(fileAt s.fs k).has ++ d, (fileAt s.fs k).safe⟩, 0)) = R from by have e := HR.out; rw [if_neg (show ¬ s.tight k d from fun h => by unfold DkS.tight at h; rw [← HLK.out] at h; omega)] at e; exact e)
          generalize hwq : w2.drewN nq = wq
          have HPQ : Hid (RkPost w G g s wq) := Lib.hid (by rw [← hwq]; exact ⟨HP2.out.1.drewN _, H2.out.kept ((Kept.refl _ fun _ => False).drewN _) (fun _ _ _ h => h)⟩)
          have hsq : w.heap.size ≤ wq.heap.size := HPQ.out.1.size
          clear hwq c0 c1 HB H1 H2 HP2 hw1 hs2
          have hrd := refd_ready G g s wq HPQ.out.2 HS.out.l0 HS.out.l1
          have hwx : (fileAt s.fs k).has.size + d.size ≤ 9223372036854775807 := by omega
          have HTK := Lib.hid (show s.tick.Ok from HS.out.tick)
          have HTF := Lib.hid (tick_fs s)
          have HFA := Lib.hid (fileAt_tick s k)
          generalize s.tick = s2 at *
          cases hdn : s2.down with
          | true =>
            rw [hdn] at hrd
            have e := HR2.out
            rw [hdn, if_pos rfl] at e
            subst e
            go_wp2_with (fail)
            refine hrd.mono ?_
            rintro e w3 ⟨rfl, h3⟩
            have H3 := Lib.hid (HPQ.out.then_ h3)
            clear hrd h3
            go_wp2
            go_ret
            exact ⟨rfl, H3.out⟩
          | false =>
            rw [hdn] at hrd
            have e := HR2.out
            rw [hdn, if_neg (by simp)] at e
            subst e
            go_wp2_with (fail)
            refine hrd.mono ?_
            rintro e w3 ⟨rfl, h3⟩
            have H3 := Lib.hid (HPQ.out.then_ h3)
            clear hrd h3 HR2
            have hs3 := H3.out.1.size
            have hfa : fileAt s.fs k = ⟨⟨#[]⟩, 0⟩ := file_none (by have := HLK.out; rw [HTH.out] at this; simpa using this.symm)
            have HX := Lib.hid (Blk.new w3 79 #[.string k, .string ⟨#[]⟩, .int .i64 0])
            have HX1 := Lib.hid (Blk.new w3 79 #[.string k, .string (⟨#[]⟩ ++ d), .int .i64 0])
            have HP4 := Lib.hid (H3.out.behind ((Below.refl _ w3).alloc (Nat.le_refl _) (.cells #[.string k, .string (⟨#[]⟩ ++ d), .int .i64 0] 79)))
            have hpu := refd_put G g s2 k ⟨⟨#[]⟩ ++ d, 0⟩ _ HP4.out.2 HTK.out (fun j hj => HG.out j (by have := HP4.out.1.size; omega))
            have HFO2 := Lib.hid (show s2.set k ⟨(fileAt s.fs k).has ++ d, (fileAt s.fs k).safe⟩ = s2.set k ⟨⟨#[]⟩ ++ d, 0⟩ by rw [hfa])
            have x0 := HX.out.cell 0
            have x1 := HX.out.cell 1
            have x2 := HX.out.cell 2
            have z1 := HX.out.frozen 1
            have y0 := HX1.out.cell 0
            have y1 := HX1.out.cell 1
            have y2 := HX1.out.cell 2
            have hwy : (⟨#[]⟩ : ByteArray).size + d.size ≤ 9223372036854775807 := by show 0 + d.size ≤ _; omega
            clear hfa hfz
            go_wp2_with (fail)
            refine hpu.mono ?_
            rintro e w5 ⟨rfl, h5⟩
            go_wp2
            go_ret
            refine ⟨rfl, ?_⟩
            rw [HFO2.out]
            exact HP4.out.then_ h5
end Go.Proofs.YtaghdopickgpgaaDoor
