import Derived.Test.YtaghdopickgpgaaDoorRdG
namespace Go.Proofs.YtaghdopickgpgaaDoor
open Go Go.RowKit
set_option linter.unusedVariables false
set_option linter.unusedSimpArgs false

set_option maxRecDepth 100000 in
set_option maxHeartbeats 4000000 in
theorem refd_rename (G : Nat → Prop) (g : Nat) (s : DkS) (a b : ByteArray) (w : World) (h : RkAt w G g s) (hs : s.Ok) (hG : ∀ k, w.heap.size ≤ k → G k) (ha : a.size ≤ maxLen) (hb : b.size ≤ maxLen) :
    Calls Tryd.prog 39 #[.pointer (some ⟨g, 0, none⟩), .string a, .string b] w fun e w' => e = .returned (.int .i64 (s.rename a b).2) ∧ RkPost w G g (s.rename a b).1 w' := by
  have HNA := Lib.hid (fun W => refd_named a W (by simp only [maxLen] at ha; omega))
  have HNB := Lib.hid (fun W => refd_named b W (by simp only [maxLen] at hb; omega))
  have hkn := refd_known G g s a w h hs ha
  have H := Lib.hid h
  have HG := Lib.hid hG
  have hgw := h.lt
  have HREADY := Lib.hid (fun (G' : Nat → Prop) W (hW : RkAt W G' g s) => refd_ready G' g s W hW hs.l0 hs.l1)
  have HDROP := Lib.hid (fun (he : knownE s.fs a = 0) (G' : Nat → Prop) W (hW : RkAt W G' g s.tick) (hGW : ∀ k, W.heap.size ≤ k → G' k) => refd_drop G' g s.tick a W hW hs.tick hGW (by rw [tick_fs]; exact known_has hs he))
  have HPUT := Lib.hid (fun W (hW : RkAt W G g (s.tick.drop a)) (hGW : ∀ k, W.heap.size ≤ k → G k) => refd_put G g (s.tick.drop a) b (fileAt s.fs a) W hW (hs.tick.drop a) hGW)
  obtain ⟨R, hR⟩ : ∃ R, s.rename a b = R := ⟨_, rfl⟩
  rw [hR]
  unfold DkS.rename at hR
  generalize fileAt s.fs a = fo at *
  generalize knownN s.fs a = kn at *
  generalize knownE s.fs a = er at *
  generalize (s.tick.drop a).set b fo = s4 at *
  generalize s.tick.drop a = s3 at *
  generalize s.tick = s2 at *
  generalize okName a = p at *
  generalize okName b = q at *
  have HR := Lib.hid hR
  clear h hR hs hG ha hb
  go_enter Tryd.func39, Tryd.ntmps39
  go_wp2_with (fail)
  refine (HNA.out w).mono ?_
  rintro e w0 ⟨rfl, hw⟩
  subst w0
  cases p with
  | false =>
    obtain rfl : (s, (20 : Int)) = R := by rw [← HR.out]; rfl
    go_wp2
    go_ret
    exact ⟨rfl, RkPost.of_below H.out (Below.refl _ _)⟩
  | true =>
    go_wp2_with (fail)
    refine (HNB.out w).mono ?_
    rintro e w0 ⟨rfl, hw⟩
    subst w0
    cases q with
    | false =>
      obtain rfl : (s, (20 : Int)) = R := by rw [← HR.out]; rfl
      go_wp2
      go_ret
      exact ⟨rfl, RkPost.of_below H.out (Below.refl _ _)⟩
    | true =>
      go_wp2_with (fail)
      refine hkn.mono ?_
      rintro e w1 ⟨rfl, hb⟩
      clear hkn
      have HT1 := Lib.hid (show RkAt _ (fun k => G k ∧ k ≠ w1.heap.size) g s from ((H.out.below hb).tight.mono (G' := fun k => G k ∧ k ≠ w1.heap.size) fun k h => ⟨h.1, by omega⟩).below ((Below.refl _ _).alloc (Nat.le_refl _) (.cells #[.string kn, .string fo.has, .int .i64 fo.safe] 79)))
      have hs1 := hb.size
      have HP1 := Lib.hid (RkPost.of_below H.out (hb.trans ((Below.refl _ _).alloc hb.size (.cells #[.string kn, .string fo.has, .int .i64 fo.safe] 79))))
      have hsz1 : (w1.alloc (.cells #[.string kn, .string fo.has, .int .i64 fo.safe] 79)).heap.size = w1.heap.size + 1 := by simp
      have hX := Blk.new w1 79 #[.string kn, .string fo.has, .int .i64 fo.safe]
      have HX := Lib.hid hX
      have hgx : w1.heap.size ≠ g := by omega
      have HGX := Lib.hid hgx
      clear hb hX hgx
      by_cases he : er = 0
      · subst he
        have hr := HREADY.out _ _ HT1.out
        have HR2 := Lib.hid (show (if s2.down = true then (s2, 21) else (s4, (0 : Int))) = R from by have e := HR.out; rw [if_neg (by simp), if_neg (show ¬ (0 : Int) ≠ 0 by simp)] at e; exact e)
        cases hd : s2.down with
        | true =>
          have hq := HR2.out
          rw [hd] at hq
          obtain rfl : (s2, (21 : Int)) = R := hq
          rw [hd] at hr
          go_wp2_with (fail)
          refine hr.mono ?_
          rintro e w2 ⟨rfl, hp⟩
          have HP2 := Lib.hid hp
          clear hp hr
          go_wp2
          go_ret
          exact ⟨rfl, HP1.out.1.trans HP2.out.1, HP2.out.2.mono fun k h => h.1⟩
        | false =>
          have hq := HR2.out
          rw [hd] at hq
          obtain rfl : (s4, (0 : Int)) = R := hq
          rw [hd] at hr
          go_wp2_with (fail)
          refine hr.mono ?_
          rintro e w2 ⟨rfl, hp⟩
          have HX2 := Lib.hid (HX.out.kept hp.1 HGX.out)
          have HP2 := Lib.hid (HP1.out.1.trans hp.1)
          have HA2 := Lib.hid hp.2
          have hs2 := hp.1.size
          clear hp hr
          have hdr := HDROP.out trivial _ _ HA2.out (fun j hj => ⟨HG.out j (Nat.le_trans HP2.out.size hj), by omega⟩)
          go_wp2_with (fail)
          refine hdr.mono ?_
          rintro e w3 ⟨rfl, hp⟩
          have HX3 := Lib.hid (HX2.out.kept hp.1 HGX.out)
          have HP3 := Lib.hid (HP2.out.trans hp.1)
          have HA3 := Lib.hid hp.2
          clear hp hdr
          have y0 := HX3.out.cell 0
          have y1 := HX3.out.cell 1
          have y2 := HX3.out.cell 2
          have z0 := HX3.out.frozen 0
          have hltx := HX3.out.lt
          have HX4 := Lib.hid (HX3.out.set_ 0 (.string b))
          have HK4 := Lib.hid ((Kept.refl w3 fun k => k = w1.heap.size).setCell (p := ⟨w1.heap.size, 0, none⟩) (.inl rfl) (.string b))
          have HP4 := Lib.hid (show RkPost w G g s3 _ from ⟨HP3.out.setCell (p := ⟨w1.heap.size, 0, none⟩) (.inr hs1) (.string b), (HA3.out.kept HK4.out (fun k _ h e => h.2 e)).mono fun k h => h.1⟩)
          have c0' := HX4.out.cell 0
          have c1' := HX4.out.cell 1
          have c2' := HX4.out.cell 2
          have hpu := HPUT.out _ HP4.out.2 (fun j hj => HG.out j (Nat.le_trans HP4.out.1.size hj))
          go_wp2_with (fail)
          refine hpu.mono ?_
          rintro e w5 ⟨rfl, h5⟩
          go_wp2
          go_ret
          exact ⟨rfl, HP4.out.then_ h5⟩
      · obtain rfl : (s, er) = R := by rw [← HR.out]; rw [if_neg (by simp), if_pos he]
        go_wp2
        go_ret
        exact ⟨rfl, HP1.out⟩
end Go.Proofs.YtaghdopickgpgaaDoor
