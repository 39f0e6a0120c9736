import Derived.Test.YtaghdopickgpgaaDoorRdE
namespace Go.Proofs.YtaghdopickgpgaaDoor
open Go Go.RowKit
set_option linter.unusedVariables false
set_option linter.unusedSimpArgs false

theorem RkAt.tight {w : World} {G : Nat → Prop} {g : Nat} {s : DkS} (h : RkAt w G g s) : RkAt w (fun k => G k ∧ k < w.heap.size) g s := by
  obtain ⟨vl, lf, hb, h1, hl, hg, f1⟩ := h
  exact ⟨vl, lf, hb, h1, hl, ⟨hg, hb.lt⟩, fun k e => ⟨f1 k e, h1.lt e⟩⟩
theorem RkAt.mono {w : World} {G G' : Nat → Prop} {g : Nat} {s : DkS} (h : RkAt w G g s) (hG : ∀ k, G k → G' k) : RkAt w G' g s := by
  obtain ⟨vl, lf, hb, h1, hl, hg, f1⟩ := h
  exact ⟨vl, lf, hb, h1, hl, hG _ hg, fun k e => hG k (f1 k e)⟩
theorem known_has {s : DkS} (hs : s.Ok) {k : ByteArray} (h : knownE s.fs k = 0) : hasF s.fs k = true := by
  rw [hasF_look hs.sorted]
  exact (knownE_ok h).2
set_option maxRecDepth 100000 in
set_option maxHeartbeats 4000000 in
theorem refd_remove (G : Nat → Prop) (g : Nat) (s : DkS) (k : ByteArray) (w : World) (h : RkAt w G g s) (hs : s.Ok) (hG : ∀ k, w.heap.size ≤ k → G k) (hk : k.size ≤ maxLen) :
    Calls Tryd.prog 40 #[.pointer (some ⟨g, 0, none⟩), .string k] w fun e w' => e = .returned (.int .i64 (s.remove k).2) ∧ RkPost w G g (s.remove k).1 w' := by
  have hkn := refd_known G g s k w h hs hk
  have H := Lib.hid h
  have HG := Lib.hid hG
  have HREADY := Lib.hid (fun W (hW : RkAt W G g s) => refd_ready G g s W hW hs.l0 hs.l1)
  have HDROP := Lib.hid (fun (he : knownE s.fs k = 0) W (hW : RkAt W G g s.tick) (hGW : ∀ k, W.heap.size ≤ k → G k) => refd_drop G g s.tick k W hW hs.tick hGW (by rw [tick_fs]; exact known_has hs he))
  obtain ⟨R, hR⟩ : ∃ R, s.remove k = R := ⟨_, rfl⟩
  rw [hR]
  unfold DkS.remove at hR
  generalize fileAt s.fs k = fo at *
  generalize knownN s.fs k = kn at *
  generalize knownE s.fs k = er at *
  generalize s.tick.drop k = s3 at *
  generalize s.tick = s2 at *
  have HR := Lib.hid hR
  clear h hR hs hG
  go_enter Tryd.func40, Tryd.ntmps40
  go_wp2_with (fail)
  refine hkn.mono ?_
  rintro e w1 ⟨rfl, hb⟩
  clear hkn
  have HP1 := Lib.hid (RkPost.of_below H.out (hb.trans ((Below.refl _ _).alloc hb.size (.cells #[.string kn, .string fo.has, .int .i64 fo.safe] 79))))
  clear hb
  by_cases he : er = 0
  · subst he
    have hr := HREADY.out _ HP1.out.2
    have HR2 := Lib.hid (show (if s2.down = true then (s2, 21) else (s3, (0 : Int))) = R from by have e := HR.out; rw [if_neg (show ¬ (0 : Int) ≠ 0 by simp)] at e; exact e)
    cases hd : s2.down with
    | true =>
      have hq := HR2.out
      rw [hd] at hq
      obtain rfl : (s2, (21 : Int)) = R := hq
      rw [hd] at hr
      go_wp2_with (fail)
      refine hr.mono ?_
      rintro e w2 ⟨rfl, hp⟩
      have HP2 := Lib.hid hp
      clear hp hr
      go_wp2
      go_ret
      exact ⟨rfl, HP1.out.then_ HP2.out⟩
    | false =>
      have hq := HR2.out
      rw [hd] at hq
      obtain rfl : (s3, (0 : Int)) = R := hq
      rw [hd] at hr
      go_wp2_with (fail)
      refine hr.mono ?_
      rintro e w2 ⟨rfl, hp⟩
      have HP2 := Lib.hid (HP1.out.then_ hp)
      clear hp hr
      have hdr := HDROP.out trivial _ HP2.out.2 (fun j hj => HG.out j (Nat.le_trans HP2.out.1.size hj))
      go_wp2_with (fail)
      refine hdr.mono ?_
      rintro e w3 ⟨rfl, hp⟩
      have HP3 := Lib.hid (HP2.out.then_ hp)
      clear hp hdr
      go_wp2
      go_ret
      exact ⟨rfl, HP3.out⟩
  · obtain rfl : (s, er) = R := by rw [← HR.out, if_pos he]
    go_wp2
    go_ret
    exact ⟨rfl, HP1.out⟩
set_option maxRecDepth 100000 in
set_option maxHeartbeats 4000000 in
theorem refd_cut (G : Nat → Prop) (g : Nat) (s : DkS) (k : ByteArray) (n : Int) (w : World) (h : RkAt w G g s) (hs : s.Ok) (hG : ∀ k, w.heap.size ≤ k → G k) (hk : k.size ≤ maxLen) :
    Calls Tryd.prog 37 #[.pointer (some ⟨g, 0, none⟩), .string k, .int .i64 n] w fun e w' => e = .returned (.int .i64 (s.cut k n).2) ∧ RkPost w G g (s.cut k n).1 w' := by
  have hkn := refd_known G g s k w h hs hk
  have H := Lib.hid h
  have HG := Lib.hid hG
  have hgw := h.lt
  have HREADY := Lib.hid (fun (G' : Nat → Prop) W (hW : RkAt W G' g s) => refd_ready G' g s W hW hs.l0 hs.l1)
  have HPUT := Lib.hid (fun f W (hW : RkAt W G g s.tick) (hGW : ∀ k, W.heap.size ≤ k → G k) => refd_put G g s.tick k f W hW hs.tick hGW)
  have hfo := hs.file_le k
  have hkN : knownN s.fs k = if knownE s.fs k = 0 then k else ⟨#[]⟩ := rfl
  obtain ⟨R, hR⟩ : ∃ R, s.cut k n = R := ⟨_, rfl⟩
  rw [hR]
  unfold DkS.cut at hR
  generalize fileAt s.fs k = fo at *
  generalize knownN s.fs k = kn at *
  generalize knownE s.fs k = er at *
  obtain ⟨s3, hs3⟩ : ∃ s3, s.tick.set k (cutFile fo n) = s3 := ⟨_, rfl⟩
  rw [hs3] at hR
  have HPUT2 := Lib.hid (fun W hW hGW => HPUT.out (cutFile fo n) W hW hGW)
  rw [hs3] at HPUT2
  clear hs3 HPUT
  generalize s.tick = s2 at *
  have HR := Lib.hid hR
  have HKN := Lib.hid hkN
  clear h hR hs hG hkN
  go_enter Tryd.func37, Tryd.ntmps37
  go_wp2_with (fail)
  refine hkn.mono ?_
  rintro e w1 ⟨rfl, hb⟩
  clear hkn
  have HT1 := Lib.hid ((H.out.below hb).tight.below ((Below.refl _ _).alloc (Nat.le_refl _) (.cells #[.string kn, .string fo.has, .int .i64 fo.safe] 79)))
  have hs1 := hb.size
  have HP1 := Lib.hid (RkPost.of_below H.out (hb.trans ((Below.refl _ _).alloc hb.size (.cells #[.string kn, .string fo.has, .int .i64 fo.safe] 79))))
  have hX := Blk.new w1 79 #[.string kn, .string fo.has, .int .i64 fo.safe]
  have x0 := hX.cell 0
  have x1 := hX.cell 1
  have x2 := hX.cell 2
  have HX := Lib.hid hX
  have hgx : w1.heap.size ≠ g := by have := hb.size; omega
  have HGX := Lib.hid hgx
  clear hb hX hgx
  by_cases he : er = 0
  · subst he
    obtain rfl : k = kn := HKN.out.symm
    by_cases h0 : n < 0
    · have hq := HR.out
      rw [if_neg (show ¬ (0 : Int) ≠ 0 by simp), if_pos (.inl h0)] at hq
      obtain rfl : (s, (1 : Int)) = R := hq
      go_wp2
      go_ret
      exact ⟨rfl, HP1.out⟩
    · have h1 : 0 ≤ n := by omega
      by_cases h2 : (fo.has.size : Int) < n
      · have hq := HR.out
        rw [if_neg (show ¬ (0 : Int) ≠ 0 by simp), if_pos (.inr h2)] at hq
        obtain rfl : (s, (1 : Int)) = R := hq
        go_wp2
        go_ret
        exact ⟨rfl, HP1.out⟩
      · have h3 : n ≤ (fo.has.size : Int) := by omega
        have HR2 := Lib.hid (show (if s2.down = true then (s2, 21) else (s3, (0 : Int))) = R from by have e := HR.out; rw [if_neg (show ¬ (0 : Int) ≠ 0 by simp), if_neg (by omega)] at e; exact e)
        have hr := HREADY.out _ _ HT1.out
        cases hd : s2.down with
        | true =>
          have hq := HR2.out
          rw [hd] at hq
          obtain rfl : (s2, (21 : Int)) = R := hq
          rw [hd] at hr
          go_wp2_with (fail)
          refine hr.mono ?_
          rintro e w2 ⟨rfl, hp⟩
          have HP2 := Lib.hid hp
          clear hp hr
          go_wp2
          go_ret
          exact ⟨rfl, HP1.out.1.trans HP2.out.1, HP2.out.2.mono fun k h => h.1⟩
        | false =>
          have hq := HR2.out
          rw [hd] at hq
          obtain rfl : (s3, (0 : Int)) = R := hq
          rw [hd] at hr
          go_wp2_with (fail)
          refine hr.mono ?_
          rintro e w2 ⟨rfl, hp⟩
          have HX2 := Lib.hid (HX.out.kept hp.1 HGX.out)
          have HP2 := Lib.hid (HP1.out.1.trans hp.1)
          have HA2 := Lib.hid hp.2
          clear hp hr x0 x1 x2
          have y0 := HX2.out.cell 0
          have y1 := HX2.out.cell 1
          have y2 := HX2.out.cell 2
          have z1 := HX2.out.frozen 1
          have z2 := HX2.out.frozen 2
          have hltx := HX2.out.lt
          have HX3 := Lib.hid ((HX2.out.set_ 1 (.string (fo.has.extract 0 n.toNat))).set_ 2 (.int .i64 (min fo.safe n)))
          have HK3 := Lib.hid (((Kept.refl w2 fun k => k = w1.heap.size).setCell (p := ⟨w1.heap.size, 1, none⟩) (.inl rfl) (.string (fo.has.extract 0 n.toNat))).setCell (p := ⟨w1.heap.size, 2, none⟩) (.inl rfl) (.int .i64 (min fo.safe n)))
          have HP3 := Lib.hid (show RkPost w G g s2 _ from ⟨(HP2.out.setCell (p := ⟨w1.heap.size, 1, none⟩) (.inr hs1) (.string (fo.has.extract 0 n.toNat))).setCell (p := ⟨w1.heap.size, 2, none⟩) (.inr hs1) (.int .i64 (min fo.safe n)), (HA2.out.kept HK3.out (fun k _ h e => by have := h.2; omega)).mono fun k h => h.1⟩)
          have c0' := HX3.out.cell 0
          have c1' := HX3.out.cell 1
          have c2' := HX3.out.cell 2
          have hpu := HPUT2.out _ HP3.out.2 (fun j hj => HG.out j (Nat.le_trans HP3.out.1.size hj))
          go_wp2_with (fail)
          refine hpu.mono ?_
          rintro e w5 ⟨rfl, h5⟩
          go_wp2
          go_ret
          exact ⟨rfl, HP3.out.then_ h5⟩
  · obtain rfl : (s, er) = R := by rw [← HR.out, if_pos he]
    go_wp2
    go_ret
    exact ⟨rfl, HP1.out⟩
end Go.Proofs.YtaghdopickgpgaaDoor
