import Derived.Test.YtaghdopickgpgaaDoorDkE
namespace Go.Proofs.YtaghdopickgpgaaDoor
open Go Go.RowKit
set_option linter.unusedVariables false
set_option linter.unusedSimpArgs false

/-- Rename: the disk behind it, what it answers. -/
def DkS.rename (s : DkS) (a b : ByteArray) : DkS × Int :=
  if (okName a && okName b) = false then (s, 20) else if knownE s.fs a ≠ 0 then (s, knownE s.fs a) else if s.tick.down = true then (s.tick, 21) else ((s.tick.drop a).set b (fileAt s.fs a), 0)
set_option maxRecDepth 100000 in
set_option maxHeartbeats 1000000 in
theorem disk_rename (F : Nat → Prop) (g : Nat) (s : DkS) (a b : ByteArray) (w : World) (h : DkAt w F g s) (hs : s.Ok) (ha : a.size ≤ maxLen) (hb : b.size ≤ maxLen) :
    Calls Tryd.prog 17 #[.pointer (some ⟨g, 0, none⟩), .string a, .string b] w fun e w' => e = .returned (.int .i64 (s.rename a b).2) ∧ DkPost w F g (s.rename a b).1 w' := by
  have hmay := may_two a b w _ rfl ha hb
  have HKN := Lib.hid (fun W (hW : DkAt W F g s) => disk_known F g s a W hW ha)
  have H := Lib.hid h
  have HREADY := Lib.hid (fun W (hW : DkAt W F g s) => disk_ready F g s W hW hs.l0 hs.l1)
  have HDROP := Lib.hid (fun W (hW : DkAt W F g s.tick) => disk_drop F g s.tick a W hW ha hs.tick.u0 (by have := hs.tick.u1; have := hs.tick.r1; omega) (by have := hs.tick.file_le' a; omega))
  have hd := hs.tick.drop a
  have HSET := Lib.hid (fun W (hW : DkAt W F g (s.tick.drop a)) => disk_set F g (s.tick.drop a) b (fileAt s.fs a) W hW hb hd.u0 (by have := hd.u1; have := hd.r1; omega) (by have := hs.file_le' a; omega) (by have := hd.file_le' b; omega) hd.n)
  clear hd
  obtain ⟨R, hR⟩ : ∃ R, s.rename a b = R := ⟨_, rfl⟩
  rw [hR]
  unfold DkS.rename at hR
  generalize fileAt s.fs a = fo at *
  generalize knownE s.fs a = er at *
  generalize (s.tick.drop a).set b fo = s4 at *
  generalize s.tick.drop a = s3 at *
  generalize s.tick = s2 at *
  generalize (okName a && okName b) = p at *
  have HR := Lib.hid hR
  clear h hR hs
  go_enter Tryd.func17, Tryd.ntmps17
  go_wp2_with (fail)
  refine hmay.mono ?_
  rintro e w0 ⟨rfl, hb0⟩
  clear hmay
  have HB0 := Lib.hid hb0
  clear hb0
  cases p with
  | false =>
    obtain rfl : (s, (20 : Int)) = R := HR.out
    go_wp2
    go_ret
    exact ⟨rfl, DkPost.of_below H.out HB0.out⟩
  | true =>
    have hkn := HKN.out w0 (H.out.below HB0.out)
    go_wp2_with (fail)
    refine hkn.mono ?_
    rintro e w1 ⟨rfl, hb⟩
    clear hkn
    have hb1 := below_next HB0.out hb
    have HP1 := Lib.hid (DkPost.of_below H.out (hb1.trans ((Below.refl _ _).alloc hb1.size (.cells #[.string fo.has, .int .i64 fo.safe] 64))))
    have hnx : ¬ F w1.heap.size := fun hF => absurd ((H.out.below hb1).foot hF) (Nat.lt_irrefl _)
    have hnx := Lib.hid hnx
    clear hb hb1
    by_cases he : er = 0
    · subst he
      have HR2 := Lib.hid (show (if s2.down = true then (s2, 21) else (s4, (0 : Int))) = R from by have e := HR.out; rw [if_neg (show ¬ true = false by simp), if_neg (show ¬ (0 : Int) ≠ 0 by simp)] at e; exact e)
      have hr := HREADY.out _ HP1.out.2
      have hX := (Blk.new w1 64 #[.string fo.has, .int .i64 fo.safe])
      have HX := Lib.hid hX
      clear hX
      cases hd : s2.down with
      | true =>
        have hq := HR2.out
        rw [hd] at hq
        obtain rfl : (s2, (21 : Int)) = R := hq
        rw [hd] at hr
        go_wp2_with (fail)
        refine hr.mono ?_
        rintro e w2 ⟨rfl, hp⟩
        have HP2 := Lib.hid hp
        clear hp hr
        go_wp2
        go_ret
        exact ⟨rfl, HP1.out.then_ HP2.out⟩
      | false =>
        have hq := HR2.out
        rw [hd] at hq
        obtain rfl : (s4, (0 : Int)) = R := hq
        rw [hd] at hr
        go_wp2_with (fail)
        refine hr.mono ?_
        rintro e w2 ⟨rfl, hp⟩
        have hX2 := Lib.hid (HX.out.kept hp.1 hnx.out)
        have HP2 := Lib.hid (HP1.out.then_ hp)
        clear hp hr HX
        have hdr := HDROP.out _ HP2.out.2
        go_wp2_with (fail)
        refine hdr.mono ?_
        rintro e w3 ⟨rfl, hp⟩
        have hX3 := hX2.out.kept hp.1 hnx.out
        have y0 := hX3.cell 0
        have y1 := hX3.cell 1
        have HP3 := Lib.hid (HP2.out.then_ hp)
        clear hp hdr hX3 hX2
        have hse := HSET.out _ HP3.out.2
        go_wp2_with (fail)
        refine hse.mono ?_
        rintro e w4 ⟨rfl, hp⟩
        have HP4 := Lib.hid (HP3.out.then_ hp)
        clear hp hse
        go_wp2
        go_ret
        exact ⟨rfl, HP4.out⟩
    · have hq := HR.out
      rw [if_neg (show ¬ true = false by simp), if_pos he] at hq
      obtain rfl : (s, er) = R := hq
      go_wp2
      go_ret
      exact ⟨rfl, HP1.out⟩
end Go.Proofs.YtaghdopickgpgaaDoor
