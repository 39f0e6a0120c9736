import Derived.Test.YtaghdopickgpgaaDoorDkE
namespace Go.Proofs.YtaghdopickgpgaaDoor
open Go Go.RowKit
set_option linter.unusedVariables false
set_option linter.unusedSimpArgs false

/-- Cut: the disk behind it, what it answers. -/
def cutFile (f : DF) (n : Int) : DF := ⟨f.has.extract 0 n.toNat, min f.safe n⟩
def DkS.cut (s : DkS) (k : ByteArray) (n : Int) : DkS × Int :=
  if knownE s.fs k ≠ 0 then (s, knownE s.fs k) else if n < 0 ∨ ((fileAt s.fs k).has.size : Int) < n then (s, 1) else if s.tick.down = true then (s.tick, 21) else (s.tick.set k (cutFile (fileAt s.fs k) n), 0)
set_option maxRecDepth 100000 in
set_option maxHeartbeats 1000000 in
theorem disk_cut (F : Nat → Prop) (g : Nat) (s : DkS) (k : ByteArray) (n : Int) (w : World) (h : DkAt w F g s) (hs : s.Ok) (hk : k.size ≤ maxLen) :
    Calls Tryd.prog 21 #[.pointer (some ⟨g, 0, none⟩), .string k, .int .i64 n] w fun e w' => e = .returned (.int .i64 (s.cut k n).2) ∧ DkPost w F g (s.cut k n).1 w' := by
  have hkn := disk_known F g s k w h hk
  have H := Lib.hid h
  have HREADY := Lib.hid (fun W (hW : DkAt W F g s) => disk_ready F g s W hW hs.l0 hs.l1)
  have hext : (cutFile (fileAt s.fs k) n).has.size ≤ 140737488355328 := by
    have := hs.file_le' k
    unfold cutFile
    rw [ByteArray.size_extract]
    omega
  have HSET := Lib.hid (fun W (hW : DkAt W F g s.tick) => disk_set F g s.tick k (cutFile (fileAt s.fs k) n) W hW hk hs.tick.u0 (by have := hs.tick.u1; have := hs.tick.r1; omega) hext (by have := hs.tick.file_le' k; omega) hs.tick.n)
  have hfo := hs.file_le k
  obtain ⟨R, hR⟩ : ∃ R, s.cut k n = R := ⟨_, rfl⟩
  rw [hR]
  unfold DkS.cut at hR
  clear hext
  generalize fileAt s.fs k = fo at *
  generalize knownE s.fs k = er at *
  generalize s.tick.set k (cutFile fo n) = s3 at *
  generalize s.tick = s2 at *
  have HR := Lib.hid hR
  clear h hR hs
  go_enter Tryd.func21, Tryd.ntmps21
  go_wp2_with (fail)
  refine hkn.mono ?_
  rintro e w1 ⟨rfl, hb⟩
  clear hkn
  have HP1 := Lib.hid (DkPost.of_below H.out (hb.trans ((Below.refl _ _).alloc hb.size (.cells #[.string fo.has, .int .i64 fo.safe] 64))))
  have hnx : ¬ F w1.heap.size := fun hF => absurd ((H.out.below hb).foot hF) (Nat.lt_irrefl _)
  have hnx := Lib.hid hnx
  clear hb
  by_cases he : er = 0
  · subst he
    by_cases h0 : n < 0
    · have hq := HR.out
      rw [if_neg (show ¬ (0 : Int) ≠ 0 by simp), if_pos (.inl h0)] at hq
      obtain rfl : (s, (1 : Int)) = R := hq
      go_wp2
      go_ret
      exact ⟨rfl, HP1.out⟩
    · have h1 : 0 ≤ n := by omega
      by_cases h2 : (fo.has.size : Int) < n
      · have hq := HR.out
        rw [if_neg (show ¬ (0 : Int) ≠ 0 by simp), if_pos (.inr h2)] at hq
        obtain rfl : (s, (1 : Int)) = R := hq
        go_wp2
        go_ret
        exact ⟨rfl, HP1.out⟩
      · have h3 : n ≤ (fo.has.size : Int) := by omega
        have HR2 := Lib.hid (show (if s2.down = true then (s2, 21) else (s3, (0 : Int))) = R from by have e := HR.out; rw [if_neg (show ¬ (0 : Int) ≠ 0 by simp), if_neg (by omega)] at e; exact e)
        have hr := HREADY.out _ HP1.out.2
        have hX := (Blk.new w1 64 #[.string fo.has, .int .i64 fo.safe])
        have x0 := hX.cell 0
        have x1 := hX.cell 1
        have HX := Lib.hid hX
        clear hX
        cases hd : s2.down with
        | true =>
          have hq := HR2.out
          rw [hd] at hq
          obtain rfl : (s2, (21 : Int)) = R := hq
          rw [hd] at hr
          go_wp2_with (fail)
          refine hr.mono ?_
          rintro e w2 ⟨rfl, hp⟩
          have HP2 := Lib.hid hp
          clear hp hr
          go_wp2
          go_ret
          exact ⟨rfl, HP1.out.then_ HP2.out⟩
        | false =>
          have hq := HR2.out
          rw [hd] at hq
          obtain rfl : (s3, (0 : Int)) = R := hq
          rw [hd] at hr
          go_wp2_with (fail)
          refine hr.mono ?_
          rintro e w2 ⟨rfl, hp⟩
          have hX2 := HX.out.kept hp.1 hnx.out
          have y0 := hX2.cell 0
          have y1 := hX2.cell 1
          have HP2 := Lib.hid (HP1.out.then_ hp)
          clear hp hr x0 x1 hX2 HX
          have hset : ∀ W, DkAt W F g s2 → Calls Tryd.prog 31 #[.pointer (some ⟨g, 0, none⟩), .string k, .agg #[.string (fo.has.extract 0 n.toNat), .int .i64 (min fo.safe n)]] W _ := HSET.out
          have HSET2 := Lib.hid hset
          clear hset
          go_wp2_with (fail)
          go_region_with (refine (HSET2.out _ (HP2.out.2.kept ((Kept.refl w2 fun _ => False).drew) (fun _ _ _ h => h))).mono ?_; rintro e w3 ⟨rfl, hp⟩; have HP3 := Lib.hid hp; clear hp)
          all_goals go_wp2
          all_goals (go_ret; exact ⟨rfl, HP2.out.then_ ⟨((Kept.refl w2 F).drewN 1).trans HP3.out.1, HP3.out.2⟩⟩)
  · obtain rfl : (s, er) = R := by rw [← HR.out, if_pos he]
    go_wp2
    go_ret
    exact ⟨rfl, HP1.out⟩
end Go.Proofs.YtaghdopickgpgaaDoor
