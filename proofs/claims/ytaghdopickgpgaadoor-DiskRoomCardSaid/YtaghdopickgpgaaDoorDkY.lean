import Derived.Test.YtaghdopickgpgaaDoorDkX
namespace Go.Proofs.YtaghdopickgpgaaDoor
open Go Go.RowKit
set_option linter.unusedVariables false
set_option linter.unusedSimpArgs false

/-! DiskSwap. -/
theorem crash_first (k : ByteArray) (X : ByteArray) (rest : Files) (ds : List Int) : crashL ((k, ⟨X, X.size⟩) :: rest) ds = (k, ⟨X, X.size⟩) :: crashL rest ds := by
  have h : crash1 ⟨X, X.size⟩ ds = (⟨X, X.size⟩, ds) := by unfold crash1 tailF; rw [if_pos (by simp)]
  rw [crashL, h]
theorem read_first (k : ByteArray) (f : DF) (rest : Files) (hk : okName k = true) : fileAt ((k, f) :: rest) k = f ∧ knownE ((k, f) :: rest) k = 0 := by
  unfold fileAt knownE
  rw [look_cons, if_pos rfl, if_pos hk]
  exact ⟨rfl, rfl⟩
theorem ok_a : okName ⟨#[97]⟩ = true := by kernel_rfl
theorem ok_b : okName ⟨#[98]⟩ = true := by kernel_rfl
theorem crash_read (s : DkS) (ds : List Int) (k X : ByteArray) (rest : Files) (hk : okName k = true) (h : s.fs = (k, ⟨X, X.size⟩) :: rest) : (fileAt (s.crashed ds).fs k).has = X ∧ knownE (s.crashed ds).fs k = 0 := by
  have e : (s.crashed ds).fs = (k, ⟨X, X.size⟩) :: crashL rest ds := by
    show crashL s.fs ds = _
    rw [h, crash_first]
  rw [e]
  have := read_first k ⟨X, X.size⟩ (crashL rest ds) hk
  exact ⟨by rw [this.1], this.2⟩
abbrev oneS (X : ByteArray) (fu : Bool) (l : Int) : DkS := ⟨5000, X.size, [(⟨#[97]⟩, ⟨X, X.size⟩)], fu, false, l⟩
theorem sync_one (X : ByteArray) : DkS.sync ⟨5000, X.size, [(⟨#[97]⟩, ⟨X, 0⟩)], false, false, 0⟩ = (oneS X false 0, 0) := by kernel_rfl
theorem fused_b0 (X Y : ByteArray) (h : (X.size : Int) + Y.size ≤ 5000) : DkS.append (oneS X true 0) ⟨#[98]⟩ Y = ({ oneS X true 0 with down := true }, 21) := by
  unfold DkS.append
  rw [if_neg (by rw [ok_b]; simp), if_neg (show ¬ DkS.tight (oneS X true 0) ⟨#[98]⟩ Y from fun h => by unfold DkS.tight at h; simp at h; omega)]
  rfl
abbrev twoS (X Y : ByteArray) (sy : Int) (l : Int) (dn : Bool) : DkS := ⟨5000, (X.size : Int) + Y.size, [(⟨#[97]⟩, ⟨X, X.size⟩), (⟨#[98]⟩, ⟨Y, sy⟩)], true, dn, l⟩
theorem fused_b (X Y : ByteArray) (f : Int) (hf : f ≠ 0) (h : (X.size : Int) + Y.size ≤ 5000) : DkS.append (oneS X true f) ⟨#[98]⟩ Y = (twoS X Y 0 (f - 1) false, 0) := by
  have ht : (oneS X true f).tick = oneS X true (f - 1) := by
    unfold DkS.tick
    rw [if_neg (by simp [hf]), if_pos (by rfl)]
  unfold DkS.append
  rw [if_neg (by rw [ok_b]; simp), if_neg (show ¬ DkS.tight (oneS X true f) ⟨#[98]⟩ Y from fun h => by unfold DkS.tight at h; simp at h; omega), ht, if_neg (by simp)]
  have e : DkS.set (oneS X true (f - 1)) ⟨#[98]⟩ ⟨(fileAt (oneS X true f).fs ⟨#[98]⟩).has ++ Y, (fileAt (oneS X true f).fs ⟨#[98]⟩).safe⟩ = ⟨5000, (X.size : Int) + (((⟨#[]⟩ ++ Y : ByteArray).size : Int) - ((⟨#[]⟩ : ByteArray).size : Int)), [(⟨#[97]⟩, ⟨X, X.size⟩), (⟨#[98]⟩, ⟨⟨#[]⟩ ++ Y, 0⟩)], true, false, f - 1⟩ := by kernel_rfl
  rw [e, nil_append]
  show ((⟨5000, (X.size : Int) + ((Y.size : Int) - 0), _, true, false, f - 1⟩ : DkS), (0 : Int)) = _
  rw [Int.sub_zero]
theorem sync_two0 (X Y : ByteArray) : (twoS X Y 0 0 false).sync = (twoS X Y 0 0 true, 21) := by kernel_rfl
theorem sync_two (X Y : ByteArray) (f : Int) (hf : f ≠ 0) : (twoS X Y 0 f false).sync = (twoS X Y Y.size (f - 1) false, 0) := by
  have ht : (twoS X Y 0 f false).tick = twoS X Y 0 (f - 1) false := by
    unfold DkS.tick
    rw [if_neg (by simp [hf]), if_pos (by rfl)]
  unfold DkS.sync
  rw [ht, if_neg (by simp)]
  rfl
theorem ren_two0 (X Y : ByteArray) : (twoS X Y Y.size 0 false).rename ⟨#[98]⟩ ⟨#[97]⟩ = (twoS X Y Y.size 0 true, 21) := by kernel_rfl
theorem ren_two (X Y : ByteArray) (f : Int) (hf : f ≠ 0) : (twoS X Y Y.size f false).rename ⟨#[98]⟩ ⟨#[97]⟩ = (oneS Y true (f - 1), 0) := by
  have ht : (twoS X Y Y.size f false).tick = twoS X Y Y.size (f - 1) false := by
    unfold DkS.tick
    rw [if_neg (by simp [hf]), if_pos (by rfl)]
  have hk : knownE (twoS X Y Y.size f false).fs ⟨#[98]⟩ = 0 := by kernel_rfl
  have hok : (okName ⟨#[98]⟩ && okName ⟨#[97]⟩) = true := by kernel_rfl
  unfold DkS.rename
  rw [if_neg (by rw [hok]; simp), if_neg (by rw [hk]; simp), ht, if_neg (by simp)]
  have e : ((twoS X Y Y.size (f - 1) false).drop ⟨#[98]⟩).set ⟨#[97]⟩ (fileAt (twoS X Y Y.size f false).fs ⟨#[98]⟩) = ⟨5000, (X.size : Int) + Y.size - Y.size + ((Y.size : Int) - X.size), [(⟨#[97]⟩, ⟨Y, Y.size⟩)], true, false, f - 1⟩ := by kernel_rfl
  rw [e, show (X.size : Int) + Y.size - Y.size + ((Y.size : Int) - X.size) = Y.size by omega]
attribute [local go_sem] toList_beq
set_option maxRecDepth 100000 in
set_option maxHeartbeats 8000000 in
theorem swap_walk (was will : ByteArray) (cs : Array Value) (w : World) (h1 : was.size ≤ 140737488351232) (h2 : will.size ≤ 140737488351232) (hS : Shape.SK.oks Tryd.prog w [.int .i64, .row 3 [.int .i64]] cs.toList) :
    Calls Tryd.prog 5 #[.string was, .string will, .agg cs] w fun e w' => e = .returned (.bool true) ∧ Below w.heap.size w w' := by
  obtain ⟨v1, vs, e1, h1', hS⟩ := oks_cons hS
  have hS2 := hS
  obtain ⟨v2, vs2, e2, h2', hS⟩ := oks_cons hS
  obtain rfl := oks_nil hS
  subst e2
  simp only [Shape.SK.ok] at h1' h2'
  obtain ⟨fz, rfl, _⟩ := h1'
  obtain ⟨A2, len2, cap2, rows, rfl, _⟩ := h2'
  obtain ⟨ds, hdl, hD⟩ := segG_draws hS2
  obtain rfl : cs = #[.int .i64 fz, .slice A2 len2 cap2] := by apply Array.toList_inj.1; rw [e1]
  subst hdl
  have HD := Lib.hid hD
  have hcapd : ds.length ≤ cap2 := by obtain ⟨A', c', hv, hc, _⟩ := hD; injection hv with _ _ hc2; omega
  have HCD := Lib.hid hcapd
  have hbd := amg_bounds fz 5 (by decide) (by decide)
  have ham := fun W => among_calls fz 5 W (by decide) (by decide)
  generalize amg fz 5 = f at *
  have HAM := Lib.hid ham
  clear hS hS2 e1 hD hcapd ham
  have HBX := Lib.hid (Blk.new w 40 #[.int .i64 fz, .slice A2 ds.length cap2])
  have HB0 := Lib.hid ((Below.refl w.heap.size w).alloc (Nat.le_refl _) (.cells #[.int .i64 fz, .slice A2 ds.length cap2] 40))
  go_enter Tryd.func5, Tryd.ntmps5
  have HD1 := Lib.hid (HD.out.below HB0.out)
  have hb0 := HBX.out.cell 0
  have hb1 := HBX.out.cell 1
  have hsz : w.heap.size < (w.alloc (.cells #[.int .i64 fz, .slice A2 ds.length cap2] 40)).heap.size := by simp
  go_wp2_with (fail)
  generalize w.alloc (.cells #[.int .i64 fz, .slice A2 ds.length cap2] 40) = wb at *
  have hc := LoneK.new (w0 := wb) (w := wb) 5000 (Below.refl _ _) (by decide) (by decide)
  go_wp2_with (fail)
  refine hc.mono ?_
  rintro e w1 ⟨g, F, rfl, h, _⟩
  clear hc
  have H1 := Lib.hid h
  clear h
  have hc := works_calls w1
  go_wp2_with (fail)
  refine hc.mono ?_
  rintro e w2 ⟨rfl, hb2⟩
  clear hc
  have H2 := Lib.hid (H1.out.below hb2)
  clear hb2 H1
  have cell : ∀ W s i, LoneK wb W F g s → W.cell? ⟨w.heap.size, i, none⟩ = wb.cell? ⟨w.heap.size, i, none⟩ := fun _ _ _ h => h.back.cell (p := ⟨w.heap.size, _, none⟩) hsz
  have CELL := Lib.hid cell
  clear cell
  by_cases q1 : was.size ≤ 1000
  · have g1 : (was.size : Int) ≤ 1000 := by omega
    by_cases q2 : will.size ≤ 1000
    · have g2 : (will.size : Int) ≤ 1000 := by omega
      have d1 := (CELL.out _ _ 1 H2.out).trans hb1
      by_cases q3 : ds.length ≤ 4096
      · have g3 : (ds.length : Int) ≤ 4096 := by omega
        have Q3 := Lib.hid q3
        clear q1 q2 q3
        have hc := H2.out.append ⟨#[97]⟩ was (by decide) h1
        rw [first_a 5000 was (by omega)] at hc
        go_wp2_with (fail)
        refine hc.mono ?_
        rintro e w3 ⟨rfl, h, hk⟩
        have H3 := Lib.hid h
        clear hc h hk H2
        clear d1
        have hc := H3.out.sync
        rw [sync_one was] at hc
        go_wp2_with (fail)
        refine hc.mono ?_
        rintro e w4 ⟨rfl, h, hk⟩
        have H4 := Lib.hid h
        clear hc h hk H3
        have d0 := (CELL.out _ _ 0 H4.out).trans hb0
        have hc := HAM.out w4
        go_wp2_with (fail)
        refine hc.mono ?_
        rintro e w5 ⟨rfl, rfl⟩
        clear hc d0
        have hc := H4.out.fuse f hbd.1 (by omega)
        go_wp2_with (fail)
        refine hc.mono ?_
        rintro e w6 ⟨rfl, h, hk⟩
        have H5 := Lib.hid h
        clear hc h hk H4
        have hf5 : f = 0 ∨ f = 1 ∨ f = 2 ∨ 3 ≤ f := by omega
        rcases hf5 with rfl | rfl | rfl | hf3
        · have hc := H5.out.append ⟨#[98]⟩ will (by decide) h2
          rw [fused_b0 was will (by omega)] at hc
          go_wp2_with (fail)
          refine hc.mono ?_
          rintro e w7 ⟨rfl, h, hk⟩
          have H6 := Lib.hid h
          clear hc h hk H5
          have d1 := (CELL.out _ _ 1 H6.out).trans hb1
          have hc := H6.out.crash A2 ds cap2 (H6.out.draws HD1.out) Q3.out HCD.out
          go_wp2_with (fail)
          refine hc.mono ?_
          rintro e w8 ⟨rfl, h, hk⟩
          have H7 := Lib.hid h
          clear hc h hk H6
          clear d1
          have HR := Lib.hid (crash_read { oneS was true 0 with down := true } ds ⟨#[97]⟩ was [] ok_a rfl)
          have hc := H7.out.read ⟨#[97]⟩ (by decide)
          rw [HR.out.1, HR.out.2] at hc
          go_wp2_with (fail)
          refine hc.mono ?_
          rintro e w9 ⟨rfl, h, hk⟩
          have H8 := Lib.hid h
          clear hc h hk H7
          by_cases hq : was = will
          · have q := decide_eq_true hq
            clear hq
            go_wp2
            go_ret
            exact ⟨rfl, HB0.out.trans (H8.out.back.mono (by omega))⟩
          · have q := decide_eq_false hq
            clear hq
            go_wp2
            go_ret
            exact ⟨rfl, HB0.out.trans (H8.out.back.mono (by omega))⟩
        · have hc := H5.out.append ⟨#[98]⟩ will (by decide) h2
          rw [(show DkS.append (oneS was true 1) ⟨#[98]⟩ will = (twoS was will 0 0 false, 0) from fused_b was will 1 (by decide) (by omega))] at hc
          go_wp2_with (fail)
          refine hc.mono ?_
          rintro e w7 ⟨rfl, h, hk⟩
          have H6 := Lib.hid h
          clear hc h hk H5
          have hc := H6.out.sync
          rw [sync_two0 was will] at hc
          go_wp2_with (fail)
          refine hc.mono ?_
          rintro e w7b ⟨rfl, h, hk⟩
          have H6b := Lib.hid h
          clear hc h hk H6
          have d1 := (CELL.out _ _ 1 H6b.out).trans hb1
          have hc := H6b.out.crash A2 ds cap2 (H6b.out.draws HD1.out) Q3.out HCD.out
          go_wp2_with (fail)
          refine hc.mono ?_
          rintro e w8 ⟨rfl, h, hk⟩
          have H7 := Lib.hid h
          clear hc h hk H6b
          clear d1
          have HR := Lib.hid (crash_read (twoS was will 0 0 true) ds ⟨#[97]⟩ was _ ok_a rfl)
          have hc := H7.out.read ⟨#[97]⟩ (by decide)
          rw [HR.out.1, HR.out.2] at hc
          go_wp2_with (fail)
          refine hc.mono ?_
          rintro e w9 ⟨rfl, h, hk⟩
          have H8 := Lib.hid h
          clear hc h hk H7
          by_cases hq : was = will
          · have q := decide_eq_true hq
            clear hq
            go_wp2
            go_ret
            exact ⟨rfl, HB0.out.trans (H8.out.back.mono (by omega))⟩
          · have q := decide_eq_false hq
            clear hq
            go_wp2
            go_ret
            exact ⟨rfl, HB0.out.trans (H8.out.back.mono (by omega))⟩
        · have hc := H5.out.append ⟨#[98]⟩ will (by decide) h2
          rw [(show DkS.append (oneS was true 2) ⟨#[98]⟩ will = (twoS was will 0 1 false, 0) from fused_b was will 2 (by decide) (by omega))] at hc
          go_wp2_with (fail)
          refine hc.mono ?_
          rintro e w7 ⟨rfl, h, hk⟩
          have H6 := Lib.hid h
          clear hc h hk H5
          have hc := H6.out.sync
          rw [(show (twoS was will 0 1 false).sync = (twoS was will will.size 0 false, 0) from sync_two was will 1 (by decide))] at hc
          go_wp2_with (fail)
          refine hc.mono ?_
          rintro e w7b ⟨rfl, h, hk⟩
          have H6b := Lib.hid h
          clear hc h hk H6
          have hc := H6b.out.rename ⟨#[98]⟩ ⟨#[97]⟩ (by decide) (by decide)
          rw [ren_two0 was will] at hc
          go_wp2_with (fail)
          refine hc.mono ?_
          rintro e w7c ⟨rfl, h, hk⟩
          have H6c := Lib.hid h
          clear hc h hk H6b
          have d1 := (CELL.out _ _ 1 H6c.out).trans hb1
          have hc := H6c.out.crash A2 ds cap2 (H6c.out.draws HD1.out) Q3.out HCD.out
          go_wp2_with (fail)
          refine hc.mono ?_
          rintro e w8 ⟨rfl, h, hk⟩
          have H7 := Lib.hid h
          clear hc h hk H6c
          clear d1
          have HR := Lib.hid (crash_read (twoS was will will.size 0 true) ds ⟨#[97]⟩ was _ ok_a rfl)
          have hc := H7.out.read ⟨#[97]⟩ (by decide)
          rw [HR.out.1, HR.out.2] at hc
          go_wp2_with (fail)
          refine hc.mono ?_
          rintro e w9 ⟨rfl, h, hk⟩
          have H8 := Lib.hid h
          clear hc h hk H7
          by_cases hq : was = will
          · have q := decide_eq_true hq
            clear hq
            go_wp2
            go_ret
            exact ⟨rfl, HB0.out.trans (H8.out.back.mono (by omega))⟩
          · have q := decide_eq_false hq
            clear hq
            go_wp2
            go_ret
            exact ⟨rfl, HB0.out.trans (H8.out.back.mono (by omega))⟩
        · have hc := H5.out.append ⟨#[98]⟩ will (by decide) h2
          rw [fused_b was will f (by omega) (by omega)] at hc
          go_wp2_with (fail)
          refine hc.mono ?_
          rintro e w7 ⟨rfl, h, hk⟩
          have H6 := Lib.hid h
          clear hc h hk H5
          have hc := H6.out.sync
          rw [sync_two was will (f - 1) (by omega)] at hc
          go_wp2_with (fail)
          refine hc.mono ?_
          rintro e w7b ⟨rfl, h, hk⟩
          have H6b := Lib.hid h
          clear hc h hk H6
          have hc := H6b.out.rename ⟨#[98]⟩ ⟨#[97]⟩ (by decide) (by decide)
          rw [ren_two was will (f - 1 - 1) (by omega)] at hc
          go_wp2_with (fail)
          refine hc.mono ?_
          rintro e w7c ⟨rfl, h, hk⟩
          have H6c := Lib.hid h
          clear hc h hk H6b
          have d1 := (CELL.out _ _ 1 H6c.out).trans hb1
          have hc := H6c.out.crash A2 ds cap2 (H6c.out.draws HD1.out) Q3.out HCD.out
          go_wp2_with (fail)
          refine hc.mono ?_
          rintro e w8 ⟨rfl, h, hk⟩
          have H7 := Lib.hid h
          clear hc h hk H6c
          clear d1
          have HR := Lib.hid (crash_read (oneS will true (f - 1 - 1 - 1)) ds ⟨#[97]⟩ will _ ok_a rfl)
          have hc := H7.out.read ⟨#[97]⟩ (by decide)
          rw [HR.out.1, HR.out.2] at hc
          go_wp2_with (fail)
          refine hc.mono ?_
          rintro e w9 ⟨rfl, h, hk⟩
          have H8 := Lib.hid h
          clear hc h hk H7
          go_wp2
          go_ret
          exact ⟨rfl, HB0.out.trans (H8.out.back.mono (by omega))⟩
      · have g3 : (4096 : Int) < (ds.length : Int) := by omega
        clear q1 q2 q3
        go_wp2
        go_ret
        exact ⟨rfl, HB0.out.trans (H2.out.back.mono (by omega))⟩
    · have g2 : (1000 : Int) < (will.size : Int) := by omega
      go_wp2
      go_ret
      exact ⟨rfl, HB0.out.trans (H2.out.back.mono (by omega))⟩
  · have g1 : (1000 : Int) < (was.size : Int) := by omega
    go_wp2
    go_ret
    exact ⟨rfl, HB0.out.trans (H2.out.back.mono (by omega))⟩
end Go.Proofs.YtaghdopickgpgaaDoor
