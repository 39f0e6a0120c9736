import Derived.Test.YtaghdopickgpgaaDoorDkU
namespace Go.Proofs.YtaghdopickgpgaaDoor
open Go Go.RowKit
set_option linter.unusedVariables false
set_option linter.unusedSimpArgs false

/-! DiskSynced. -/
theorem crashL_safe {fs : Files} (h : ∀ p ∈ fs, p.2.safe = (p.2.has.size : Int)) (ds : List Int) : crashL fs ds = fs := by
  induction fs generalizing ds with
  | nil => rfl
  | cons p fs ih =>
    have h1 : crash1 p.2 ds = (p.2, ds) := by unfold crash1 tailF; rw [if_pos (by have := h p (by simp); omega)]
    rw [crashL, h1, ih (fun q hq => h q (by simp [hq]))]
theorem crash1_safe {f : DF} (h : 0 ≤ f.safe ∧ f.safe ≤ (f.has.size : Int)) (ds : List Int) : (crash1 f ds).1.safe = ((crash1 f ds).1.has.size : Int) := by
  have key : ∀ keep : Int, 0 ≤ keep → keep ≤ tailF f → (tornF f keep).safe = ((tornF f keep).has.size : Int) := by
    intro keep h0 h1
    unfold tornF tailF at *
    simp only [ByteArray.size_extract]
    omega
  unfold crash1
  split
  · rename_i ht
    show f.safe = (f.has.size : Int)
    unfold tailF at ht
    omega
  · cases ds with
    | nil => exact key 0 (Int.le_refl _) (by unfold tailF; omega)
    | cons d ds =>
      have ht : 0 ≤ tailF f := by unfold tailF; omega
      exact key _ (Int.emod_nonneg _ (by omega)) (by have := Int.emod_lt_of_pos (max 0 d) (show 0 < tailF f + 1 by omega); unfold keepN; omega)
theorem crash_all_safe {fs : Files} (hs : ∀ p ∈ fs, 0 ≤ p.2.safe ∧ p.2.safe ≤ (p.2.has.size : Int)) (ds : List Int) : ∀ p ∈ crashL fs ds, p.2.safe = (p.2.has.size : Int) := by
  induction fs generalizing ds with
  | nil => intro p hp; cases hp
  | cons p fs ih =>
    intro q hq
    rw [crashL] at hq
    rcases List.mem_cons.1 hq with rfl | hq
    · exact crash1_safe (hs p (by simp)) ds
    · exact ih (fun q hq => hs q (by simp [hq])) _ q hq
theorem crash_twice {s : DkS} (h : s.Ok) (ds ds' : List Int) : ((s.crashed ds).crashed ds').fs = (s.crashed ds).fs := crashL_safe (crash_all_safe h.safe ds) ds'
theorem sync_free {s : DkS} (h : s.free) : s.sync = (s.synced, 0) := by unfold DkS.sync; rw [tick_free h.1, h.2]; rfl
theorem synced_safe (s : DkS) : ∀ p ∈ s.synced.fs, p.2.safe = (p.2.has.size : Int) := by
  intro p hp
  obtain ⟨q, _, rfl⟩ := List.mem_map.1 hp
  rfl
theorem synced_crash (s : DkS) (ds : List Int) : (s.synced.crashed ds).fs = s.synced.fs := crashL_safe (synced_safe s) ds
theorem segG_draws {w : World} {A : Option Addr} {len cap : Nat} (h : Shape.SK.oks Tryd.prog w [.row 3 [.int .i64]] [.slice A len cap]) : ∃ ds : List Int, ds.length = len ∧ SegG w icell (.slice A len cap) ds := by
  obtain ⟨v, vs, e, h, _⟩ := oks_cons h
  simp only [Shape.SK.ok] at h
  obtain ⟨A', len', cap', rows, hv, h1, h2, h3, h4, h5, h7, h6⟩ := h
  simp only [List.cons.injEq] at e
  rw [hv] at e
  simp only [Value.slice.injEq] at e
  obtain ⟨⟨rfl, rfl, rfl⟩, _⟩ := e
  obtain ⟨xs, hx, _⟩ := rows_map icell (fun _ => True) open_int1 rows h6
  exact ⟨xs, by rw [← h4, hx, List.length_map], segG_of_rows (sz := 1) (fun _ => rfl) (by decide) xs hx h4 h1 h2 h5⟩
theorem acts_len {w : World} {A : Option Addr} {len cap : Nat} (h : Shape.SK.oks Tryd.prog w [.row 45 actSK] [.slice A len cap]) : len ≤ 140737488351232 := by
  have hb : Tryd.prog.bytesOf 45 = 72 := by kernel_rfl
  obtain ⟨v, vs, e, h, _⟩ := oks_cons h
  simp only [Shape.SK.ok] at h
  obtain ⟨A', len', cap', rows, hv, h1, h2, h3, h4, h5, h7, h6⟩ := h
  simp only [List.cons.injEq] at e
  rw [hv] at e
  simp only [Value.slice.injEq] at e
  obtain ⟨⟨rfl, rfl, rfl⟩, _⟩ := e
  rw [hb] at h3
  omega
set_option maxRecDepth 100000 in
set_option maxHeartbeats 8000000 in
theorem synced_walk (room : Int) (A : Option Addr) (len cap : Nat) (A2 : Option Addr) (len2 cap2 : Nat) (w : World) (hwf : (Lit.int .i64 room).wf = true) (hS : Shape.SK.oks Tryd.prog w [.row 45 actSK] [.slice A len cap]) (hS2 : Shape.SK.oks Tryd.prog w [.row 3 [.int .i64]] [.slice A2 len2 cap2]) :
    Calls Tryd.prog 7 #[.int .i64 room, .slice A len cap, .slice A2 len2 cap2] w fun e w' => e = .returned (.bool true) ∧ Below w.heap.size w w' := by
  obtain ⟨xs, hxl, hX, hfit⟩ := open_acts hS
  obtain ⟨ds, hdl, hD⟩ := segG_draws hS2
  have hlen := acts_len hS
  have HX := Lib.hid hX
  have HFIT := Lib.hid hfit
  have HXL := Lib.hid hxl
  subst hdl
  have HD := Lib.hid hD
  have hcapd : ds.length ≤ cap2 := by obtain ⟨A', c', hv, hc, _⟩ := hD; injection hv with _ _ hc2; omega
  have HLEN := Lib.hid hlen
  have HCD := Lib.hid hcapd
  have hw := works_calls w
  clear hS hX hfit hxl hS2 hwf hD hlen hcapd
  go_enter Tryd.func7, Tryd.ntmps7
  go_wp2_with (fail)
  refine hw.mono ?_
  rintro e w1 ⟨rfl, hb1⟩
  have HB1 := Lib.hid hb1
  have hg := grown_calls w w1 room A len cap xs HXL.out HX.out HFIT.out hb1 HLEN.out
  have HSF := Lib.hid (grown_free (amg room 2000) xs)
  generalize hs : grownS (amg room 2000) xs = s at hg HSF
  have HEQ := Lib.hid hs
  clear hw hb1 hs
  go_wp2_with (fail)
  refine hg.mono ?_
  rintro e w2 ⟨g, F, rfl, h2⟩
  have H2 := Lib.hid h2
  clear hg h2
  by_cases hdl : ds.length ≤ 4096
  · have HDL := Lib.hid hdl
    have hz : (ds.length : Int) ≤ 4096 := by omega
    have hc := H2.out.crash A2 ds cap2 (H2.out.draws HD.out) hdl HCD.out
    clear hdl
    go_wp2_with (fail)
    refine hc.mono ?_
    rintro e w3 ⟨rfl, h3, _⟩
    have H3 := Lib.hid h3
    clear hc h3
    have ha := all_calls w w3 F g _ H3.out
    go_wp2_with (fail)
    refine ha.mono ?_
    rintro e w4 ⟨v4, rfl, hr4, h4, hb4, hf4⟩
    have H4 := Lib.hid h4
    have HR4 := Lib.hid hr4
    have HN4 : Hid (∀ k, v4.ownBlock = some k → ¬ F k) := Lib.hid fun k e hF => by have := hf4 k e; have := H3.out.at_.foot hF; omega
    clear ha h4 hr4 hb4 hf4
    have hc := H4.out.crash none [] 0 (fun h => absurd rfl h) (by decide) (by decide)
    go_wp2_with (fail)
    refine hc.mono ?_
    rintro e w5 ⟨rfl, h5, hk5⟩
    have H5 := Lib.hid h5
    have HR5 := Lib.hid (HR4.out.kept hk5 HN4.out)
    clear hc h5 hk5 HR4 H4 H3
    have ha := all_calls w w5 F g _ H5.out
    rw [crash_twice H2.out.ok ds []] at ha
    go_wp2_with (fail)
    refine ha.mono ?_
    rintro e w6 ⟨v6, rfl, hr6, h6, hb6, _⟩
    have H6 := Lib.hid h6
    have HR6 := Lib.hid hr6
    have HR5' := Lib.hid (HR5.out.kept (Kept.of_below hb6 fun _ => False) (fun _ _ h => h))
    clear ha h6 hr6 hb6 HR5 H5
    have hn6 : (allOf (s.crashed ds).fs).length ≤ 4611686018427387904 := by rw [allOf_len]; have := (H2.out.ok.crashed ds).n; omega
    have hsm := same_texts v6 v4 _ _ w6 (SegG.of_row HR6.out) (SegG.of_row HR5'.out) hn6 hn6
    rw [decide_eq_true rfl] at hsm
    clear hn6
    go_wp2_with (fail)
    refine hsm.mono ?_
    rintro e w7 ⟨rfl, hb7⟩
    have HB7 := Lib.hid (H6.out.back.trans (hb7.mono H6.out.back.size))
    clear hsm hb7 HR6 HR5' H6
    have hg := grown_calls w w7 room A len cap xs HXL.out HX.out HFIT.out HB7.out HLEN.out
    rw [HEQ.out] at hg
    go_wp2_with (fail)
    refine hg.mono ?_
    rintro e w8 ⟨g', F', rfl, h8⟩
    have H8 := Lib.hid h8
    clear hg h8
    have hsy := H8.out.sync
    rw [sync_free HSF.out] at hsy
    go_wp2_with (fail)
    refine hsy.mono ?_
    rintro e w9 ⟨rfl, h9, _⟩
    have H9 := Lib.hid h9
    clear hsy h9 H8
    have ha := all_calls w w9 F' g' _ H9.out
    go_wp2_with (fail)
    refine ha.mono ?_
    rintro e w10 ⟨v10, rfl, hr10, h10, hb10, hf10⟩
    have H10 := Lib.hid h10
    have HR10 := Lib.hid hr10
    have HN10 : Hid (∀ k, v10.ownBlock = some k → ¬ F' k) := Lib.hid fun k e hF => by have := hf10 k e; have := H9.out.at_.foot hF; omega
    clear ha h10 hr10 hb10 hf10 H9
    have hc := H10.out.crash A2 ds cap2 (H10.out.draws HD.out) HDL.out HCD.out
    go_wp2_with (fail)
    refine hc.mono ?_
    rintro e w11 ⟨rfl, h11, hk11⟩
    have H11 := Lib.hid h11
    have HR11 := Lib.hid (HR10.out.kept hk11 HN10.out)
    clear hc h11 hk11 HR10 H10
    have ha := all_calls w w11 F' g' _ H11.out
    rw [synced_crash s ds] at ha
    go_wp2_with (fail)
    refine ha.mono ?_
    rintro e w12 ⟨v12, rfl, hr12, h12, hb12, _⟩
    have H12 := Lib.hid h12
    have HR12 := Lib.hid hr12
    have HR11' := Lib.hid (HR11.out.kept (Kept.of_below hb12 fun _ => False) (fun _ _ h => h))
    clear ha h12 hr12 hb12 HR11
    have hn6 : (allOf s.synced.fs).length ≤ 4611686018427387904 := by rw [allOf_len]; have := H2.out.ok.synced.n; omega
    have hsm := same_texts v12 v10 _ _ w12 (SegG.of_row HR12.out) (SegG.of_row HR11'.out) hn6 hn6
    rw [decide_eq_true rfl] at hsm
    clear hn6
    go_wp2_with (fail)
    refine hsm.mono ?_
    rintro e w13 ⟨rfl, hb13⟩
    go_wp2
    go_ret
    exact ⟨rfl, H12.out.back.trans (hb13.mono H12.out.back.size)⟩
  · have hz : (4096 : Int) < (ds.length : Int) := by omega
    go_wp2
    go_ret
    exact ⟨rfl, H2.out.back⟩
end Go.Proofs.YtaghdopickgpgaaDoor
