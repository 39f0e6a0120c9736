import Derived.Test.YtaghdopickgpgaaDoorDkV
namespace Go.Proofs.YtaghdopickgpgaaDoor
open Go Go.RowKit
set_option linter.unusedVariables false
set_option linter.unusedSimpArgs false

/-! DiskBacks. -/
theorem split_look {fs : Files} {k : ByteArray} {f : DF} (h : look fs k = some f) : ∃ pre post, fs = pre ++ (k, f) :: post := List.append_of_mem (look_mem h)
theorem putF_back {fs : Files} {k : ByteArray} {f f1 : DF} (hs : fs.Pairwise fun p q => ltB p.1 q.1 = true) (h : look fs k = some f) : putF (putF fs k f1) k f = fs := by
  obtain ⟨pre, post, rfl⟩ := split_look h
  have e1 := putF_there (f := f1) hs
  have h2 : (pre ++ (k, f1) :: post).Pairwise fun p q => ltB p.1 q.1 = true := by rw [← e1]; exact putF_sorted hs k f1
  rw [e1, putF_there h2]
theorem extract_back (a b : ByteArray) : (a ++ b).extract 0 a.size = a := by
  apply ByteArray.ext
  simp [ByteArray.data_extract, ByteArray.data_append]
theorem allOf_sync (fs : Files) : allOf (fs.map syncF) = allOf fs := by
  unfold allOf
  rw [List.flatMap_map]
  rfl
theorem backs {s : DkS} (h : s.Ok) (hf : s.free) {k d : ByteArray} {f : DF} (hk : okName k = true) (hl : look s.fs k = some f) (hd : (d.size : Int) ≤ s.room - s.used) :
    s.append k d = (s.set k ⟨f.has ++ d, f.safe⟩, 0) ∧ (s.set k ⟨f.has ++ d, f.safe⟩).cut k f.has.size = (s, 0) := by
  have ht := tick_free hf.1
  have hfi : fileAt s.fs k = f := by unfold fileAt; rw [hl]; rfl
  have hsf := h.safe _ (look_mem hl)
  refine ⟨?_, ?_⟩
  · unfold DkS.append
    rw [if_neg (by rw [hk]; simp), if_neg (show ¬ s.tight k d from fun h => by unfold DkS.tight at h; rw [hl] at h; simp at h; omega), ht, if_neg (by rw [hf.2]; simp), hfi]
  · have hl2 : look (s.set k ⟨f.has ++ d, f.safe⟩).fs k = some ⟨f.has ++ d, f.safe⟩ := by
      show look (putF s.fs k _) k = _
      obtain ⟨pre, post, e⟩ := split_look hl
      have hs := h.sorted
      rw [e] at hs ⊢
      rw [putF_there hs]
      have h2 : (pre ++ (k, (⟨f.has ++ d, f.safe⟩ : DF)) :: post).Pairwise fun p q => ltB p.1 q.1 = true := by rw [← putF_there hs]; exact putF_sorted hs k _
      exact look_there h2
    have hfi2 : fileAt (s.set k ⟨f.has ++ d, f.safe⟩).fs k = ⟨f.has ++ d, f.safe⟩ := by unfold fileAt; rw [hl2]; rfl
    have hkn : knownE (s.set k ⟨f.has ++ d, f.safe⟩).fs k = 0 := by unfold knownE; rw [if_pos hk, hl2]; rfl
    have ht2 : (s.set k ⟨f.has ++ d, f.safe⟩).tick = s.set k ⟨f.has ++ d, f.safe⟩ := tick_free hf.1
    unfold DkS.cut
    rw [if_neg (by rw [hkn]; simp), hfi2, if_neg (by rw [append_size]; omega), ht2, if_neg (by show ¬ s.down = true; rw [hf.2]; simp)]
    refine Prod.ext ?_ rfl
    have e1 : cutFile ⟨f.has ++ d, f.safe⟩ f.has.size = f := by
      unfold cutFile
      rw [show ((f.has.size : Int)).toNat = f.has.size from rfl]
      show DF.mk ((f.has ++ d).extract 0 f.has.size) (min f.safe (f.has.size : Int)) = f
      rw [extract_back, Int.min_eq_left hsf.2]
    have hz : sizeAt (s.set k ⟨f.has ++ d, f.safe⟩).fs k = ((f.has ++ d).size : Int) := by unfold sizeAt; rw [hfi2]
    have hz0 : sizeAt s.fs k = (f.has.size : Int) := by unfold sizeAt; rw [hfi]
    rw [e1]
    show (s.set k ⟨f.has ++ d, f.safe⟩).set k f = s
    unfold DkS.set at hz ⊢
    simp only at hz ⊢
    rw [hz, hz0, putF_back h.sorted hl]
    obtain ⟨r, u, fs, fu, dn, lf⟩ := s
    simp only [DkS.mk.injEq, and_true, true_and]
    omega
set_option maxRecDepth 100000 in
set_option maxHeartbeats 8000000 in
theorem backs_walk (A : Option Addr) (len cap : Nat) (data : ByteArray) (A2 : Option Addr) (len2 cap2 : Nat) (w : World) (hS : Shape.SK.oks Tryd.prog w [.row 45 actSK] [.slice A len cap]) (hdata : data.size ≤ 140737488351232) (hS2 : Shape.SK.oks Tryd.prog w [.row 3 [.int .i64]] [.slice A2 len2 cap2]) :
    Calls Tryd.prog 8 #[.slice A len cap, .string data, .slice A2 len2 cap2] w fun e w' => e = .returned (.bool true) ∧ Below w.heap.size w w' := by
  obtain ⟨xs, hxl, hX, hfit⟩ := open_acts hS
  obtain ⟨ds, hdl, hD⟩ := segG_draws hS2
  have hlen := acts_len hS
  have HX := Lib.hid hX
  have HFIT := Lib.hid hfit
  have HXL := Lib.hid hxl
  subst hdl
  have HD := Lib.hid hD
  have hcapd : ds.length ≤ cap2 := by obtain ⟨A', c', hv, hc, _⟩ := hD; injection hv with _ _ hc2; omega
  have HLEN := Lib.hid hlen
  have HCD := Lib.hid hcapd
  have hw := works_calls w
  clear hS hX hfit hxl hS2 hD hlen hcapd
  go_enter Tryd.func8, Tryd.ntmps8
  go_wp2_with (fail)
  refine hw.mono ?_
  rintro e w1 ⟨rfl, hb1⟩
  have hg := grown_calls w w1 1000 A len cap xs HXL.out HX.out HFIT.out hb1 HLEN.out
  have HSF := Lib.hid (grown_free (amg 1000 2000) xs)
  have HRM : Hid ((grownS (amg 1000 2000) xs).room = 1000) := Lib.hid ((grown_room _ _).trans (by kernel_rfl))
  generalize grownS (amg 1000 2000) xs = s at hg HSF HRM
  clear hw hb1
  go_wp2_with (fail)
  refine hg.mono ?_
  rintro e w2 ⟨g, F, rfl, h2⟩
  have H2 := Lib.hid h2
  clear hg h2
  have ha := all_calls w w2 F g _ H2.out
  go_wp2_with (fail)
  refine ha.mono ?_
  rintro e w3 ⟨v3, rfl, hr3, h3, hb3, hf3⟩
  have H3 := Lib.hid h3
  have HR3 := Lib.hid hr3
  have HN3 : Hid (∀ k, v3.ownBlock = some k → ¬ F k) := Lib.hid fun k e hF => by have := hf3 k e; have := H2.out.at_.foot hF; omega
  clear ha h3 hr3 hb3 hf3 H2
  have hrd := H3.out.read ⟨#[97]⟩ (by decide)
  generalize hfo : fileAt s.fs ⟨#[97]⟩ = fo at hrd
  generalize her : knownE s.fs ⟨#[97]⟩ = er at hrd
  have HFO := Lib.hid hfo
  have HER := Lib.hid her
  clear hfo her
  go_wp2_with (fail)
  refine hrd.mono ?_
  rintro e w4 ⟨rfl, h4, hb4⟩
  have H4 := Lib.hid h4
  have HR4 := Lib.hid (HR3.out.kept (Kept.of_below hb4 fun _ => False) (fun _ _ h => h))
  clear hrd h4 hb4 H3 HR3
  by_cases he : er = 0
  · subst he
    have hu := H4.out.used
    have hu0 := H4.out.ok.u0
    have hu1 := H4.out.ok.u1
    rw [HRM.out] at hu1
    have hwu : IntKind.i64.wrap (1000 - s.used) = 1000 - s.used := by rw [IntKind.wrap_i64]; omega
    by_cases hdl : (data.size : Int) ≤ 1000 - s.used
    · by_cases hdz : ds.length ≤ 4096
      · have hd2 : (ds.length : Int) ≤ 4096 := by omega
        have HDZ := Lib.hid hdz
        obtain ⟨hk, hsome⟩ := knownE_ok HER.out
        have hlk : look s.fs ⟨#[97]⟩ = some fo := by
          obtain ⟨x, hx⟩ := Option.isSome_iff_exists.1 hsome
          have := HFO.out
          unfold fileAt at this
          rw [hx] at this
          rw [hx]
          exact congrArg some this
        have HBK := Lib.hid (backs (d := data) H4.out.ok HSF.out hk hlk (by rw [HRM.out]; exact hdl))
        have hap := H4.out.append ⟨#[97]⟩ data (by decide) hdata
        rw [HBK.out.1] at hap
        clear hk hsome hlk hdz
        go_wp2_with (fail)
        refine hu.mono ?_
        rintro e w5 ⟨rfl, rfl⟩
        clear hu
        go_wp2_with (fail)
        refine hap.mono ?_
        rintro e w6 ⟨rfl, h6, hk6⟩
        have H6 := Lib.hid h6
        have HR6 := Lib.hid (HR4.out.kept hk6 HN3.out)
        clear hap h6 hk6 HR4 hu0 hu1 hwu hdl hdata hd2
        have hct := H6.out.cut ⟨#[97]⟩ (fo.has.size : Int) (by decide)
        rw [HBK.out.2] at hct
        go_wp2_with (fail)
        refine hct.mono ?_
        rintro e w7 ⟨rfl, h7, hk7⟩
        have H7 := Lib.hid h7
        have HR7 := Lib.hid (HR6.out.kept hk7 HN3.out)
        clear hct h7 hk7 H6 HR6
        have ha := all_calls w w7 F g _ H7.out
        go_wp2_with (fail)
        refine ha.mono ?_
        rintro e w8 ⟨v8, rfl, hr8, h8, hb8, _⟩
        have H8 := Lib.hid h8
        have HR8 := Lib.hid hr8
        have HR7' := Lib.hid (HR7.out.kept (Kept.of_below hb8 fun _ => False) (fun _ _ h => h))
        clear ha h8 hr8 hb8 HR7 H7
        have hn6 : (allOf s.fs).length ≤ 4611686018427387904 := by rw [allOf_len]; have := H8.out.ok.n; omega
        have HN6 := Lib.hid hn6
        have hsm := same_texts v8 v3 _ _ w8 (SegG.of_row HR8.out) (SegG.of_row HR7'.out) hn6 hn6
        rw [decide_eq_true rfl] at hsm
        clear hn6
        go_wp2_with (fail)
        refine hsm.mono ?_
        rintro e w9 ⟨rfl, hb9⟩
        have H9 := Lib.hid (H8.out.below hb9)
        have HR9 := Lib.hid (HR7'.out.kept (Kept.of_below hb9 fun _ => False) (fun _ _ h => h))
        clear hsm hb9 H8 HR8 HR7'
        have hsy := H9.out.sync
        rw [sync_free HSF.out] at hsy
        go_wp2_with (fail)
        refine hsy.mono ?_
        rintro e w10 ⟨rfl, h10, hk10⟩
        have H10 := Lib.hid h10
        have HR10 := Lib.hid (HR9.out.kept hk10 HN3.out)
        clear hsy h10 hk10 H9 HR9
        have hc := H10.out.crash A2 ds cap2 (H10.out.draws HD.out) HDZ.out HCD.out
        go_wp2_with (fail)
        refine hc.mono ?_
        rintro e w11 ⟨rfl, h11, hk11⟩
        have H11 := Lib.hid h11
        have HR11 := Lib.hid (HR10.out.kept hk11 HN3.out)
        clear hc h11 hk11 HR10 H10
        have ha := all_calls w w11 F g _ H11.out
        rw [synced_crash s ds, show s.synced.fs = s.fs.map syncF from rfl, allOf_sync] at ha
        go_wp2_with (fail)
        refine ha.mono ?_
        rintro e w12 ⟨v12, rfl, hr12, h12, hb12, _⟩
        have H12 := Lib.hid h12
        have HR12 := Lib.hid hr12
        have HR11' := Lib.hid (HR11.out.kept (Kept.of_below hb12 fun _ => False) (fun _ _ h => h))
        clear ha h12 hr12 hb12 HR11
        have hsm := same_texts v12 v3 _ _ w12 (SegG.of_row HR12.out) (SegG.of_row HR11'.out) HN6.out HN6.out
        rw [decide_eq_true rfl] at hsm
        go_wp2_with (fail)
        refine hsm.mono ?_
        rintro e w13 ⟨rfl, hb13⟩
        go_wp2
        go_ret
        exact ⟨rfl, H12.out.back.trans (hb13.mono H12.out.back.size)⟩
      · have hd2 : (4096 : Int) < (ds.length : Int) := by omega
        clear hdz
        go_wp2_with (fail)
        refine hu.mono ?_
        rintro e w5 ⟨rfl, rfl⟩
        go_wp2
        go_ret
        exact ⟨rfl, H4.out.back⟩
    · have hd2 : 1000 - s.used < (data.size : Int) := by omega
      clear hdl
      go_wp2_with (fail)
      refine hu.mono ?_
      rintro e w5 ⟨rfl, rfl⟩
      go_wp2
      go_ret
      exact ⟨rfl, H4.out.back⟩
  · go_wp2
    go_ret
    exact ⟨rfl, H4.out.back⟩
end Go.Proofs.YtaghdopickgpgaaDoor
