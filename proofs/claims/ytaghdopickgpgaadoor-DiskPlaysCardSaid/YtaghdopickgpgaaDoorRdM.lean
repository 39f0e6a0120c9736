import Derived.Test.YtaghdopickgpgaaDoorRdL
namespace Go.Proofs.YtaghdopickgpgaaDoor
open Go Go.RowKit
set_option linter.unusedVariables false
set_option linter.unusedSimpArgs false

set_option maxRecDepth 100000 in
set_option maxHeartbeats 4000000 in
theorem same_calls (w0 w : World) (F : Nat → Prop) (g : Nat) (G : Nat → Prop) (h : Nat) (s : DkS) (H : DuoK w0 w F g G h s s) :
    Calls Tryd.prog 28 #[.pointer (some ⟨g, 0, none⟩), .pointer (some ⟨h, 0, none⟩)] w fun e w' => e = .returned (.bool true) ∧ Below w.heap.size w w' := by
  have hn1 := disk_names F g s w H.da H.ok
  have hn64 := H.ok.n
  have hnl : (namesOf s.fs).length = s.fs.length := List.length_map ..
  have HH := Lib.hid H
  have HS := Lib.hid H.ok
  clear H
  go_enter Tryd.func28, Tryd.ntmps28
  go_wp2_with (fail)
  refine hn1.mono ?_
  rintro e w2 ⟨v, rfl, hrow, hb2, hfr⟩
  obtain ⟨An, cn, rfl⟩ := hrow.shape
  rw [hnl]
  have HROW := Lib.hid hrow
  have HB2 := Lib.hid hb2
  have H2 := Lib.hid (HH.out.below hb2)
  clear hn1 hrow hb2 hfr
  have hn2 := refd_names G h s w2 H2.out.ra hn64
  go_wp2_with (fail)
  refine hn2.mono ?_
  rintro e w3 ⟨v3, rfl, hrow3, hb3, _⟩
  have HROW3 := Lib.hid hrow3
  have HROW' := Lib.hid (HROW.out.kept (Kept.of_below hb3 fun _ => False) (fun _ _ h => h))
  have HB3 := Lib.hid (HB2.out.trans (hb3.mono HB2.out.size))
  have H3 := Lib.hid (H2.out.below hb3)
  clear hn2 hrow3 hb3 H2 HB2
  have hsm := same_texts (.slice An (namesOf s.fs).length cn) v3 _ _ w3 (SegG.of_row HROW'.out) (SegG.of_row HROW3.out) (by omega) (by omega)
  rw [decide_eq_true rfl, hnl] at hsm
  go_wp2_with (fail)
  refine hsm.mono ?_
  rintro e w4 ⟨rfl, hb4⟩
  have HROW4 := Lib.hid (HROW'.out.kept (Kept.of_below hb4 fun _ => False) (fun _ _ h => h))
  have HB4 := Lib.hid (HB3.out.trans (hb4.mono HB3.out.size))
  have H4 := Lib.hid (H3.out.below hb4)
  clear hsm hb4 HROW HROW3 HROW' H3 HB3
  have hu := disk_used F g s w4 H4.out.da
  go_wp2_with (fail)
  refine hu.mono ?_
  rintro e w5 ⟨rfl, hw⟩
  subst w5
  clear hu
  have hu := refd_used G h s w4 H4.out.ra HS.out
  go_wp2_with (fail)
  refine hu.mono ?_
  rintro e w5 ⟨rfl, hw⟩
  subst w5
  clear hu
  go_wp2_with (fail)
  go_loopg [6, 7, 8] s.fs.length (fun gg s6 _ _ wr => ∃ (i : Nat), i ≤ s.fs.length ∧ s.fs.length - i ≤ gg ∧ s6 = .int .i64 i ∧ Hid (Below w4.heap.size w4 wr))
  case atStart => exact ⟨0, Nat.zero_le _, by omega, by go_num, Lib.hid (Below.refl _ _)⟩
  case round =>
    obtain ⟨i, hi, hgg, rfl, HB⟩ := hrel
    have H5 := Lib.hid (H4.out.below HB.out)
    have hn64z : (s.fs.length : Int) ≤ 64 := by omega
    by_cases hil : i < s.fs.length
    · obtain ⟨kn, fo, hp⟩ : ∃ kn fo, s.fs[i] = (kn, fo) := ⟨_, _, rfl⟩
      obtain ⟨gb, c', hv, hgl, hcl⟩ := HROW4.out.form (by rw [hnl]; omega)
      injection hv with hA _ hc
      subst hA hc
      have r := HROW4.out.kept (Kept.of_below HB.out fun _ => False) (fun _ _ h => h)
      have c0 := r.cell (fun _ => rfl) i 0 (by rw [hnl]; exact hil) (by omega)
      have c0' : wr.cell? ⟨gb, i, none⟩ = some (.string kn) := by
        have : (namesOf s.fs)[i]'(by rw [hnl]; exact hil) = kn := by simp [namesOf, hp]
        rw [this] at c0
        simpa [scells] using c0
      clear c0 r
      have hmem : (kn, fo) ∈ s.fs := hp ▸ List.getElem_mem hil
      have hokn := HS.out.names _ hmem
      have hks : kn.size ≤ maxLen := by
        unfold okName at hokn
        simp at hokn
        simp only [maxLen]
        omega
      have hrd := H5.out.read1 kn hks
      have hlk : look s.fs kn = some fo := by
        have := file_at (sorted_nodup HS.out.sorted) i hil
        rwa [hp] at this
      rw [show (fileAt s.fs kn).has = fo.has by unfold fileAt; rw [hlk]; rfl, show knownE s.fs kn = 0 by unfold knownE; rw [if_pos hokn, hlk]; rfl] at hrd
      have hlz : (i : Int) < (s.fs.length : Int) := by omega
      clear hmem hokn hks hlk
      go_wp2_with (fail)
      refine hrd.mono ?_
      rintro e w6 ⟨rfl, h6, hb6⟩
      have HB6 := Lib.hid (HB.out.trans (hb6.mono HB.out.size))
      obtain ⟨vl, lf, hb, hr, _, _, _⟩ := h6.ra
      obtain ⟨gb2, c2, rfl, hgl2, _⟩ := hr.form (by omega)
      have c1 := hb.cell 1
      have hglt := hb.lt
      have d1 := (FE_at hr i hil).2.1
      rw [hp] at d1
      simp only at d1
      clear hrd h6 hb6 hb hr c0' hp
      go_wp2
      go_roundg (s.fs.length - (i + 1))
      case measure => omega
      case rel => exact ⟨i + 1, hil, Nat.le_refl _, by go_num, HB6⟩
    · have hlz : ¬ (i : Int) < (s.fs.length : Int) := by omega
      go_wp2
      go_ret
      exact ⟨rfl, HB4.out.trans (HB.out.mono HB4.out.size)⟩
theorem step_calls (w0 w : World) (F : Nat → Prop) (g : Nat) (G : Nat → Prop) (h : Nat) (s : DkS) (x : ActR) (H : DuoK w0 w F g G h s s) (hx : x.fits w0) :
    Calls Tryd.prog 27 #[.pointer (some ⟨g, 0, none⟩), .pointer (some ⟨h, 0, none⟩), .agg #[.int .i64 x.kind, .string x.name, .string x.to, .int .i64 x.n, .slice x.DA x.D.length x.Dc]] w fun e w' => e = .returned (.bool true) ∧ ∃ s', DuoK w0 w' F g G h s' s' := by
  have hb := amg_bounds x.kind 8 (by decide) (by decide)
  have hk : amg x.kind 8 = 0 ∨ amg x.kind 8 = 1 ∨ amg x.kind 8 = 2 ∨ amg x.kind 8 = 3 ∨ amg x.kind 8 = 4 ∨ amg x.kind 8 = 5 ∨ amg x.kind 8 = 6 ∨ amg x.kind 8 = 7 := by omega
  rcases hk with hk | hk | hk | hk | hk | hk | hk | hk
  · exact step_k0 w0 w F g G h s x H hx hk
  · exact step_k1 w0 w F g G h s x H hx hk
  · exact step_k2 w0 w F g G h s x H hx hk
  · exact step_k3 w0 w F g G h s x H hx hk
  · exact step_k4 w0 w F g G h s x H hx hk
  · exact step_k5 w0 w F g G h s x H hx hk
  · exact step_k6 w0 w F g G h s x H hx hk
  · exact step_k7 w0 w F g G h s x H hx hk
set_option maxRecDepth 100000 in
set_option maxHeartbeats 8000000 in
theorem plays_walk (room : Int) (A : Option Addr) (len cap : Nat) (w : World) (hwf : (Lit.int .i64 room).wf = true) (hS : Shape.SK.oks Tryd.prog w [.row 45 actSK] [.slice A len cap]) :
    Calls Tryd.prog 9 #[.int .i64 room, .slice A len cap] w fun e w' => e = .returned (.bool true) ∧ Below w.heap.size w w' := by
  obtain ⟨xs, hxl, hX, hfit⟩ := open_acts hS
  have hlen := acts_len hS
  have HX := Lib.hid hX
  have HFIT := Lib.hid hfit
  have HXL := Lib.hid hxl
  clear hS hX hfit hxl hwf
  by_cases hrm : 0 ≤ room ∧ room ≤ 262144
  · have hn1 := disk_new room w hrm.1 hrm.2
    go_enter Tryd.func9, Tryd.ntmps9
    go_wp2_with (fail)
    refine hn1.mono ?_
    rintro e w1 ⟨g, rfl, hb1, hg1, hd1⟩
    have hn2 := refd_new room w1 (fun k => w1.heap.size ≤ k) (fun k h => h) hrm.1 hrm.2
    have HB1 := Lib.hid hb1
    have HD1 := Lib.hid hd1
    clear hn1 hb1 hd1
    go_wp2_with (fail)
    refine hn2.mono ?_
    rintro e w2 ⟨h, rfl, hb2, hr2⟩
    have D0 := Lib.hid (show DuoK w w2 (fun k => w.heap.size ≤ k ∧ k < w1.heap.size) g (fun k => w1.heap.size ≤ k) h ⟨room, 0, [], false, false, 0⟩ ⟨room, 0, [], false, false, 0⟩ from
      ⟨HD1.out.below hb2, hr2, .new room hrm.1 hrm.2, .new room hrm.1 hrm.2, HB1.out.trans (hb2.mono HB1.out.size), fun k h => h.1, fun k h => Nat.le_trans HB1.out.size h, fun k h1 h2 => by omega, fun k hk => Nat.le_trans hb2.size hk⟩)
    clear hn2 hb2 hr2 HB1 HD1 hrm hg1
    go_wp2_with (fail)
    go_loopg [9] 200 (fun gg s9 wr => ∃ (k : Nat) (s : DkS), k ≤ len ∧ k ≤ 200 ∧ 200 - k ≤ gg ∧ s9 = .int .i64 k ∧ Hid (DuoK w wr (fun k => w.heap.size ≤ k ∧ k < w1.heap.size) g (fun k => w1.heap.size ≤ k) h s s))
    case atStart => exact ⟨0, _, Nat.zero_le _, by omega, by omega, by go_num, D0⟩
    case round =>
      obtain ⟨k, s, hk1, hk2, hgg, rfl, HD⟩ := hrel
      have hlm2 : (len : Int) ≤ 140737488351232 := by omega
      by_cases hlt : k < len ∧ k < 200
      · obtain ⟨hlt, h100⟩ := hlt
        have hkl : k < xs.length := by rw [HXL.out]; exact hlt
        have r := HX.out.kept0 (Kept.of_below HD.out.back fun _ => False) (fun _ _ _ h => h)
        obtain ⟨ad, c', hv, _⟩ := r.form (by omega)
        injection hv with hA hnn hc
        clear hnn
        subst hA hc
        have c0 := r.cell (sz := 5) (fun _ => rfl) k 0 hkl (by omega)
        have c1 := r.cell (sz := 5) (fun _ => rfl) k 1 hkl (by omega)
        have c2 := r.cell (sz := 5) (fun _ => rfl) k 2 hkl (by omega)
        have c3 := r.cell (sz := 5) (fun _ => rfl) k 3 hkl (by omega)
        have c4 := r.cell (sz := 5) (fun _ => rfl) k 4 hkl (by omega)
        have hst := step_calls w wr _ g _ h s xs[k] HD.out (HFIT.out _ (List.getElem_mem hkl))
        clear r
        generalize xs[k] = x at c0 c1 c2 c3 c4 hst
        simp only [ActR.cells, adr, List.getElem?_cons_zero, List.getElem?_cons_succ, Nat.add_zero, Nat.zero_add, Nat.reduceAdd] at c0 c1 c2 c3 c4
        have g1 : (k : Int) < (len : Int) := by omega
        have g2 : (k : Int) < 200 := by omega
        have g0 : (0 : Int) ≤ (k : Int) := by omega
        go_wp2_with (fail)
        refine hst.mono ?_
        rintro e w3 ⟨rfl, s3, hd3⟩
        have D3 := Lib.hid hd3
        clear hst hd3 c0 c1 c2 c3 c4 HD
        have hsa := same_calls w w3 _ g _ h s3 D3.out
        go_wp2_with (fail)
        refine hsa.mono ?_
        rintro e w4 ⟨rfl, hb4⟩
        have D4 := Lib.hid (D3.out.below hb4)
        clear hsa hb4 D3
        go_wp2
        go_roundg (200 - (k + 1))
        case measure => omega
        case rel => exact ⟨k + 1, s3, by omega, by omega, Nat.le_refl _, by go_num, D4⟩
      · have g00 : ¬ ((k : Int) < (len : Int)) ∨ (k : Int) < (len : Int) ∧ ¬ ((k : Int) < 200) := by omega
        clear hlt
        rcases g00 with g1 | ⟨g1, g2⟩
        all_goals
          go_wp2_with (fail)
          refine (works_calls wr).mono ?_
          rintro e w5 ⟨rfl, hb5⟩
          go_wp2
          go_ret
          exact ⟨rfl, HD.out.back.trans (hb5.mono HD.out.back.size)⟩
  · have hn1 := disk_new_bad room w (by omega)
    have hn2 := fun W => refd_new_bad room W (by omega)
    have HN2 := Lib.hid hn2
    clear hn2 hrm
    go_enter Tryd.func9, Tryd.ntmps9
    go_wp2_with (fail)
    refine hn1.mono ?_
    rintro e w1 ⟨rfl, hb1⟩
    clear hn1
    go_wp2_with (fail)
    refine (HN2.out w1).mono ?_
    rintro e w2 ⟨rfl, hb2⟩
    have HB2 := Lib.hid (hb1.trans (hb2.mono hb1.size))
    clear hb1 hb2
    go_wp2_with (fail)
    go_loopg [9] 0 (fun gg s9 wr => s9 = .int .i64 0 ∧ wr = w2)
    case atStart => exact ⟨by go_num, rfl⟩
    case round =>
      obtain ⟨rfl, rfl⟩ := hrel
      go_wp2_with (fail)
      refine (works_calls wr).mono ?_
      rintro e w5 ⟨rfl, hb5⟩
      go_wp2
      go_ret
      exact ⟨rfl, HB2.out.trans (hb5.mono HB2.out.size)⟩
end Go.Proofs.YtaghdopickgpgaaDoor
