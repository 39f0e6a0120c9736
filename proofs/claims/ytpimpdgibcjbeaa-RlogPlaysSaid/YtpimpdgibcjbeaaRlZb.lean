import Derived.Test.YtpimpdgibcjbeaaRlZa
namespace Go.Proofs.Ytpimpdgibcjbeaa
open Go Go.RowKit
set_option linter.unusedVariables false
set_option linter.unusedSimpArgs false

set_option maxRecDepth 100000 in
set_option maxHeartbeats 4000000 in
theorem compacts_walk (A : Option Addr) (len cap : Nat) (rows : List (List Value)) (frm idx : Int) (w : World) (w0 : Open.Rows w [.int .i64] A len cap rows) (y0 : len * 8 ≤ 140737488351232) (w1 : (Lit.int .i64 frm).wf = true) (w2 : (Lit.int .i64 idx).wf = true) :
    Calls Try.prog 8 #[.slice A len cap, .int .i64 frm, .int .i64 idx] w fun e w' => e = .returned (.bool true) ∧ Below w.heap.size w w' := by
  obtain ⟨f, hF⟩ := int_args w0
  have HF := Lib.hid hF
  obtain ⟨n, hn⟩ : ∃ n, min len 40 = n := ⟨_, rfl⟩
  have hn40 : n ≤ 40 := by omega
  have HG := Lib.hid (grown_good f n hn40).1
  have HN := Lib.hid hn
  clear hF w0 hn
  go_enter Try.func8, Try.ntmps8
  go_wp2_with (fail)
  refine (works_calls w).mono ?_
  rintro e wa ⟨rfl, hba⟩
  have HBa := Lib.hid hba
  clear hba
  go_wp2_with (fail)
  refine (grown_calls A len cap f wa (HF.out.below HBa.out) (by omega)).mono ?_
  rintro e wb ⟨g, F, rfl, hb⟩
  rw [HN.out] at hb
  have HL := Lib.hid hb
  clear hb
  go_wp2_with (fail)
  refine (grown_calls A len cap f wb ((HF.out.below HBa.out).below HL.out.back) (by omega)).mono ?_
  rintro e wc ⟨h, G, rfl, hc⟩
  rw [HN.out] at hc
  have HM := Lib.hid (hc.rebase HL.out HL.out.back.size)
  have HL2 := Lib.hid (HL.out.below hc.back)
  have HD := Lib.hid (show ∀ k, G k → ¬ F k from fun k hg hf => by
    have h1 := (hc.foot k hg).1
    have h2 := (HL.out.foot k hf).2
    omega)
  clear hc HL
  have hlen : (grownL f n).length = n := grownL_length f n
  generalize hL : grownL f n = L at *
  have HLEN := Lib.hid hlen
  have hlast := log_last F g ⟨0, 0, L⟩ wc HL2.out.log (Int.le_refl 0) (by show (0 : Int) ≤ _; decide) (by show L.length ≤ 1048576; omega)
  rw [show (LogS.mk 0 0 L).last = (n : Int) from by unfold LogS.last; simp only; omega] at hlast
  clear hL
  go_wp2_with (fail)
  refine hlast.mono ?_
  rintro e wd ⟨rfl, hbd⟩
  have HL3 := Lib.hid (HL2.out.below hbd)
  have HM3 := Lib.hid (HM.out.below hbd)
  clear hlast hbd HL2 HM
  go_wp2_with (fail)
  refine (among_calls frm ((n : Int) + 1) _ (by omega)).mono ?_
  rintro e we ⟨rfl, hwe⟩
  obtain rfl := hwe.symm
  clear hwe
  have hab := amg_bounds frm ((n : Int) + 1) (by omega) (by omega)
  obtain ⟨j, hj⟩ : ∃ j : Nat, amg frm ((n : Int) + 1) = (j : Int) := Int.eq_ofNat_of_zero_le hab.1
  rw [hj] at hab ⊢
  have hjn : j ≤ n := by omega
  have hjL : j ≤ L.length := by omega
  clear hab hj hlen
  have hcp := log_compact_ok G h ⟨0, 0, L⟩ j (j : Int) wd HM3.out.log (Int.le_refl 0) (by show (0 : Int) ≤ _; decide) (by show L.length ≤ _; rw [HLEN.out]; omega) (by simp) hjL
  rw [termAt_eq ⟨0, 0, L⟩ j (j : Int) (by simp) hjL] at hcp
  dsimp only at hcp
  have HTJ := Lib.hid (show lastT (lastT 0 (L.take j)) (L.drop j) = lastT 0 L by rw [← lastT_append, List.take_append_drop])
  have hlt : (LogS.mk 0 0 L).lastTerm = lastT 0 L := lastTerm_eq _
  rw [hlt]
  generalize htn : lastT 0 L = tn at *
  obtain ⟨tj, htj⟩ : ∃ tj, lastT 0 (L.take j) = tj := ⟨_, rfl⟩
  rw [htj] at hcp HTJ
  have HTJ2 := Lib.hid htj
  have HTN := Lib.hid hlt
  clear htn hlt htj
  go_wp2_with (fail)
  refine hcp.mono ?_
  rintro e we ⟨rfl, he5⟩
  have HM4 := Lib.hid (HM3.out.of he5)
  have HL4 := Lib.hid (HL3.out.beside HM3.out (fun k hf hg => HD.out k hg hf) (Nat.le_refl _) he5)
  clear hcp he5 HM3 HL3
  obtain ⟨G4, hG4⟩ : ∃ G4, G4 = grow G wd we := ⟨_, rfl⟩
  rw [← hG4] at HM4
  clear hG4
  have HDL := Lib.hid (show (L.drop j).length = n - j by rw [List.length_drop, HLEN.out])
  have hsL : (LogS.mk (j : Int) tj (L.drop j)).last = (n : Int) := by unfold LogS.last; simp only [HDL.out]; omega
  have hsT : (LogS.mk (j : Int) tj (L.drop j)).lastTerm = tn := by rw [lastTerm_eq]; exact HTJ.out
  have HSL := Lib.hid hsL
  have HST := Lib.hid hsT
  have hb01 : (0 : Int) ≤ (j : Int) ∧ (j : Int) ≤ 1048576 := by omega
  have hdl6 : (L.drop j).length ≤ 1048576 := by rw [HDL.out]; omega
  have HJ0 := Lib.hid hb01
  have HJ1 := Lib.hid hdl6
  have hla := log_last G4 h ⟨(j : Int), tj, L.drop j⟩ we HM4.out.log hb01.1 hb01.2 hdl6
  rw [hsL, hsT] at hla
  clear hsL hsT hb01 hdl6
  go_wp2_with (fail)
  refine hla.mono ?_
  rintro e wf ⟨rfl, hbf⟩
  have HM5 := Lib.hid (HM4.out.below hbf)
  have HL5 := Lib.hid (HL4.out.below hbf)
  clear hla hbf HM4 HL4
  have hba := log_base G4 h ⟨(j : Int), tj, L.drop j⟩ wf HM5.out.log
  dsimp only at hba
  go_wp2_with (fail)
  refine hba.mono ?_
  rintro e wg ⟨rfl, hbg⟩
  have HM6 := Lib.hid (HM5.out.below hbg)
  have HL6 := Lib.hid (HL5.out.below hbg)
  clear hba hbg HM5 HL5
  have ht := log_term F g ⟨0, 0, L⟩ (j : Int) wg HL6.out.log (Int.le_refl 0) (by show (0 : Int) ≤ _; decide) (by show L.length ≤ _; rw [HLEN.out]; omega)
  rw [termAt_eq ⟨0, 0, L⟩ j (j : Int) (by simp) hjL] at ht
  dsimp only at ht
  rw [HTJ2.out] at ht
  go_wp2_with (fail)
  refine ht.mono ?_
  rintro e wh ⟨rfl, hbh⟩
  have HM7 := Lib.hid (HM6.out.below hbh)
  have HL7 := Lib.hid (HL6.out.below hbh)
  clear ht hbh HM6 HL6
  obtain ⟨p, hp⟩ : ∃ p, (L.drop j).length = p := ⟨_, rfl⟩
  have HPL := Lib.hid hp
  have hs1 := log_slice F g ⟨0, 0, L⟩ j p ((j : Int) + 1) 1048576 (L.drop j) wh HL7.out.log (Int.le_refl 0) (by show (0 : Int) + L.length ≤ _; rw [HLEN.out]; omega) (by simp) hjL (by decide) (by show (L.drop j).take _ = L.drop j; rw [List.take_of_length_le (by rw [HDL.out]; omega)]) hp
  clear hp
  go_wp2_with (fail)
  refine hs1.mono ?_
  rintro e wi ⟨A1, c1, rfl, hR1, hbi, _⟩
  have HR1 := Lib.hid hR1
  have HM8 := Lib.hid (HM7.out.below hbi)
  have HL8 := Lib.hid (HL7.out.below hbi)
  clear hs1 hR1 hbi HM7 HL7
  have hs2 := log_slice G4 h ⟨(j : Int), tj, L.drop j⟩ 0 p ((j : Int) + 1) 1048576 (L.drop j) wi HM8.out.log HJ0.out.1 (by show (j : Int) + (L.drop j).length ≤ _; rw [HDL.out]; omega) (by simp) (Nat.zero_le _) (by decide) (by show ((L.drop j).drop 0).take _ = L.drop j; rw [List.drop_zero, List.take_of_length_le (by rw [HDL.out]; omega)]) HPL.out
  go_wp2_with (fail)
  refine hs2.mono ?_
  rintro e wj ⟨A2, c2, rfl, hR2, hbj, _⟩
  have hse := same_true (.slice A1 p c1) (.slice A2 p c2) (L.drop j) wj (HR1.out.kept (Kept.of_below hbj fun _ => False) (fun _ _ h => h)) hR2 (by rw [HDL.out]; omega)
  have HM9 := Lib.hid (HM8.out.below hbj)
  have HL9 := Lib.hid (HL8.out.below hbj)
  clear hs2 hR2 hbj HM8 HL8
  go_wp2_with (fail)
  refine hse.mono ?_
  rintro e wk ⟨rfl, hbk⟩
  have HMa := Lib.hid (HM9.out.below hbk)
  have HLa := Lib.hid (HL9.out.below hbk)
  clear hse hbk HM9 HL9
  have hbe1 := log_behind F g ⟨0, 0, L⟩ idx tn wk HLa.out.log (Int.le_refl 0) (by show (0 : Int) ≤ _; decide) (by show L.length ≤ _; rw [HLEN.out]; omega)
  obtain ⟨bq, hbq⟩ : ∃ bq, (LogS.mk 0 0 L).behind idx tn = bq := ⟨_, rfl⟩
  have hbq2 : (LogS.mk (j : Int) tj (L.drop j)).behind idx tn = bq := by
    rw [← hbq]
    unfold LogS.behind
    rw [HSL.out, HST.out, HTN.out, show (LogS.mk 0 0 L).last = (n : Int) from by unfold LogS.last; simp only [HLEN.out]; omega]
  rw [hbq] at hbe1
  have HBQ := Lib.hid hbq2
  clear hbq hbq2
  go_wp2_with (fail)
  refine hbe1.mono ?_
  rintro e wl ⟨rfl, hbl⟩
  have HMb := Lib.hid (HMa.out.below hbl)
  clear hbe1 hbl HMa HLa
  have hbe2 := log_behind G4 h ⟨(j : Int), tj, L.drop j⟩ idx tn wl HMb.out.log HJ0.out.1 HJ0.out.2 HJ1.out
  rw [HBQ.out] at hbe2
  go_wp2_with (fail)
  refine hbe2.mono ?_
  rintro e wm ⟨rfl, hbm⟩
  have HMc := Lib.hid (HMb.out.below hbm)
  clear hbe2 hbm HMb
  have q9 : (bq != bq) = false := by simp
  rcases Nat.eq_zero_or_pos j with h0 | h0
  · subst h0
    go_wp2
    go_ret
    exact ⟨rfl, below_next HBa.out HMc.out.back⟩
  · have qj : ((j : Int) == 0) = false := by simp; omega
    have hix := log_slice_index G4 h ⟨(j : Int), tj, L.drop j⟩ (j : Int) 1 wm HMc.out.log HJ0.out.1 HJ0.out.2 HJ1.out (.inl (Int.le_refl _))
    have hw1 : IntKind.i64.wrap ((j : Int) - 1) = (j : Int) - 1 := by rw [IntKind.wrap_i64]; omega
    go_wp2_with (fail)
    refine hix.mono ?_
    rintro e wn ⟨rfl, hbn⟩
    have HMd := Lib.hid (HMc.out.below hbn)
    clear hix hbn HMc
    have ht := log_term G4 h ⟨(j : Int), tj, L.drop j⟩ ((j : Int) - 1) wn HMd.out.log HJ0.out.1 HJ0.out.2 HJ1.out
    rw [show (LogS.mk (j : Int) tj (L.drop j)).termAt ((j : Int) - 1) = (0, 140) by unfold LogS.termAt; rw [if_pos (.inl (by show (j : Int) - 1 < (j : Int); omega))]] at ht
    go_wp2_with (fail)
    refine ht.mono ?_
    rintro e wo ⟨rfl, hbo⟩
    go_wp2
    go_ret
    exact ⟨rfl, below_next HBa.out (HMd.out.back.trans (hbo.mono HMd.out.back.size))⟩
end Go.Proofs.Ytpimpdgibcjbeaa
