import Derived.Test.YtpimpdgibcjbeaaRlY
namespace Go.Proofs.Ytpimpdgibcjbeaa
open Go Go.RowKit
set_option linter.unusedVariables false
set_option linter.unusedSimpArgs false

/-- Slice, its result by its list. -/
theorem log_slice (F : Nat → Prop) (g : Nat) (s : LogS) (j n : Nat) (i m : Int) (l : List Ent) (w : World) (h : LogAt w F g s) (hb0 : 0 ≤ s.base) (hb1 : s.base + s.l.length ≤ 1048576) (hj : i = s.base + j + 1) (hjl : j ≤ s.l.length) (hm0 : 0 ≤ m) (hl : (s.l.drop j).take m.toNat = l) (hn : l.length = n) :
    Calls Try.prog 15 #[.pointer (some ⟨g, 0, none⟩), .int .i64 i, .int .i64 m] w fun e w' => ∃ A c, e = .returned (.tuple #[.slice A n c, .int .i64 0]) ∧ Row w' 44 2 Ent.cells (.slice A n c) l ∧ Below w.heap.size w w' ∧ ∀ k, (Value.slice A n c).ownBlock = some k → w.heap.size ≤ k := by
  have hk : ((min m.toNat (s.l.length - j) : Nat) : Int) = min m ((s.l.length : Int) - j) := by omega
  have e : s.cutAt j (min m.toNat (s.l.length - j)) = l := by
    unfold LogS.cutAt
    rw [← hl, ← List.length_drop, ← List.take_eq_take_min]
  refine (log_slice_ok F g s j _ i m w h hb0 (by omega) (by omega) hj hjl hm0 hk).mono ?_
  rintro e' w' ⟨v', rfl, hR, hb, hf⟩
  rw [e] at hR
  obtain ⟨A, c, rfl⟩ := hR.shape_n hn
  exact ⟨A, c, rfl, hR, hb, hf⟩
/-- A log of the call's own beside another one that turns. -/
theorem LoneL.beside {B C : Nat} {w0 w1 w w' : World} {F G : Nat → Prop} {g h : Nat} {s t t' : LogS} (H : LoneL B w0 w F g s) (K : LoneL C w1 w G h t) (hd : ∀ k, F k → ¬ G k) (hBC : B ≤ C) (hp : LogPost w G h t' w') : LoneL B w0 w' F g s :=
  H.kept hp.1 (fun k hf hg => hd k hf hg) (fun k hk => Nat.le_trans hBC (K.foot k hk).1)
theorem LoneL.rebase {B C : Nat} {w0 wb w : World} {F G : Nat → Prop} {g h : Nat} {s t : LogS} (K : LoneL C wb w G h t) (H : LoneL B w0 wb F g s) (hC : B ≤ C := by first | exact Nat.le_refl _ | omega) : LoneL B w0 w G h t :=
  ⟨K.log, fun k hk => ⟨Nat.le_trans hC (K.foot k hk).1, (K.foot k hk).2⟩, H.back.trans (K.back.mono hC), H.base⟩
theorem int_args {A : Option Addr} {len cap : Nat} {rows : List (List Value)} {w : World} (h : Open.Rows w [.int .i64] A len cap rows) : ∃ f, Args w A len 1 icell (fun _ => True) f :=
  args_of h icell (fun _ => True) 1 rfl (fun r hr => by
    obtain ⟨h1, h2⟩ := hr
    match r, h1 with
    | [v], _ =>
      obtain ⟨x, rfl, _⟩ := h2 0 _ v rfl rfl
      exact ⟨x, rfl, trivial⟩)
set_option maxRecDepth 100000 in
set_option maxHeartbeats 4000000 in
theorem again_walk (A : Option Addr) (len cap : Nat) (rows : List (List Value)) (frm many : Int) (w : World) (w0 : Open.Rows w [.int .i64] A len cap rows) (y0 : len * 8 ≤ 140737488351232) (w1 : (Lit.int .i64 frm).wf = true) (w2 : (Lit.int .i64 many).wf = true) :
    Calls Try.prog 6 #[.slice A len cap, .int .i64 frm, .int .i64 many] w fun e w' => e = .returned (.bool true) ∧ Below w.heap.size w w' := by
  obtain ⟨f, hF⟩ := int_args w0
  have HF := Lib.hid hF
  obtain ⟨n, hn⟩ : ∃ n, min len 40 = n := ⟨_, rfl⟩
  have hn40 : n ≤ 40 := by omega
  have HG := Lib.hid (grown_good f n hn40).1
  have HN := Lib.hid hn
  clear hF w0 hn
  go_enter Try.func6, Try.ntmps6
  go_wp2_with (fail)
  refine (works_calls w).mono ?_
  rintro e wa ⟨rfl, hba⟩
  have HBa := Lib.hid hba
  clear hba
  go_wp2_with (fail)
  refine (grown_calls A len cap f wa (HF.out.below HBa.out) (by omega)).mono ?_
  rintro e wb ⟨g, F, rfl, hb⟩
  rw [HN.out] at hb
  have HL := Lib.hid hb
  clear hb
  go_wp2_with (fail)
  refine (grown_calls A len cap f wb ((HF.out.below HBa.out).below HL.out.back) (by omega)).mono ?_
  rintro e wc ⟨h, G, rfl, hc⟩
  rw [HN.out] at hc
  have HM := Lib.hid (hc.rebase HL.out HL.out.back.size)
  have HL2 := Lib.hid (HL.out.below hc.back)
  have HD := Lib.hid (show ∀ k, G k → ¬ F k from fun k hg hf => by
    have h1 := (hc.foot k hg).1
    have h2 := (HL.out.foot k hf).2
    omega)
  clear hc HL
  have hlen : (grownL f n).length = n := grownL_length f n
  generalize hL : grownL f n = L at *
  have HLEN := Lib.hid hlen
  have hlast := log_last F g ⟨0, 0, L⟩ wc HL2.out.log (Int.le_refl 0) (by show (0 : Int) ≤ _; decide) (by show L.length ≤ 1048576; omega)
  rw [show (LogS.mk 0 0 L).last = (n : Int) from by unfold LogS.last; simp only; omega] at hlast
  clear hL
  go_wp2_with (fail)
  refine hlast.mono ?_
  rintro e wd ⟨rfl, hbd⟩
  have HL3 := Lib.hid (HL2.out.below hbd)
  have HM3 := Lib.hid (HM.out.below hbd)
  clear hlast hbd HL2 HM
  go_wp2_with (fail)
  refine (among_calls frm ((n : Int) + 1) _ (by omega)).mono ?_
  rintro e we ⟨rfl, hwe⟩
  obtain rfl := hwe.symm
  clear hwe
  have hab := amg_bounds frm ((n : Int) + 1) (by omega) (by omega)
  have hab2 := amg_bounds many ((n : Int) + 1) (by omega) (by omega)
  obtain ⟨j, hj⟩ : ∃ j : Nat, amg frm ((n : Int) + 1) = (j : Int) := Int.eq_ofNat_of_zero_le hab.1
  obtain ⟨k, hk⟩ : ∃ k : Nat, amg many ((n : Int) + 1) = (k : Int) := Int.eq_ofNat_of_zero_le hab2.1
  rw [hj] at hab ⊢
  have hjn : j ≤ n := by omega
  have hkn : k ≤ n := by omega
  go_wp2_with (fail)
  refine (among_calls many ((n : Int) + 1) _ (by omega)).mono ?_
  rw [hk]
  rintro e we ⟨rfl, hwe⟩
  obtain rfl := hwe.symm
  clear hwe hab hab2 hj hk hlen
  obtain ⟨P, hP⟩ : ∃ P, (L.drop j).take k = P := ⟨_, rfl⟩
  obtain ⟨p, hp⟩ : ∃ p, P.length = p := ⟨_, rfl⟩
  have hpn : j + p ≤ n := by rw [← hp, ← hP, List.length_take, List.length_drop, HLEN.out]; omega
  have HPP := Lib.hid hP
  have HPL := Lib.hid hp
  have hsl := log_slice F g ⟨0, 0, L⟩ j p ((j : Int) + 1) (k : Int) P wd HL3.out.log (Int.le_refl 0) (by show (0 : Int) + L.length ≤ _; rw [HLEN.out]; omega) (by simp) (by show j ≤ L.length; rw [HLEN.out]; omega) (by omega) (by simpa using hP) hp
  clear hP hp
  go_wp2_with (fail)
  refine hsl.mono ?_
  rintro e we ⟨Ap, cp, rfl, hRp, hbe, hfp⟩
  have HL4 := Lib.hid (HL3.out.below hbe)
  have HM4 := Lib.hid (HM3.out.below hbe)
  have HRp := Lib.hid hRp
  clear hsl hRp hbe hfp HL3 HM3
  have ht := log_term F g ⟨0, 0, L⟩ (j : Int) we HL4.out.log (Int.le_refl 0) (by show (0 : Int) ≤ _; decide) (by show L.length ≤ _; rw [HLEN.out]; omega)
  rw [termAt_eq ⟨0, 0, L⟩ j (j : Int) (by simp) (by show j ≤ L.length; rw [HLEN.out]; omega)] at ht
  go_wp2_with (fail)
  refine ht.mono ?_
  rintro e wf ⟨rfl, hbf⟩
  have HL5 := Lib.hid (HL4.out.below hbf)
  have HM5 := Lib.hid (HM4.out.below hbf)
  have HSp := Lib.hid ((Seg.of_row HRp.out).below hbf)
  clear ht hbf HL4 HM4
  have hm := log_merge F g ⟨0, 0, L⟩ (j : Int) (lastT 0 (L.take j)) _ P wf HL5.out.log (Int.le_refl 0) (by show (0 : Int) + L.length ≤ _; rw [HLEN.out]; omega) HSp.out (by rw [HPL.out]; omega)
  have hme := merge_again ⟨0, 0, L⟩ j k (j : Int) HG.out (by show j ≤ L.length; rw [HLEN.out]; omega) (by simp) (Int.le_refl 0) (by show (0 : Int) + L.length ≤ _; rw [HLEN.out]; omega)
  rw [HPP.out, HPL.out] at hme
  dsimp only at hme hm
  rw [hme] at hm
  clear hme
  dsimp only
  generalize lastT 0 (L.take j) = tj at *
  go_wp2_with (fail)
  refine hm.mono ?_
  rintro e wg ⟨rfl, hg6⟩
  have HL6 := Lib.hid (HL5.out.of hg6)
  have HM6 := Lib.hid (HM5.out.beside HL5.out HD.out (Nat.le_refl _) hg6)
  clear hm hg6 HL5 HM5
  have hs1 := log_slice _ g ⟨0, 0, L⟩ 0 n 1 1048576 L wg HL6.out.log (Int.le_refl 0) (by show (0 : Int) + L.length ≤ _; rw [HLEN.out]; omega) (by simp) (Nat.zero_le _) (by decide) (by show (L.drop 0).take _ = L; rw [List.drop_zero, List.take_of_length_le (by rw [HLEN.out]; omega)]) HLEN.out
  go_wp2_with (fail)
  refine hs1.mono ?_
  rintro e wh ⟨A1, c1, rfl, hR1, hbh, _⟩
  have HR1 := Lib.hid hR1
  have HM7 := Lib.hid (HM6.out.below hbh)
  clear hs1 hR1 hbh HM6 HL6
  have hs2 := log_slice _ h ⟨0, 0, L⟩ 0 n 1 1048576 L wh HM7.out.log (Int.le_refl 0) (by show (0 : Int) + L.length ≤ _; rw [HLEN.out]; omega) (by simp) (Nat.zero_le _) (by decide) (by show (L.drop 0).take _ = L; rw [List.drop_zero, List.take_of_length_le (by rw [HLEN.out]; omega)]) HLEN.out
  go_wp2_with (fail)
  refine hs2.mono ?_
  rintro e wi ⟨A2, c2, rfl, hR2, hbi, _⟩
  have HM8 := Lib.hid (HM7.out.below hbi)
  have hse := same_true (.slice A1 n c1) (.slice A2 n c2) L wi (HR1.out.kept (Kept.of_below hbi fun _ => False) (fun _ _ h => h)) hR2 (by rw [HLEN.out]; omega)
  have hwp : IntKind.i64.wrap ((j : Int) + (p : Int)) = (j : Int) + (p : Int) := by rw [IntKind.wrap_i64]; omega
  clear hs2 hR2 hbi HM7
  go_wp2_with (fail)
  refine hse.mono ?_
  rintro e wj ⟨rfl, hbj⟩
  go_wp2
  go_ret
  exact ⟨rfl, below_next (HBa.out) (HM8.out.back.trans (hbj.mono HM8.out.back.size))⟩
end Go.Proofs.Ytpimpdgibcjbeaa
