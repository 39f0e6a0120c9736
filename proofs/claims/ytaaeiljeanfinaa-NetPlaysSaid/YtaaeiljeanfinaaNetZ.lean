import Derived.Test.YtaaeiljeanfinaaNetY
namespace Go.Proofs.Ytaaeiljeanfinaa
open Go Go.RowKit
set_option linter.unusedVariables false
set_option linter.unusedSimpArgs false

set_option maxHeartbeats 8000000 in
set_option maxRecDepth 1000000 in
theorem plays_walk (a0 : Int) (A1 : Option Addr) (len1 cap1 : Nat) (rows1 : List (List Value)) (w : World) (w0 : (Lit.int .i64 a0).wf = true) (w1 : Open.Rows w [.int .i64, .int .i64, .int .i64, .int .i64, .str, .bool] A1 len1 cap1 rows1) (y1 : len1 * Try.prog.bytesOf 48 ≤ 140737488351232) :
    Calls Try.prog 7 #[.int .i64 a0, .slice A1 len1 cap1] w fun e w' => e = .returned (.bool true) ∧ Below w.heap.size w w' := by
  obtain ⟨f, hF⟩ := args_of w1 ActK.cells ActK.fits 6 rfl actK_of
  have hlen : len1 ≤ 9223372036854775807 := by have h1 := w1.2.1; have h2 := w1.2.2.1; unfold maxLen at h2; omega
  clear w1 y1 w0
  have HF := Lib.hid hF
  clear hF
  by_cases hn : a0 < 1 ∨ 16 < a0
  · have HN := Lib.hid hn
    clear hn
    go_enter Try.func7, Try.ntmps7
    go_wp2_with (fail)
    refine (net_new_bad a0 _ HN.out).mono ?_
    rintro e w2 ⟨rfl, hb2⟩
    have H2 := Lib.hid hb2
    clear hb2
    go_wp2_with (fail)
    refine (ref_new_bad a0 _ HN.out).mono ?_
    rintro e w3 ⟨rfl, hb3⟩
    have H3 := Lib.hid (below_next H2.out hb3)
    clear hb3
    go_wp2_with (fail)
    go_loopg [9] 0 (fun gg s9 wr => s9 = .int .i64 0 ∧ Hid (Below w.heap.size w wr))
    case atStart => exact ⟨rfl, H3⟩
    case round =>
      obtain ⟨rfl, HB⟩ := hrel
      go_wp2_with (fail)
      refine (works_true _).mono ?_
      rintro e w4 ⟨rfl, hb4⟩
      have H4 := Lib.hid (HB.out.trans (hb4.mono (by have := HB.out.size; omega)))
      clear hb4
      go_wp2
      go_ret
      exact ⟨rfl, H4.out⟩
  · obtain ⟨nn, hnn⟩ := Int.eq_ofNat_of_zero_le (show 0 ≤ a0 by omega)
    subst hnn
    have hn1 : 1 ≤ nn := by omega
    have hn2 : nn ≤ 16 := by omega
    clear hn
    go_enter Try.func7, Try.ntmps7
    go_wp2_with (fail)
    refine (net_new_ok nn _ (by omega) (by omega)).mono ?_
    rintro e w2 ⟨rfl, hb2, hna, hs2⟩
    have H2 := Lib.hid hb2
    have N2 := Lib.hid hna
    have S2 := Lib.hid hs2
    clear hb2 hna hs2
    go_wp2_with (fail)
    refine (ref_new_ok nn _ hn1 hn2).mono ?_
    rintro e w3 ⟨rfl, hb3, hra⟩
    have H3 := Lib.hid (below_next H2.out hb3)
    have HBF := Lib.hid (show ∃ F G, BothF w.heap.size w w3 F G w.heap.size w2.heap.size ⟨nn, 0, [], []⟩ (newRef nn) from ⟨_, _, N2.out.below hb3, hra, fun k hk => by have := S2.out; have := hb3.size; omega, fun k hk => by have := S2.out; omega, fun k hk hg => by have := S2.out; omega, H3.out, Nat.le_refl _⟩)
    have HSM := Lib.hid (show Same 0 ⟨nn, 0, [], []⟩ (newRef nn) from ⟨rfl, rfl, by simp, rfl, ⟨by simp [newRef]; omega, by simp [newRef]; omega, by simp [newRef], fun x hx => by simp [newRef] at hx; rw [hx.2, List.length_replicate]; rfl⟩, by simp, by simp, fun a b ha hb => by
      simp only [Int.ofNat_lt] at ha hb
      unfold getC newRef
      rw [getD_at _ a [] (by simpa using ha), List.getElem_replicate, getD_at _ b false (by simpa using hb), List.getElem_replicate]
      rfl, by simp, by simp⟩)
    clear hb3 hra
    have hgh : w.heap.size ≠ w2.heap.size := by have := S2.out; omega
    go_wp2_with (fail)
    go_loopg [9] 200 (fun gg s9 wr => ∃ (k : Nat) (s : NetS) (r : RefS) (F G : Nat → Prop), k ≤ len1 ∧ k ≤ 200 ∧ 200 - k ≤ gg ∧ s9 = .int .i64 k ∧ Hid (BothF w.heap.size w wr F G w.heap.size w2.heap.size s r) ∧ Hid (Same k s r))
    case atStart =>
      obtain ⟨F, G, hb⟩ := HBF.out
      exact ⟨0, _, _, F, G, Nat.zero_le _, by omega, by omega, rfl, Lib.hid hb, HSM⟩
    case round =>
      obtain ⟨k, s, r, F, G, hk1, hk2, hg, rfl, HB, HS⟩ := hrel
      by_cases hlt : k < len1 ∧ k < 200
      · obtain ⟨hlt, h200⟩ := hlt
        have g1 : (k : Int) < (len1 : Int) := by omega
        have g2 : (k : Int) < 200 := by omega
        have g0 : (0 : Int) ≤ (k : Int) := by omega
        obtain ⟨ad, hA, hcell⟩ := (HF.out.below HB.out.back).2 (by omega)
        obtain rfl := hA
        have c0 := hcell k hlt 0 _ rfl
        have c1 := hcell k hlt 1 _ rfl
        have c2 := hcell k hlt 2 _ rfl
        have c3 := hcell k hlt 3 _ rfl
        have c4 := hcell k hlt 4 _ rfl
        have c5 := hcell k hlt 5 _ rfl
        have hfit := Lib.hid (HF.out.1 k hlt)
        clear hcell
        generalize f k = a at c0 c1 c2 c3 c4 c5 hfit
        simp only [adr, ActK.cells, List.getElem?_cons_zero, List.getElem?_cons_succ, Nat.zero_add] at c0 c1 c2 c3 c4 c5
        go_wp2_with (fail)
        refine (step_walk w.heap.size w _ F G w.heap.size w2.heap.size k s r a HB.out HS.out (by omega) hfit.out).mono ?_
        rintro e w4 ⟨rfl, s', r', F', G', hs', hb'⟩
        have HS4 := Lib.hid hs'
        have HB4 := Lib.hid hb'
        clear hs' hb' c0 c1 c2 c3 c4 c5
        go_wp2_with (fail)
        refine (same_walk w.heap.size w _ F' G' w.heap.size w2.heap.size (k + 1) s' r' HB4.out HS4.out).mono ?_
        rintro e w5 ⟨rfl, hb5⟩
        have HB5 := Lib.hid (HB4.out.below hb5)
        clear hb5
        go_wp2
        go_roundg (200 - (k + 1))
        case measure => omega
        case rel => exact ⟨k + 1, s', r', F', G', by omega, by omega, Nat.le_refl _, by go_num, HB5, HS4⟩
      · have g00 : ¬ ((k : Int) < (len1 : Int)) ∨ (k : Int) < (len1 : Int) ∧ ¬ ((k : Int) < 200) := by omega
        have HBk := Lib.hid HB.out.back
        clear hlt
        rcases g00 with g1 | ⟨g1, g2⟩
        all_goals
          go_wp2_with (fail)
          refine (works_true _).mono ?_
          rintro e w4 ⟨rfl, hb4⟩
          have H4 := Lib.hid (HBk.out.trans (hb4.mono (by have := HBk.out.size; omega)))
          clear hb4
          go_wp2
          go_ret
          exact ⟨rfl, H4.out⟩
end Go.Proofs.Ytaaeiljeanfinaa
