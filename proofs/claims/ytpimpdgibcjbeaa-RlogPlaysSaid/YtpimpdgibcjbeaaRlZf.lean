import Derived.Test.YtpimpdgibcjbeaaRlZe
namespace Go.Proofs.Ytpimpdgibcjbeaa
open Go Go.RowKit
set_option linter.unusedVariables false
set_option linter.unusedSimpArgs false

/-- A beginning of a row. -/
theorem Row.prefix_ {α : Type} {w : World} {e sz n c : Nat} {A : Option Addr} {enc : α → List Value} {l : List α} (h : Row w e sz enc (.slice A n c) l) (i : Nat) (hi : i ≤ l.length) (hs : ∀ x, (enc x).length = sz) : Row w e sz enc (.slice A i c) (l.take i) := by
  rcases h.2 with ⟨hv, h0⟩ | ⟨g, cap, cur, hv, _, hg, _⟩
  · simp only [Value.slice.injEq] at hv
    obtain ⟨rfl, _, rfl⟩ := hv
    obtain rfl : i = 0 := by omega
    rw [List.take_zero]
    exact Row.nil_ ..
  · simp only [Value.slice.injEq] at hv
    obtain ⟨rfl, rfl, rfl⟩ := hv
    obtain ⟨_, cur, hg, hc, hm, hz, ht⟩ := h.block
    refine Row.of_block hg (by rw [List.length_take]; omega) (by omega) hm hz hs ?_
    have e : (l.flatMap enc).take (i * sz) = (l.take i).flatMap enc := by
      have e1 : l.flatMap enc = (l.take i).flatMap enc ++ (l.drop i).flatMap enc := by rw [← List.flatMap_append, List.take_append_drop]
      rw [e1, List.take_left' (by rw [flat_length hs, List.length_take, Nat.min_eq_left hi])]
    rw [← e, ← ht, List.take_take, Nat.min_eq_left (Nat.mul_le_mul_right _ hi)]
theorem Row.cap {α : Type} {w : World} {e sz n c : Nat} {A : Option Addr} {enc : α → List Value} {l : List α} (h : Row w e sz enc (.slice A n c) l) : n ≤ c ∧ c ≤ 9223372036854775807 := by
  rcases h.2 with ⟨hv, h0⟩ | ⟨g, cap, cur, hv, _, hg, hc, hm, _⟩
  · simp only [Value.slice.injEq] at hv
    omega
  · simp only [Value.slice.injEq] at hv
    unfold maxLen at hm
    omega
set_option maxRecDepth 100000 in
set_option maxHeartbeats 8000000 in
theorem match_walk (A : Option Addr) (len cap : Nat) (rows : List (List Value)) (A1 : Option Addr) (len1 cap1 : Nat) (rows1 : List (List Value)) (frm : Int) (w : World)
    (w0 : Open.Rows w [.int .i64] A len cap rows) (y0 : len * 8 ≤ 140737488351232) (w1 : Open.Rows w [.int .i64] A1 len1 cap1 rows1) (y1 : len1 * 8 ≤ 140737488351232) (w2 : (Lit.int .i64 frm).wf = true) :
    Calls Try.prog 4 #[.slice A len cap, .slice A1 len1 cap1, .int .i64 frm] w fun e w' => e = .returned (.bool true) ∧ Below w.heap.size w w' := by
  obtain ⟨f0, hF⟩ := int_args w0
  obtain ⟨f, hM⟩ := int_args w1
  have HF := Lib.hid hF
  have HM := Lib.hid hM
  obtain ⟨n, hn⟩ : ∃ n, min len1 40 = n := ⟨_, rfl⟩
  have hn40 : n ≤ 40 := by omega
  have HG := Lib.hid (grown_good f n hn40).1
  have HT := Lib.hid (grown_terms f n hn40)
  have HN := Lib.hid hn
  clear hF hM w0 w1 hn
  go_enter Try.func4, Try.ntmps4
  go_wp2_with (fail)
  refine (works_calls w).mono ?_
  rintro e wa ⟨rfl, hba⟩
  have HBa := Lib.hid hba
  clear hba
  go_wp2_with (fail)
  refine (grown_calls A len cap f0 wa (HF.out.below HBa.out) (by omega)).mono ?_
  rintro e wb ⟨g0, F0, rfl, hb⟩
  have HBb := Lib.hid (below_next HBa.out hb.back)
  clear hb
  go_wp2_with (fail)
  refine (grown_calls A1 len1 cap1 f wb (HM.out.below HBb.out) (by omega)).mono ?_
  rintro e wc ⟨g, F, rfl, hc⟩
  rw [HN.out] at hc
  have HL := Lib.hid hc
  have HBc := Lib.hid (below_next HBb.out hc.back)
  clear hc
  have hlen : (grownL f n).length = n := grownL_length f n
  generalize hL : grownL f n = L at *
  have HLEN := Lib.hid hlen
  clear hL
  have hlast := log_last F g ⟨0, 0, L⟩ wc HL.out.log (Int.le_refl 0) (by show (0 : Int) ≤ _; decide) (by show L.length ≤ 1048576; omega)
  rw [show (LogS.mk 0 0 L).last = (n : Int) from by unfold LogS.last; simp only; omega] at hlast
  clear hlen
  go_wp2_with (fail)
  refine hlast.mono ?_
  rintro e wd ⟨rfl, hbd⟩
  have HL2 := Lib.hid (HL.out.log.below hbd)
  have HBd := Lib.hid (below_next HBc.out hbd)
  have HFt := Lib.hid (show ∀ q, F q → q < wd.heap.size from fun q hq => Nat.lt_of_lt_of_le (HL.out.foot q hq).2 hbd.size)
  clear hlast hbd HL
  go_wp2_with (fail)
  refine (among_calls frm ((n : Int) + 1) _ (by omega)).mono ?_
  rintro e we ⟨rfl, hwe⟩
  obtain rfl := hwe.symm
  clear hwe
  have hab := amg_bounds frm ((n : Int) + 1) (by omega) (by omega)
  obtain ⟨j, hj⟩ : ∃ j : Nat, amg frm ((n : Int) + 1) = (j : Int) := Int.eq_ofNat_of_zero_le hab.1
  rw [hj] at hab ⊢
  have hjn : j ≤ n := by omega
  have HJL := Lib.hid (show j ≤ L.length by rw [HLEN.out]; exact hjn)
  clear hab hj
  have hs1 := log_slice F g ⟨0, 0, L⟩ 0 n 1 1048576 L wd HL2.out (Int.le_refl 0) (by show (0 : Int) + L.length ≤ _; rw [HLEN.out]; omega) (by simp) (Nat.zero_le _) (by decide) (by show (L.drop 0).take _ = L; rw [List.drop_zero, List.take_of_length_le (by rw [HLEN.out]; omega)]) HLEN.out
  go_wp2_with (fail)
  refine hs1.mono ?_
  rintro e we ⟨Aa, ca, rfl, hRa, hbe, hfa⟩
  have HRa := Lib.hid hRa
  have HL3 := Lib.hid (HL2.out.below hbe)
  have HBe := Lib.hid (below_next HBd.out hbe)
  have HFt3 := Lib.hid (show ∀ q, F q → q < we.heap.size from fun q hq => Nat.lt_of_lt_of_le (HFt.out q hq) hbe.size)
  have hcapa := hRa.cap
  clear hs1 hRa hbe hfa HL2 HFt
  go_wp2_with (fail)
  refine LoneL.new.mono ?_
  rintro e wf ⟨rfl, h5⟩
  have HC5 := Lib.hid h5
  have HL5 := Lib.hid (HL3.out.below h5.back)
  have HRa5 := Lib.hid (HRa.out.kept (Kept.of_below h5.back fun _ => False) (fun _ _ h => h))
  have HRal := Lib.hid (show ∀ q, (Value.slice Aa n ca).ownBlock = some q → q < we.heap.size from fun q e => HRa.out.lt e)
  clear h5 HL3 HRa
  -- c.Merge(0, 0, all[:at])
  have hca1 : (j : Int) ≤ (ca : Int) := by omega
  have hca2 : ca ≤ 9223372036854775807 := hcapa.2
  have HSa := Lib.hid (Seg.of_row (HRa5.out.prefix_ j HJL.out (fun _ => rfl)))
  have hm0 := log_merge _ we.heap.size ⟨0, 0, []⟩ 0 0 (.slice Aa j ca) (L.take j) wf HC5.out.log (Int.le_refl 0) (by show (0 : Int) + _ ≤ _; simp) HSa.out (by rw [List.length_take, HLEN.out]; omega)
  obtain ⟨xa, xc, hmn⟩ := merge_new L j HG.out HJL.out (by rw [HLEN.out]; omega)
  rw [hmn] at hm0
  clear hmn hcapa
  go_wp2_with (fail)
  refine hm0.mono ?_
  rintro e wg ⟨rfl, h6⟩
  have HC6 := Lib.hid (HC5.out.of h6)
  have HK6 := Lib.hid (show Kept wf wg (fun q => we.heap.size ≤ q) from h6.1.mono (fun q _ hq => (HC5.out.foot q hq).1))
  have HL6 := Lib.hid (HL5.out.kept HK6.out (fun q _ hf hS => by have := HFt3.out q hf; omega))
  have HRa6 := Lib.hid (HRa5.out.kept HK6.out (fun q e hS => by have := HRal.out q e; omega))
  clear hm0 h6 HC5 HL5 HRa5 HSa HK6
  obtain ⟨F6, hF6⟩ : ∃ F6, F6 = grow (fun k => k = we.heap.size) wf wg := ⟨_, rfl⟩
  rw [← hF6] at HC6
  clear hF6
  obtain ⟨tj, htj⟩ : ∃ tj, lastT 0 (L.take j) = tj := ⟨_, rfl⟩
  have HTJ := Lib.hid htj
  have htb : 0 ≤ tj ∧ tj ≤ 1000 := by
    rw [← htj]
    exact ⟨lastT_ge (HG.out.take j).rise, lastT_le (by decide) (fun x hx => by have := HT.out x (List.mem_of_mem_take hx); omega)⟩
  have hla := log_last F6 we.heap.size ⟨0, 0, L.take j⟩ wg HC6.out.log (Int.le_refl 0) (by show (0 : Int) ≤ _; decide) (by show (L.take j).length ≤ 1048576; rw [List.length_take, HLEN.out]; omega)
  rw [show (LogS.mk 0 0 (L.take j)).last = (j : Int) from by unfold LogS.last; simp only [List.length_take, HLEN.out]; omega, show (LogS.mk 0 0 (L.take j)).lastTerm = tj from by rw [lastTerm_eq]; exact htj] at hla
  clear htj
  go_wp2_with (fail)
  refine hla.mono ?_
  rintro e wh ⟨rfl, hbh⟩
  have HC7 := Lib.hid (show LoneL we.heap.size we wh F6 we.heap.size ⟨0, 0, mergedL L j 0 tj 0⟩ by
    have := HC6.out.below hbh
    unfold mergedL
    rw [if_pos rfl, List.replicate_zero, List.append_nil]
    exact this)
  have HL7 := Lib.hid (HL6.out.below hbh)
  have HRa7 := Lib.hid (HRa6.out.kept (Kept.of_below hbh fun _ => False) (fun _ _ h => h))
  clear hla hbh HC6 HL6 HRa6
  have hwt : IntKind.i64.wrap (tj + 1000) = tj + 1000 := by rw [IntKind.wrap_i64]; omega
  go_wp2_with (fail)
  go_loopg [85] 6 (fun gg s85 wr => ∃ (q : Nat) (Fc : Nat → Prop), q ≤ len ∧ q ≤ 5 ∧ 6 - q ≤ gg ∧ s85 = .int .i64 q ∧ Hid (LoneL we.heap.size we wr Fc we.heap.size ⟨0, 0, mergedL L j q tj 0⟩) ∧ Hid (LogAt wr F g ⟨0, 0, L⟩) ∧ Hid (Row wr 44 2 Ent.cells (.slice Aa n ca) L))
  case atStart => exact ⟨0, F6, Nat.zero_le _, by omega, by omega, rfl, HC7, HL7, HRa7⟩
  case round =>
    obtain ⟨q, Fc, hq1, hq5, hgq, rfl, HCr, HLr, HRr⟩ := hrel
    by_cases hlt : q < len ∧ q < 5
    · obtain ⟨hlt, h5⟩ := hlt
      have g1 : (q : Int) < (len : Int) := by omega
      have g2 : ¬ (5 : Int) ≤ (q : Int) := by omega
      have hsn := mergedL_snoc L j q HG.out (by rw [HLEN.out]; omega) (by omega) HJL.out (by rw [HTJ.out]; omega)
      rw [HTJ.out] at hsn
      have HSN := Lib.hid hsn
      clear hsn
      go_wp2_with (fail)
      refine (log_append Fc we.heap.size ⟨0, 0, mergedL L j q tj 0⟩ (ownE tj) wr HCr.out.log (Int.le_refl 0) (by unfold LogS.last; simp only [mergedL_length L j q tj 0 (by have := HJL.out; omega), if_true]; omega) (by show own3.size ≤ _; decide)).mono ?_
      rw [HSN.out]
      rintro e ws ⟨rfl, h8⟩
      have HC8 := Lib.hid (HCr.out.of h8)
      have HK8 := Lib.hid (show Kept wr ws (fun q => we.heap.size ≤ q) from h8.1.mono (fun q _ hq => (HCr.out.foot q hq).1))
      have HL8 := Lib.hid (HLr.out.kept HK8.out (fun q _ hf hS => by have := HFt3.out q hf; omega))
      have HR8 := Lib.hid (HRr.out.kept HK8.out (fun q e hS => by have := HRal.out q e; omega))
      clear h8 HCr HLr HRr HSN HK8
      go_wp2
      go_roundg (6 - (q + 1))
      case measure => omega
      case rel => exact ⟨q + 1, _, by omega, by omega, Nat.le_refl _, by go_num, HC8, HL8, HR8⟩
    · have g00 : ¬ ((q : Int) < (len : Int)) ∨ (q : Int) < (len : Int) ∧ (5 : Int) ≤ (q : Int) := by omega
      clear hlt
      obtain ⟨p, hp⟩ : ∃ p, (L.drop j).length = p := ⟨_, rfl⟩
      have HP := Lib.hid hp
      have hpn : j + p = n := by rw [← hp, List.length_drop, HLEN.out]; omega
      have hs2 := log_slice F g ⟨0, 0, L⟩ j p ((j : Int) + 1) 1048576 (L.drop j) wr HLr.out (Int.le_refl 0) (by show (0 : Int) + L.length ≤ _; rw [HLEN.out]; omega) (by simp) HJL.out (by decide) (by show (L.drop j).take _ = L.drop j; rw [List.take_of_length_le (by rw [hp]; omega)]) hp
      clear hp
      rcases g00 with g1 | ⟨g1, g2⟩
      all_goals
        go_wp2_with (fail)
        refine hs2.mono ?_
        rintro e wi ⟨Ar, cr, rfl, hRr2, hbi, hfr⟩
        have HRr2 := Lib.hid hRr2
        have HC9 := Lib.hid (HCr.out.below hbi)
        have HR9 := Lib.hid (HRr.out.kept (Kept.of_below hbi fun _ => False) (fun _ _ h => h))
        have hcr := hRr2.cap
        have hcr2 : cr ≤ 9223372036854775807 := hcr.2
        have hcr1 : p ≤ cr := hcr.1
        have HFr := Lib.hid (show ∀ q, (Value.slice Ar p cr).ownBlock = some q → ¬ Fc q from fun q e hf => by
          have h1 := (HCr.out.foot q hf).2
          have h2 := hfr q e
          omega)
        have HZW := Lib.hid (show we.heap.size ≤ wi.heap.size from HC9.out.back.size)
        clear hs2 hRr2 hbi hfr hcr HCr HLr HRr
        obtain ⟨wz, hwz⟩ : ∃ wz, wz = wr := ⟨_, rfl⟩
        subst wr
        go_wp2_with (fail)
        go_loopg [24] (p + 1) (fun gg s24 wr => ∃ (m : Nat) (Fm : Nat → Prop), m ≤ p + 1 ∧ p + 1 - m ≤ gg ∧ s24 = .int .i64 m ∧ Hid (LoneL we.heap.size we wr Fm we.heap.size ⟨0, 0, mergedL L j q tj (m - 1)⟩) ∧ Hid (Row wr 44 2 Ent.cells (.slice Aa n ca) L) ∧ Hid (Row wr 44 2 Ent.cells (.slice Ar p cr) (L.drop j)) ∧ Hid (∀ q, (Value.slice Ar p cr).ownBlock = some q → ¬ Fm q))
        case atStart => exact ⟨0, Fc, Nat.zero_le _, by omega, rfl, HC9, HR9, HRr2, HFr⟩
        case round =>
          obtain ⟨m, Fm, hm, hgm, rfl, HCr, HRr, HRs, HFs⟩ := hrel
          by_cases hmp : m ≤ p
          · have hLj : j + m ≤ L.length := by rw [HLEN.out]; omega
            have HLJ := Lib.hid hLj
            have g3 : (m : Int) ≤ (p : Int) := by omega
            have g4 : (0 : Int) ≤ (m : Int) := by omega
            have g5 : (m : Int) ≤ (cr : Int) := by omega
            have HLM := Lib.hid (show ((L.drop j).take m).length = m by rw [List.length_take, HP.out]; omega)
            obtain ⟨cut, hmx⟩ := merge_next L j q m HG.out (by rw [HLEN.out]; omega) (by omega) hLj HT.out (by rw [HTJ.out]; omega)
            rw [HTJ.out] at hmx
            have hm1 := log_merge Fm we.heap.size ⟨0, 0, mergedL L j q tj (m - 1)⟩ (j : Int) tj (.slice Ar m cr) ((L.drop j).take m) wr HCr.out.log (Int.le_refl 0) (by show (0 : Int) + _ ≤ _; rw [mergedL_length L j q tj _ (by omega)]; split <;> omega) (Seg.of_row (HRs.out.prefix_ m (by rw [HP.out]; exact hmp) (fun _ => rfl))) (by rw [HLM.out]; omega)
            rw [hmx] at hm1
            clear hmx hLj
            go_wp2_with (fail)
            refine hm1.mono ?_
            rintro e ws ⟨rfl, h8⟩
            have HC10 := Lib.hid (HCr.out.of h8)
            have HR10 := Lib.hid (HRr.out.kept h8.1 (fun q e hS => by have h1 := HRal.out q e; have h2 := (HCr.out.foot q hS).1; omega))
            have HS10 := Lib.hid (HRs.out.kept h8.1 (fun q e hS => HFs.out q e hS))
            have HFs10 := Lib.hid (show ∀ q, (Value.slice Ar p cr).ownBlock = some q → ¬ grow Fm wr ws q from fun q e hS => by
              rcases hS with hS | hS
              · exact HFs.out q e hS
              · have := HRs.out.lt e; omega)
            clear hm1 h8 HCr HRr HRs HFs
            have hw9 : IntKind.i64.wrap ((j : Int) + (m : Int)) = (j : Int) + (m : Int) := by rw [IntKind.wrap_i64]; omega
            obtain ⟨jm, hjm⟩ : ∃ jm, j + m = jm := ⟨_, rfl⟩
            have HJM := Lib.hid hjm
            have hnt : ((j : Int) + (m : Int)).toNat = jm := by omega
            have g7 : (0 : Int) ≤ (j : Int) + (m : Int) := by omega
            have hs3 := log_slice _ we.heap.size ⟨0, 0, mergedL L j q tj m⟩ 0 jm 1 ((j : Int) + (m : Int)) (L.take jm) ws HC10.out.log (Int.le_refl 0) (by show (0 : Int) + _ ≤ _; rw [mergedL_length L j q tj _ HLJ.out]; split <;> omega) (by simp) (Nat.zero_le _) (by omega) (by
              show ((mergedL L j q tj m).drop 0).take _ = L.take jm
              rw [List.drop_zero, show ((j : Int) + (m : Int)).toNat = j + m by omega, mergedL_head L j q tj m HLJ.out, hjm]) (by rw [List.length_take, HLEN.out]; omega)
            clear hjm
            go_wp2_with (fail)
            refine hs3.mono ?_
            rintro e wt ⟨Ag, cg, rfl, hRg, hbt, _⟩
            have HC11 := Lib.hid (HC10.out.below hbt)
            have HR11 := Lib.hid (HR10.out.kept (Kept.of_below hbt fun _ => False) (fun _ _ h => h))
            have HS11 := Lib.hid (HS10.out.kept (Kept.of_below hbt fun _ => False) (fun _ _ h => h))
            have hse := same_true (.slice Ag jm cg) (.slice Aa jm ca) (L.take jm) wt hRg (HR11.out.prefix_ jm (by rw [HLEN.out]; have := HJM.out; omega) (fun _ => rfl)) (by rw [List.length_take]; omega)
            have g6 : (j : Int) + (m : Int) ≤ (ca : Int) := by have := HR11.out.cap; omega
            clear hs3 hRg hbt HC10 HR10 HS10
            go_wp2_with (fail)
            refine hse.mono ?_
            rintro e wu ⟨rfl, hbu⟩
            have HC12 := Lib.hid (HC11.out.below hbu)
            have HR12 := Lib.hid (HR11.out.kept (Kept.of_below hbu fun _ => False) (fun _ _ h => h))
            have HS12 := Lib.hid (HS11.out.kept (Kept.of_below hbu fun _ => False) (fun _ _ h => h))
            clear hse hbu HC11 HR11 HS11
            have hmg := merge_again ⟨0, 0, mergedL L j q tj m⟩ j m (j : Int) (by have := mergedL_good L j q m HG.out (by rw [HTJ.out]; omega); rwa [HTJ.out] at this) (by show j ≤ (mergedL L j q tj m).length; rw [mergedL_length L j q tj _ HLJ.out]; split <;> omega) (by simp) (Int.le_refl 0) (by show (0 : Int) + _ ≤ _; rw [mergedL_length L j q tj _ HLJ.out]; split <;> omega)
            dsimp only at hmg
            rw [mergedL_take L j q tj m HJL.out, HTJ.out, mergedL_drop L j q tj m HLJ.out, HLM.out] at hmg
            have hm2 := log_merge _ we.heap.size ⟨0, 0, mergedL L j q tj m⟩ (j : Int) tj (.slice Ar m cr) ((L.drop j).take m) wu HC12.out.log (Int.le_refl 0) (by show (0 : Int) + _ ≤ _; rw [mergedL_length L j q tj _ HLJ.out]; split <;> omega) (Seg.of_row (HS12.out.prefix_ m (by rw [HP.out]; exact hmp) (fun _ => rfl))) (by rw [HLM.out]; omega)
            rw [hmg] at hm2
            clear hmg
            go_wp2_with (fail)
            refine hm2.mono ?_
            rintro e wv ⟨rfl, h9⟩
            have HC13 := Lib.hid (HC12.out.of h9)
            have HR13 := Lib.hid (HR12.out.kept h9.1 (fun q e hS => by have h1 := HRal.out q e; have h2 := (HC12.out.foot q hS).1; omega))
            have HS13 := Lib.hid (HS12.out.kept h9.1 (fun q e hS => HFs10.out q e hS))
            have HFs13 := Lib.hid (show ∀ q, (Value.slice Ar p cr).ownBlock = some q → ¬ grow (grow Fm wr ws) wu wv q from fun q e hS => by
              rcases hS with hS | hS
              · exact HFs10.out q e hS
              · have := HS12.out.lt e; omega)
            clear hm2 h9 HC12 HR12 HS12 HFs10
            go_wp2
            go_roundg (p + 1 - (m + 1))
            case measure => omega
            case rel => exact ⟨m + 1, _, by omega, by omega, by go_num, HC13, HR13, HS13, HFs13⟩
          · have g3 : ¬ (m : Int) ≤ (p : Int) := by omega
            clear hmp
            go_wp2
            go_ret
            exact ⟨rfl, HBe.out.trans (HCr.out.back.mono HBe.out.size)⟩
end Go.Proofs.Ytpimpdgibcjbeaa
