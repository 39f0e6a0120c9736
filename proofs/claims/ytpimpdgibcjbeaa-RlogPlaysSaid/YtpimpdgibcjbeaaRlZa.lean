import Derived.Test.YtpimpdgibcjbeaaRlZ
namespace Go.Proofs.Ytpimpdgibcjbeaa
open Go Go.RowKit
set_option linter.unusedVariables false
set_option linter.unusedSimpArgs false

theorem info_ent_rows : True := trivial
set_option maxRecDepth 100000 in
set_option maxHeartbeats 4000000 in
theorem slices_walk (A : Option Addr) (len cap : Nat) (rows : List (List Value)) (A1 : Option Addr) (len1 cap1 : Nat) (rows1 : List (List Value)) (w : World) (w0 : Open.Rows w [.int .i64] A len cap rows) (y0 : len * 8 ≤ 140737488351232) (w1 : Open.Rows w [.int .i64] A1 len1 cap1 rows1) (y1 : len1 * 8 ≤ 140737488351232) :
    Calls Try.prog 5 #[.slice A len cap, .slice A1 len1 cap1] w fun e w' => e = .returned (.bool true) ∧ Below w.heap.size w w' := by
  obtain ⟨f, hF⟩ := int_args w0
  obtain ⟨cu, hC⟩ := int_args w1
  have HF := Lib.hid hF
  have HC := Lib.hid hC
  obtain ⟨n, hn⟩ : ∃ n, min len 40 = n := ⟨_, rfl⟩
  have hn40 : n ≤ 40 := by omega
  have HG := Lib.hid (grown_good f n hn40).1
  have HN := Lib.hid hn
  clear hF hC w0 w1 hn
  go_enter Try.func5, Try.ntmps5
  go_wp2_with (fail)
  refine (works_calls w).mono ?_
  rintro e wa ⟨rfl, hba⟩
  have HBa := Lib.hid hba
  clear hba
  go_wp2_with (fail)
  refine (grown_calls A len cap f wa (HF.out.below HBa.out) (by omega)).mono ?_
  rintro e wb ⟨g, F, rfl, hb⟩
  rw [HN.out] at hb
  have HL := Lib.hid hb
  clear hb
  have hlen : (grownL f n).length = n := grownL_length f n
  generalize hL : grownL f n = L at *
  have HLEN := Lib.hid hlen
  clear hL
  have hlast := log_last F g ⟨0, 0, L⟩ wb HL.out.log (Int.le_refl 0) (by show (0 : Int) ≤ _; decide) (by show L.length ≤ 1048576; omega)
  rw [show (LogS.mk 0 0 L).last = (n : Int) from by unfold LogS.last; simp only; omega] at hlast
  go_wp2_with (fail)
  refine hlast.mono ?_
  rintro e wc ⟨rfl, hbc⟩
  have HL2 := Lib.hid (HL.out.below hbc)
  clear hlast hbc HL hlen
  have hs1 := log_slice _ g ⟨0, 0, L⟩ 0 n 1 1048576 L wc HL2.out.log (Int.le_refl 0) (by show (0 : Int) + L.length ≤ _; rw [HLEN.out]; omega) (by simp) (Nat.zero_le _) (by decide) (by show (L.drop 0).take _ = L; rw [List.drop_zero, List.take_of_length_le (by rw [HLEN.out]; omega)]) HLEN.out
  go_wp2_with (fail)
  refine hs1.mono ?_
  rintro e wd ⟨Aa, ca, rfl, hRa, hbd, _⟩
  have HRa := Lib.hid hRa
  have HL3 := Lib.hid (HL2.out.below hbd)
  have HBd := Lib.hid (HBa.out.trans (HL3.out.back.mono HBa.out.size))
  clear hs1 hRa hbd HL2
  go_wp2_with (fail)
  -- at is s10, k is s11, got is s12
  go_loopg [10, 11, 12] (n + 1) (fun gg s10 s11 s12 wr => ∃ (j k : Nat) (Ag : Option Addr) (cg : Nat), j ≤ n ∧ n + 1 - j ≤ gg ∧ s10 = .int .i64 ((j : Int) + 1) ∧ s11 = .int .i64 k ∧ k ≤ j ∧ s12 = .slice Ag j cg ∧ Hid (LoneL wa.heap.size wa wr F g ⟨0, 0, L⟩) ∧ Hid (Row wr 44 2 Ent.cells (.slice Ag j cg) (L.take j)) ∧ Hid (Row wr 44 2 Ent.cells (.slice Aa n ca) L) ∧ Hid (∀ q, (Value.slice Ag j cg).ownBlock = some q → wd.heap.size ≤ q) ∧ Hid (Below wd.heap.size wd wr))
  case atStart => exact ⟨0, 0, none, 0, Nat.zero_le _, by omega, by simp, rfl, Nat.le_refl _, rfl, HL3, Lib.hid (Row.nil_ ..), HRa, Lib.hid (by simp [Value.ownBlock]), Lib.hid (Below.refl _ _)⟩
  case round =>
    obtain ⟨j, k, Ag, cg, hj, hg, rfl, rfl, hkj, rfl, HLr, HRg, HRr, HFg, HBr⟩ := hrel
    by_cases hlt : j < n
    · have g1 : (j : Int) + 1 ≤ (n : Int) := by omega
      by_cases hk1 : k < len1
      · obtain ⟨ad, hA, hcell⟩ := ((HC.out.below HBd.out).below HBr.out).2 (by omega)
        obtain rfl := hA
        have c0 := hcell k hk1 0 _ rfl
        clear hcell
        simp only [adr, Nat.add_zero, Nat.mul_one] at c0
        have g2 : (k : Int) < (len1 : Int) := by omega
        have g3 : (0 : Int) ≤ (k : Int) := by omega
        go_wp2_with (fail)
        refine (among_calls (cu k) 5 _ (by decide)).mono ?_
        rintro e w7 ⟨rfl, hw7⟩
        obtain rfl := hw7.symm
        clear hw7
        have hm := amg_bounds (cu k) 5 (by decide) (by decide)
        have hwm : IntKind.i64.wrap (1 + amg (cu k) 5) = 1 + amg (cu k) 5 := by rw [IntKind.wrap_i64]; omega
        obtain ⟨mI, hmI⟩ : ∃ mI, 1 + amg (cu k) 5 = mI := ⟨_, rfl⟩
        rw [hmI] at hwm
        have hmI1 : 1 ≤ mI := by omega
        have hmI5 : mI ≤ 5 := by omega
        rw [← hmI] at hwm
        rw [hmI] at hwm
        obtain ⟨P, hP⟩ : ∃ P, (L.drop j).take (mI : Int).toNat = P := ⟨_, rfl⟩
        obtain ⟨p, hp⟩ : ∃ p, P.length = p := ⟨_, rfl⟩
        have hp1 : 1 ≤ p ∧ p ≤ n - j ∧ (p : Int) ≤ mI := by rw [← hp, ← hP, List.length_take, List.length_drop, HLEN.out]; omega
        have HPL := Lib.hid hp
        have HJP := Lib.hid (show L.take j ++ P = L.take (j + p) by
          rw [List.take_add, ← hp, ← hP]
          congr 1
          rw [List.length_take]
          apply List.ext_getElem? 
          intro i
          simp only [List.getElem?_take, List.length_drop]
          by_cases h : i < (mI : Int).toNat
          · by_cases h2 : i < L.length - j
            · rw [if_pos h, if_pos (by omega)]
            · rw [if_pos h, List.getElem?_eq_none (by rw [List.length_drop]; omega)]
              simp
          · rw [if_neg h, if_neg (by omega)])
        have hsl := log_slice F g ⟨0, 0, L⟩ j p ((j : Int) + 1) mI P wr HLr.out.log (Int.le_refl 0) (by show (0 : Int) + L.length ≤ _; rw [HLEN.out]; omega) (by simp) (by show j ≤ L.length; rw [HLEN.out]; omega) (by omega) hP hp
        clear hP hp
        go_wp2_with (fail)
        refine hsl.mono ?_
        rintro e ws ⟨Ap, cp, rfl, hRp, hbs, hfp⟩
        have HL4 := Lib.hid (HLr.out.below hbs)
        have HRp := Lib.hid hRp
        have HRg4 := Lib.hid (HRg.out.kept (Kept.of_below hbs fun _ => False) (fun _ _ h => h))
        have HRr4 := Lib.hid (HRr.out.kept (Kept.of_below hbs fun _ => False) (fun _ _ h => h))
        have HB4 := Lib.hid (below_next HBr.out hbs)
        have HOa := Lib.hid (show ∀ q, (Value.slice Aa n ca).ownBlock = some q → q < wd.heap.size from fun q e => HRa.out.lt e)
        have hp0 : ¬ (p : Int) = 0 := by omega
        have q0 : ((p : Int) == 0) = false := by simp; omega
        have qm : decide (mI < (p : Int)) = false := decide_eq_false (by omega)
        have HFl := Lib.hid (show ∀ q, F q → q < wd.heap.size from fun q hq => (HL3.out.foot q hq).2)
        clear hsl hRp hbs hfp
        go_wp2_with (at_builtin; refine Row.appendRow_list (by rfl) (.tmp 79) (.tmp 80) 36 44 (.agg #[.int .i64 0, .string ⟨#[]⟩]) 2 24 rfl Try.underlying36 info_entries rfl (by decide) (by decide) (.slice Ag j cg) (.slice Ap p cp) (L.take j) P rfl rfl HRg4.out HRp.out (fun _ => rfl) one_ent (by rw [HPL.out, List.length_take]; omega) ?_)
        intro v6 w6 hR hG hO
        rw [HJP.out] at hR
        obtain ⟨A6, c6, rfl⟩ := hR.shape_n (n := j + p) (by rw [List.length_take, HLEN.out]; omega)
        have HK6 := Lib.hid (show Kept ws w6 (fun q => wd.heap.size ≤ q) from (Kept.refl ws _).grown hG (fun k hk => .inl (HFg.out k hk)))
        have HR6 := Lib.hid hR
        have HO6 := Lib.hid (show ∀ q, (Value.slice A6 (j + p) c6).ownBlock = some q → wd.heap.size ≤ q from fun q e => by
          rcases hO with h | h
          · exact HFg.out q (h ▸ e)
          · rw [h] at e
            injection e with e
            have := HB4.out.size
            omega)
        clear hR hG hO
        have hwp : IntKind.i64.wrap ((j : Int) + 1 + (p : Int)) = ((j + p : Nat) : Int) + 1 := by rw [IntKind.wrap_i64]; omega
        go_wp2
        go_roundg (n + 1 - (j + p))
        case measure => omega
        case rel => exact ⟨j + p, k + 1, A6, c6, by omega, by omega, by simp [hwp], by go_num, by omega, rfl, Lib.hid (HL4.out.kept HK6.out (fun q hf hS => by have := HFl.out q hf; omega) (fun q hS => by have := HL3.out.back.size; omega)), HR6, Lib.hid (HRr4.out.kept HK6.out (fun q e hS => by have := HOa.out q e; omega)), HO6, Lib.hid (HB4.out.trans (HK6.out.below (by exact HB4.out.size) (fun q hq hS => by omega)))⟩
      · have g2 : ¬ (k : Int) < (len1 : Int) := by omega
        obtain ⟨P, hP⟩ : ∃ P, (L.drop j).take (1 : Int).toNat = P := ⟨_, rfl⟩
        obtain ⟨p, hp⟩ : ∃ p, P.length = p := ⟨_, rfl⟩
        have hp1 : 1 ≤ p ∧ p ≤ n - j ∧ (p : Int) ≤ 1 := by rw [← hp, ← hP, List.length_take, List.length_drop, HLEN.out]; omega
        have HPL := Lib.hid hp
        have HJP := Lib.hid (show L.take j ++ P = L.take (j + p) by
          rw [List.take_add, ← hp, ← hP]
          congr 1
          rw [List.length_take]
          apply List.ext_getElem? 
          intro i
          simp only [List.getElem?_take, List.length_drop]
          by_cases h : i < (1 : Int).toNat
          · by_cases h2 : i < L.length - j
            · rw [if_pos h, if_pos (by omega)]
            · rw [if_pos h, List.getElem?_eq_none (by rw [List.length_drop]; omega)]
              simp
          · rw [if_neg h, if_neg (by omega)])
        have hsl := log_slice F g ⟨0, 0, L⟩ j p ((j : Int) + 1) 1 P wr HLr.out.log (Int.le_refl 0) (by show (0 : Int) + L.length ≤ _; rw [HLEN.out]; omega) (by simp) (by show j ≤ L.length; rw [HLEN.out]; omega) (by omega) hP hp
        clear hP hp
        go_wp2_with (fail)
        refine hsl.mono ?_
        rintro e ws ⟨Ap, cp, rfl, hRp, hbs, hfp⟩
        have HL4 := Lib.hid (HLr.out.below hbs)
        have HRp := Lib.hid hRp
        have HRg4 := Lib.hid (HRg.out.kept (Kept.of_below hbs fun _ => False) (fun _ _ h => h))
        have HRr4 := Lib.hid (HRr.out.kept (Kept.of_below hbs fun _ => False) (fun _ _ h => h))
        have HB4 := Lib.hid (below_next HBr.out hbs)
        have HOa := Lib.hid (show ∀ q, (Value.slice Aa n ca).ownBlock = some q → q < wd.heap.size from fun q e => HRa.out.lt e)
        have hp0 : ¬ (p : Int) = 0 := by omega
        have q0 : ((p : Int) == 0) = false := by simp; omega
        have qm : decide (1 < (p : Int)) = false := decide_eq_false (by omega)
        have HFl := Lib.hid (show ∀ q, F q → q < wd.heap.size from fun q hq => (HL3.out.foot q hq).2)
        clear hsl hRp hbs hfp
        go_wp2_with (at_builtin; refine Row.appendRow_list (by rfl) (.tmp 79) (.tmp 80) 36 44 (.agg #[.int .i64 0, .string ⟨#[]⟩]) 2 24 rfl Try.underlying36 info_entries rfl (by decide) (by decide) (.slice Ag j cg) (.slice Ap p cp) (L.take j) P rfl rfl HRg4.out HRp.out (fun _ => rfl) one_ent (by rw [HPL.out, List.length_take]; omega) ?_)
        intro v6 w6 hR hG hO
        rw [HJP.out] at hR
        obtain ⟨A6, c6, rfl⟩ := hR.shape_n (n := j + p) (by rw [List.length_take, HLEN.out]; omega)
        have HK6 := Lib.hid (show Kept ws w6 (fun q => wd.heap.size ≤ q) from (Kept.refl ws _).grown hG (fun k hk => .inl (HFg.out k hk)))
        have HR6 := Lib.hid hR
        have HO6 := Lib.hid (show ∀ q, (Value.slice A6 (j + p) c6).ownBlock = some q → wd.heap.size ≤ q from fun q e => by
          rcases hO with h | h
          · exact HFg.out q (h ▸ e)
          · rw [h] at e
            injection e with e
            have := HB4.out.size
            omega)
        clear hR hG hO
        have hwp : IntKind.i64.wrap ((j : Int) + 1 + (p : Int)) = ((j + p : Nat) : Int) + 1 := by rw [IntKind.wrap_i64]; omega
        go_wp2
        go_roundg (n + 1 - (j + p))
        case measure => omega
        case rel => exact ⟨j + p, k + 1, A6, c6, by omega, by omega, by simp [hwp], by go_num, by omega, rfl, Lib.hid (HL4.out.kept HK6.out (fun q hf hS => by have := HFl.out q hf; omega) (fun q hS => by have := HL3.out.back.size; omega)), HR6, Lib.hid (HRr4.out.kept HK6.out (fun q e hS => by have := HOa.out q e; omega)), HO6, Lib.hid (HB4.out.trans (HK6.out.below (by exact HB4.out.size) (fun q hq hS => by omega)))⟩
    · obtain rfl : j = n := by omega
      have g1 : ¬ (j : Int) + 1 ≤ (j : Int) := by omega
      have HRg2 := Lib.hid (show Row wr 44 2 Ent.cells (.slice Ag j cg) L by have := HRg.out; rwa [List.take_of_length_le (by rw [HLEN.out]; omega)] at this)
      clear hlt HRg
      obtain ⟨wq, hwq⟩ : ∃ wq, wq = wr := ⟨_, rfl⟩
      subst wr
      go_wp2_with (fail)
      go_loopg [88] j (fun gg s88 wz => ∃ (i : Nat), i ≤ j ∧ j - i ≤ gg ∧ s88 = .int .i64 i ∧ Hid (Below wq.heap.size wq wz))
      case atStart => exact ⟨0, Nat.zero_le _, by omega, rfl, Lib.hid (Below.refl _ _)⟩
      case round =>
        obtain ⟨i, hi, hgi, rfl, HBz⟩ := hrel
        by_cases hij : i < j
        · have RZ := HRr.out.kept (S := fun _ => False) (Kept.of_below HBz.out _) (fun _ _ h => h)
          obtain ⟨b1, d1, hv1, hlt1, hcl1⟩ := RZ.form (by rw [HLEN.out]; omega)
          injection hv1 with hA1 hnn hc1
          clear hnn
          subst hA1 hc1
          have x0 := RZ.cell (fun _ => rfl) i 0 (by rw [HLEN.out]; exact hij) (by omega)
          have x1 := RZ.cell (fun _ => rfl) i 1 (by rw [HLEN.out]; exact hij) (by omega)
          have hiL : i < L.length := by rw [HLEN.out]; exact hij
          have ht := log_term F g ⟨0, 0, L⟩ ((i : Int) + 1) (wr.alloc (.cells #[.int .i64 (L[i]'hiL).term, .string (L[i]'hiL).data] 44)) ((HLr.out.below HBz.out).below ((Below.refl _ _).alloc (Nat.le_refl _) _)).log (Int.le_refl 0) (by show (0 : Int) ≤ _; decide) (by show L.length ≤ _; rw [HLEN.out]; omega)
          rw [termAt_eq ⟨0, 0, L⟩ (i + 1) ((i : Int) + 1) (by simp) (by show i + 1 ≤ L.length; omega)] at ht
          have hlt1' : lastT 0 (L.take (i + 1)) = (L[i]'hiL).term := by rw [← List.take_append_getElem hiL, lastT_snoc]
          dsimp only at ht
          rw [hlt1'] at ht
          have HPREV := Lib.hid (show ∀ i', i = i' + 1 → ∃ h : i' < L.length, (L[i']'h).term ≤ (L[i]'hiL).term from fun i' e => by
            subst e
            refine ⟨by omega, ?_⟩
            have h1 := risen_drop HG.out.rise (i' + 1)
            rw [← List.take_append_getElem (by omega), lastT_snoc, List.drop_eq_getElem_cons hiL] at h1
            simp only [risen, Bool.and_eq_true, decide_eq_true_eq] at h1
            exact h1.1)
          have HCZ := Lib.hid (show ∀ i', i = i' + 1 → ∃ h : i' < L.length, wr.cell? ⟨b1, i' * 2, none⟩ = some (.int .i64 (L[i']'h).term) from fun i' e => ⟨by omega, by
            have := RZ.cell (fun _ => rfl) i' 0 (by omega) (by omega)
            simpa [Ent.cells] using this⟩)
          generalize hx : (L[i]'hiL) = x at *
          simp only [Ent.cells, List.getElem?_cons_zero, List.getElem?_cons_succ, Nat.add_zero, Nat.mul_one] at x0 x1
          have g2 : (i : Int) < (j : Int) := by omega
          have g3 : (0 : Int) ≤ (i : Int) := by omega
          have hb1 : b1 < wr.heap.size := World.block_lt_of_cell? _ _ x0
          have hwi : IntKind.i64.wrap ((i : Int) + 1) = (i : Int) + 1 := by rw [IntKind.wrap_i64]; omega
          clear RZ hlt1' hx hlt1 hcl1
          go_wp2_with (fail)
          refine ht.mono ?_
          rintro e wt ⟨rfl, hbt⟩
          have HBt := Lib.hid hbt
          have HBz2 := Lib.hid (HBz.out.trans ((((Below.refl wr.heap.size wr).alloc (Nat.le_refl _) _).trans (hbt.mono (by simp))).mono HBz.out.size))
          have z0 := ((Blk.new wr 44 #[.int .i64 x.term, .string x.data]).kept (Kept.of_below hbt fun _ => False) (fun h => h)).cell 0
          clear ht hbt
          rcases Nat.eq_zero_or_pos i with h0 | h0
          · have qi : decide (0 < (i : Int)) = false := decide_eq_false (by omega)
            have qi2 : decide (0 < i) = false := decide_eq_false (by omega)
            clear h0
            go_wp2_with (fail)
            go_quiet (fail)
            go_wp2
            go_roundg (j - (i + 1))
            case measure => omega
            case rel => exact ⟨i + 1, by omega, Nat.le_refl _, by go_num, Lib.hid (pw_drewN HBz2.out _)⟩
          · obtain ⟨i', hi'⟩ : ∃ i', i = i' + 1 := ⟨i - 1, by omega⟩
            obtain ⟨hl', y0⟩ := HCZ.out i' hi'
            obtain ⟨hl2, hle⟩ := HPREV.out i' hi'
            generalize (L[i']'hl').term = ty at y0 hle
            have y1 : wt.cell? ⟨b1, i' * 2, none⟩ = some (.int .i64 ty) := by
              rw [HBt.out.cell (p := ⟨b1, i' * 2, none⟩) (by simp; omega), World.cell?_alloc_lt _ _ _ (by exact hb1)]
              exact y0
            have qi : decide (0 < (i : Int)) = true := decide_eq_true (by omega)
            have qi2 : decide (0 < i) = true := decide_eq_true (by omega)
            have hwi2 : IntKind.i64.wrap ((i : Int) - 1) = (i' : Int) := by rw [IntKind.wrap_i64]; omega
            have g4 : (0 : Int) ≤ (i' : Int) := by omega
            have g5 : (i' : Int) < (j : Int) := by omega
            have qt : decide (x.term < ty) = false := decide_eq_false (by omega)
            clear h0 y0
            go_wp2_with (fail)
            go_quiet (fail)
            go_wp2
            go_roundg (j - (i + 1))
            case measure => omega
            case rel => exact ⟨i + 1, by omega, Nat.le_refl _, by go_num, Lib.hid (pw_drewN HBz2.out _)⟩
        · obtain rfl : i = j := by omega
          have g2 : ¬ (i : Int) < (i : Int) := by omega
          have hse := same_true (.slice Ag i cg) (.slice Aa i ca) L wr (HRg2.out.kept (Kept.of_below HBz.out fun _ => False) (fun _ _ h => h)) (HRr.out.kept (Kept.of_below HBz.out fun _ => False) (fun _ _ h => h)) (by rw [HLEN.out]; omega)
          clear hij
          go_wp2_with (fail)
          refine hse.mono ?_
          rintro e wj ⟨rfl, hbj⟩
          go_wp2
          go_ret
          exact ⟨rfl, HBd.out.trans ((below_next (below_next HBr.out HBz.out) hbj).mono HBd.out.size)⟩
end Go.Proofs.Ytpimpdgibcjbeaa
