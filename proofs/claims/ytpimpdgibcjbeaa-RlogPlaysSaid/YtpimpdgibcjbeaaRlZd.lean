import Derived.Test.YtpimpdgibcjbeaaRlZc
namespace Go.Proofs.Ytpimpdgibcjbeaa
open Go Go.RowKit
set_option linter.unusedVariables false
set_option linter.unusedSimpArgs false

theorem one_int : ∀ x : Int, ∀ u ∈ icell x, u.oneCell' = true := fun x u hu => by simp [icell] at hu; subst hu; rfl
structure XS where (n : Int) (A : Option Addr) (c : Nat) (zs : List Int)
def XS.cells (x : XS) : List Value := [.int .i64 x.n, .slice x.A x.zs.length x.c]
theorem agreed_some (s : LogS) (zs : List Int) (term commit : Int) (h : 0 < zs.length) (hc : 0 ≤ commit) : ∃ n, s.agreed zs term commit = (n, 0) := by
  unfold LogS.agreed
  rw [if_neg (by rintro (h' | h'); exact absurd h' (List.length_pos_iff.1 h); omega)]
  exact ⟨_, rfl⟩
theorem agreedN_bounds {L : List Ent} {zs : List Int} {term n : Int} (h : (LogS.mk 0 0 L).agreed zs term 0 = (n, 0)) (hl : L.length ≤ 1000) : 0 ≤ n ∧ n ≤ L.length := by
  unfold LogS.agreed at h
  split at h
  · cases h
  · have e := (Prod.mk.inj h).1
    have := agreedN_cases L hl (medZ zs) term 0 (Int.le_refl 0) (by omega)
    rw [e] at this
    rcases this with h | h <;> omega
set_option maxRecDepth 100000 in
set_option maxHeartbeats 8000000 in
theorem agreed_walk (A : Option Addr) (len cap : Nat) (rows : List (List Value)) (A1 : Option Addr) (len1 cap1 : Nat) (rows1 : List (List Value)) (A2 : Option Addr) (len2 cap2 : Nat) (rows2 : List (List Value)) (w : World)
    (w0 : Open.Rows w [.int .i64] A len cap rows) (y0 : len * 8 ≤ 140737488351232) (w1 : Open.Rows w [.int .i64] A1 len1 cap1 rows1) (y1 : len1 * 8 ≤ 140737488351232) (w2 : Open.Rows w [.int .i64] A2 len2 cap2 rows2) (y2 : len2 * 8 ≤ 140737488351232) :
    Calls Try.prog 3 #[.slice A len cap, .slice A1 len1 cap1, .slice A2 len2 cap2] w fun e w' => e = .returned (.bool true) ∧ Below w.heap.size w w' := by
  obtain ⟨f, hF⟩ := int_args w0
  obtain ⟨mt, hM⟩ := int_args w1
  obtain ⟨mo, hO⟩ := int_args w2
  have HF := Lib.hid hF
  have HM := Lib.hid hM
  have HO := Lib.hid hO
  obtain ⟨n, hn⟩ : ∃ n, min len 40 = n := ⟨_, rfl⟩
  have hn40 : n ≤ 40 := by omega
  have HG := Lib.hid (grown_good f n hn40).1
  have HN := Lib.hid hn
  clear hF hM hO w0 w1 w2 hn
  go_enter Try.func3, Try.ntmps3
  go_wp2_with (fail)
  refine (works_calls w).mono ?_
  rintro e wa ⟨rfl, hba⟩
  have HBa := Lib.hid hba
  clear hba
  go_wp2_with (fail)
  refine (grown_calls A len cap f wa (HF.out.below HBa.out) (by omega)).mono ?_
  rintro e wb ⟨g, F, rfl, hb⟩
  rw [HN.out] at hb
  have HL := Lib.hid hb
  clear hb
  have hlen : (grownL f n).length = n := grownL_length f n
  generalize hL : grownL f n = L at *
  have HLEN := Lib.hid hlen
  clear hL
  by_cases hbad : len1 = 0 ∨ 20 < len1
  · have q20 : (len1 = 0) ∨ ¬ (len1 = 0) ∧ 20 < len1 := by omega
    clear hbad hlen
    rcases q20 with h | ⟨h1, h2⟩
    · subst h
      go_wp2
      go_ret
      exact ⟨rfl, below_next HBa.out HL.out.back⟩
    · have q0 : ((len1 : Int) == 0) = false := by simp; omega
      have q1 : decide (20 < (len1 : Int)) = true := decide_eq_true (by omega)
      clear h1 h2
      go_wp2
      go_ret
      exact ⟨rfl, below_next HBa.out HL.out.back⟩
  have q0 : ((len1 : Int) == 0) = false := by simp; omega
  have q1 : decide (20 < (len1 : Int)) = false := decide_eq_false (by omega)
  have hk0 : 0 < len1 := by omega
  have hk20 : len1 ≤ 20 := by omega
  clear hbad
  have hlast := log_last F g ⟨0, 0, L⟩ wb HL.out.log (Int.le_refl 0) (by show (0 : Int) ≤ _; decide) (by show L.length ≤ 1048576; omega)
  rw [show (LogS.mk 0 0 L).last = (n : Int) from by unfold LogS.last; simp only; omega] at hlast
  generalize (LogS.mk 0 0 L).lastTerm = tn at hlast
  clear hlen
  go_wp2_with (fail)
  refine hlast.mono ?_
  rintro e wc ⟨rfl, hbc⟩
  have HL2 := Lib.hid (HL.out.below hbc)
  clear hlast hbc HL
  have HBd := Lib.hid (HBa.out.trans (HL2.out.back.mono HBa.out.size))
  obtain ⟨Bq, hBq⟩ : ∃ Bq, wc.heap.size = Bq := ⟨_, rfl⟩
  have HBq := Lib.hid hBq
  have HFl := Lib.hid (show ∀ q, F q → q < Bq from fun q hq => by have := (HL2.out.foot q hq).2; omega)
  have HBw := Lib.hid (show wa.heap.size ≤ Bq by have := HL2.out.back.size; omega)
  obtain ⟨fa, hfa⟩ : ∃ fa, fa = fun i => amg (mt i) ((n : Int) + 2) := ⟨_, rfl⟩
  obtain ⟨fb, hfb⟩ : ∃ fb, fb = fun i => fa i + (if i < len2 then amg (mo i) 5 else 0) := ⟨_, rfl⟩
  have HAB := Lib.hid (show ∀ i, fa i ≤ fb i from fun i => by
    rw [hfb]
    have := amg_bounds (mo i) 5 (by decide) (by decide)
    dsimp only
    split <;> omega)
  have HFA := Lib.hid hfa
  have HFB0 := Lib.hid hfb
  clear hBq hfa hfb
  go_wp2_with (fail)
  go_loopg [10, 11, 46] len1 (fun gg s10 s11 s46 wr => ∃ (k : Nat) (Aa : Option Addr) (ca : Nat) (Ab : Option Addr) (cb : Nat), k ≤ len1 ∧ len1 - k ≤ gg ∧ s10 = .slice Aa k ca ∧ s11 = .slice Ab k cb ∧ s46 = .int .i64 k ∧ Hid (LoneL wa.heap.size wa wr F g ⟨0, 0, L⟩) ∧ Hid (Row wr 3 1 icell (.slice Aa k ca) (upto fa k)) ∧ Hid (Row wr 3 1 icell (.slice Ab k cb) (upto fb k)) ∧ Hid (∀ q, (Value.slice Aa k ca).ownBlock = some q → Bq ≤ q) ∧ Hid (∀ q, (Value.slice Ab k cb).ownBlock = some q → Bq ≤ q) ∧ Hid (∀ q, (Value.slice Aa k ca).ownBlock = some q → (Value.slice Ab k cb).ownBlock ≠ some q) ∧ Hid (Below Bq wc wr))
  case atStart => exact ⟨0, none, 0, none, 0, Nat.zero_le _, by omega, rfl, rfl, rfl, HL2, Lib.hid (Row.nil_ ..), Lib.hid (Row.nil_ ..), Lib.hid (by simp [Value.ownBlock]), Lib.hid (by simp [Value.ownBlock]), Lib.hid (by simp [Value.ownBlock]), Lib.hid (Below.refl _ _)⟩
  case round =>
    obtain ⟨k, Aa, ca, Ab, cb, hk, hg, rfl, rfl, rfl, HLr, HRa, HRb, HFa, HFb, HABq, HBr⟩ := hrel
    by_cases hlt : k < len1
    · obtain ⟨ad, hA, hcell⟩ := ((HM.out.below HBa.out).below HLr.out.back).2 (by omega)
      obtain rfl := hA
      have c0 := hcell k hlt 0 _ rfl
      clear hcell
      simp only [adr, Nat.add_zero, Nat.mul_one] at c0
      have g2 : (k : Int) < (len1 : Int) := by omega
      have g3 : (0 : Int) ≤ (k : Int) := by omega
      have hw2 : IntKind.i64.wrap ((n : Int) + 2) = (n : Int) + 2 := by rw [IntKind.wrap_i64]; omega
      go_wp2_with (fail)
      refine (among_calls (mt k) ((n : Int) + 2) _ (by omega)).mono ?_
      rintro e w7 ⟨rfl, hw7⟩
      obtain rfl := hw7.symm
      clear hw7
      have hm := amg_bounds (mt k) ((n : Int) + 2) (by omega) (by omega)
      have hfa : amg (mt k) ((n : Int) + 2) = fa k := by rw [HFA.out]
      rw [hfa] at hm ⊢
      clear hfa c0
      go_wp2_with (at_builtin; refine Row.append_list (by rfl) (.tmp 56) (.tmp 58) 22 3 (.int .i64 0) 1 8 rfl Try.underlying22 info_int rfl (by decide) (by decide) (.slice Aa k ca) (upto fa k) [fa k] rfl ⟨wr.heap.size, 0, none⟩ 1 1 rfl (HRa.out.alloc _) rfl (fun _ => rfl) (news_lit icell wr 3 (fa k) #[.int .i64 (fa k)] rfl) one_int (by rw [upto_length]; omega) ?_)
      intro v6 w6 hR hG hO
      rw [← upto_succ] at hR
      obtain ⟨Aa6, ca6, rfl⟩ := hR.shape_n (n := k + 1) (upto_length _ _)
      have HK6 := Lib.hid (show Kept wr w6 (fun q => Bq ≤ q) from ((Kept.refl wr _).alloc _).grown hG (fun q hq => .inl (HFa.out q hq)))
      have HRa6 := Lib.hid hR
      have HFa6 := Lib.hid (show ∀ q, (Value.slice Aa6 (k + 1) ca6).ownBlock = some q → Bq ≤ q from fun q e => by
        rcases hO with h | h
        · exact HFa.out q (h ▸ e)
        · rw [h] at e
          injection e with e
          have := HBr.out.size
          have := HBq.out
          try simp at e
          omega)
      have HRb6 := Lib.hid ((HRb.out.alloc _).grown hG (fun q e h => HABq.out q h.symm e))
      have HAB6 := Lib.hid (show ∀ q, (Value.slice Aa6 (k + 1) ca6).ownBlock = some q → (Value.slice Ab k cb).ownBlock ≠ some q from fun q e h => by
        rcases hO with h2 | h2
        · exact HABq.out q (h2 ▸ e) h
        · rw [h2] at e
          injection e with e
          have := HRb.out.lt h
          try simp at e
          omega)
      have HL6 := Lib.hid (HLr.out.kept HK6.out (fun q hf hS => by have := HFl.out q hf; omega) (fun q hS => by have := HBw.out; omega))
      have HB6 := Lib.hid (HBr.out.trans (HK6.out.below (by have h1 := HBr.out.size; have h2 := HBq.out; omega) (fun q hq hS => by omega)))
      clear hR hG hO
      by_cases hk1 : k < len2
      · obtain ⟨ad, hA, hcell⟩ := ((HO.out.below HBa.out).below HL6.out.back).2 (by omega)
        obtain rfl := hA
        have c0 := hcell k hk1 0 _ rfl
        clear hcell
        simp only [adr, Nat.add_zero, Nat.mul_one] at c0
        have g4 : (k : Int) < (len2 : Int) := by omega
        have HK1 := Lib.hid hk1
        clear hk1
        go_wp2_with (fail)
        refine (among_calls (mo k) 5 _ (by decide)).mono ?_
        rintro e w7 ⟨rfl, hw7⟩
        obtain rfl := hw7.symm
        clear hw7
        have hm5 := amg_bounds (mo k) 5 (by decide) (by decide)
        have hwm : IntKind.i64.wrap (fa k + amg (mo k) 5) = fa k + amg (mo k) 5 := by rw [IntKind.wrap_i64]; omega
        have HFB := Lib.hid (show fa k + amg (mo k) 5 = fb k by rw [HFB0.out]; dsimp only; rw [if_pos HK1.out])
        go_wp2_with (at_builtin; refine Row.append_list (by rfl) (.tmp 71) (.tmp 73) 22 3 (.int .i64 0) 1 8 rfl Try.underlying22 info_int rfl (by decide) (by decide) (.slice Ab k cb) (upto fb k) [fa k + amg (mo k) 5] rfl ⟨w6.heap.size, 0, none⟩ 1 1 rfl (HRb6.out.alloc _) rfl (fun _ => rfl) (news_lit icell w6 3 (fa k + amg (mo k) 5) #[.int .i64 (fa k + amg (mo k) 5)] rfl) one_int (by rw [upto_length]; omega) ?_)
        intro v7 w7 hR hG hO

        rw [HFB.out, ← upto_succ] at hR
        obtain ⟨Ab7, cb7, rfl⟩ := hR.shape_n (n := k + 1) (upto_length _ _)
        have HK7 := Lib.hid (show Kept w6 w7 (fun q => Bq ≤ q) from ((Kept.refl w6 _).alloc _).grown hG (fun q hq => .inl (HFb.out q hq)))
        have HRb7 := Lib.hid hR
        have HFb7 := Lib.hid (show ∀ q, (Value.slice Ab7 (k + 1) cb7).ownBlock = some q → Bq ≤ q from fun q e => by
          rcases hO with h | h
          · exact HFb.out q (h ▸ e)
          · rw [h] at e
            injection e with e
            have := HB6.out.size
            have := HBq.out
            try simp at e
            omega)
        have HRa7 := Lib.hid ((HRa6.out.alloc _).grown hG (fun q e h => HAB6.out q e h.symm))
        have HAB7 := Lib.hid (show ∀ q, (Value.slice Aa6 (k + 1) ca6).ownBlock = some q → (Value.slice Ab7 (k + 1) cb7).ownBlock ≠ some q from fun q e h => by
          rcases hO with h2 | h2
          · exact HAB6.out q e (h2 ▸ h)
          · rw [h2] at h
            injection h with h
            have := HRa6.out.lt e
            try simp at h
            omega)
        have HL7 := Lib.hid (HL6.out.kept HK7.out (fun q hf hS => by have := HFl.out q hf; omega) (fun q hS => by have := HBw.out; omega))
        have HB7 := Lib.hid (HB6.out.trans (HK7.out.below (by have h1 := HB6.out.size; have h2 := HBq.out; omega) (fun q hq hS => by omega)))
        clear hR hG hO
        go_wp2
        go_roundg (len1 - (k + 1))
        case measure => omega
        case rel => exact ⟨k + 1, Aa6, ca6, Ab7, cb7, by omega, Nat.le_refl _, rfl, rfl, by go_num, HL7, HRa7, HRb7, HFa6, HFb7, HAB7, HB7⟩
      · have g4 : ¬ (k : Int) < (len2 : Int) := by omega
        have HK1 := Lib.hid hk1
        clear hk1
        have HFB := Lib.hid (show fa k = fb k by rw [HFB0.out]; have := HK1.out; dsimp only; rw [if_neg (by omega)]; omega)
        go_wp2_with (at_builtin; refine Row.append_list (by rfl) (.tmp 71) (.tmp 73) 22 3 (.int .i64 0) 1 8 rfl Try.underlying22 info_int rfl (by decide) (by decide) (.slice Ab k cb) (upto fb k) [fa k] rfl ⟨w6.heap.size, 0, none⟩ 1 1 rfl (HRb6.out.alloc _) rfl (fun _ => rfl) (news_lit icell w6 3 (fa k) #[.int .i64 (fa k)] rfl) one_int (by rw [upto_length]; omega) ?_)
        intro v7 w7 hR hG hO

        rw [HFB.out, ← upto_succ] at hR
        obtain ⟨Ab7, cb7, rfl⟩ := hR.shape_n (n := k + 1) (upto_length _ _)
        have HK7 := Lib.hid (show Kept w6 w7 (fun q => Bq ≤ q) from ((Kept.refl w6 _).alloc _).grown hG (fun q hq => .inl (HFb.out q hq)))
        have HRb7 := Lib.hid hR
        have HFb7 := Lib.hid (show ∀ q, (Value.slice Ab7 (k + 1) cb7).ownBlock = some q → Bq ≤ q from fun q e => by
          rcases hO with h | h
          · exact HFb.out q (h ▸ e)
          · rw [h] at e
            injection e with e
            have := HB6.out.size
            have := HBq.out
            try simp at e
            omega)
        have HRa7 := Lib.hid ((HRa6.out.alloc _).grown hG (fun q e h => HAB6.out q e h.symm))
        have HAB7 := Lib.hid (show ∀ q, (Value.slice Aa6 (k + 1) ca6).ownBlock = some q → (Value.slice Ab7 (k + 1) cb7).ownBlock ≠ some q from fun q e h => by
          rcases hO with h2 | h2
          · exact HAB6.out q e (h2 ▸ h)
          · rw [h2] at h
            injection h with h
            have := HRa6.out.lt e
            try simp at h
            omega)
        have HL7 := Lib.hid (HL6.out.kept HK7.out (fun q hf hS => by have := HFl.out q hf; omega) (fun q hS => by have := HBw.out; omega))
        have HB7 := Lib.hid (HB6.out.trans (HK7.out.below (by have h1 := HB6.out.size; have h2 := HBq.out; omega) (fun q hq hS => by omega)))
        clear hR hG hO
        go_wp2
        go_roundg (len1 - (k + 1))
        case measure => omega
        case rel => exact ⟨k + 1, Aa6, ca6, Ab7, cb7, by omega, Nat.le_refl _, rfl, rfl, by go_num, HL7, HRa7, HRb7, HFa6, HFb7, HAB7, HB7⟩
    · obtain rfl : k = len1 := by omega
      have g2 : ¬ (k : Int) < (k : Int) := by omega
      have HBq2 := Lib.hid (show Below wc.heap.size wc wr by have := HBr.out; rwa [← HBq.out] at this)
      clear hlt
      obtain ⟨wq, hwq⟩ : ∃ wq, wq = wr := ⟨_, rfl⟩
      subst wr
      obtain ⟨n1, hn1⟩ := agreed_some ⟨0, 0, L⟩ (upto fa k) tn 0 (by rw [upto_length]; exact hk0) (Int.le_refl 0)
      have hA1 := log_agreed F g ⟨0, 0, L⟩ (.slice Aa k ca) (upto fa k) tn 0 wq HLr.out.log (Int.le_refl 0) (by show (0 : Int) + L.length ≤ _; rw [HLEN.out]; omega) (Seg.of_row HRa.out) (by rw [upto_length]; omega)
      rw [hn1] at hA1
      have HN1 := Lib.hid hn1
      have hn10 : 0 ≤ n1 := (agreedN_bounds HN1.out (by rw [HLEN.out]; omega)).1
      clear hn1
      go_wp2_with (fail)
      refine hA1.mono ?_
      rintro e wr ⟨rfl, hbr⟩
      have HL5 := Lib.hid (HLr.out.below hbr)
      have HRa5 := Lib.hid (HRa.out.kept (Kept.of_below hbr fun _ => False) (fun _ _ h => h))
      have HRb5 := Lib.hid (HRb.out.kept (Kept.of_below hbr fun _ => False) (fun _ _ h => h))
      have HB5 := Lib.hid (below_next HBq2.out hbr)
      clear hA1 hbr HLr HRa HRb
      obtain ⟨m1, hm1⟩ := agreed_some ⟨0, 0, L⟩ (upto fb k) tn n1 (by rw [upto_length]; exact hk0) hn10
      have hA2 := log_agreed F g ⟨0, 0, L⟩ (.slice Ab k cb) (upto fb k) tn n1 wr HL5.out.log (Int.le_refl 0) (by show (0 : Int) + L.length ≤ _; rw [HLEN.out]; omega) (Seg.of_row HRb5.out) (by rw [upto_length]; omega)
      rw [hm1] at hA2
      have hlaw := agreed_law L (by rw [HLEN.out]; omega) fa fb k hk0 HAB.out tn n1 m1 HN1.out hm1
      rw [HLEN.out] at hlaw
      obtain ⟨l1, l2, l3, l4, l5⟩ := hlaw
      have q2 : decide (m1 < n1) = false := decide_eq_false (by omega)
      have q3 : decide ((n : Int) < m1) = false := decide_eq_false (by omega)
      clear hm1
      go_wp2_with (fail)
      refine hA2.mono ?_
      rintro e ws ⟨rfl, hbs⟩
      have HL6 := Lib.hid (HL5.out.below hbs)
      have HRa6 := Lib.hid (HRa5.out.kept (Kept.of_below hbs fun _ => False) (fun _ _ h => h))
      have HRb6 := Lib.hid (HRb5.out.kept (Kept.of_below hbs fun _ => False) (fun _ _ h => h))
      have HB6 := Lib.hid (below_next HB5.out hbs)
      have HXS := Lib.hid (show ∀ x ∈ [XS.mk n1 Aa ca (upto fa k), XS.mk m1 Ab cb (upto fb k)], x.zs.length = k ∧ Row ws 3 1 icell (.slice x.A k x.c) x.zs ∧ (x.n ≠ 0 → k < 2 * atLeast x.n x.zs ∧ (LogS.mk 0 0 L).termAt x.n = (tn, 0)) from fun x hx => by
        simp only [List.mem_cons, List.not_mem_nil, or_false] at hx
        rcases hx with rfl | rfl
        · exact ⟨upto_length _ _, HRa6.out, l4⟩
        · exact ⟨upto_length _ _, HRb6.out, l5⟩)
      obtain ⟨xs, hxs⟩ : ∃ xs, xs = [XS.mk n1 Aa ca (upto fa k), XS.mk m1 Ab cb (upto fb k)] := ⟨_, rfl⟩
      have hxl : xs.length = 2 := by rw [hxs]; rfl
      have HRX := Lib.hid (show Row (ws.alloc (.cells #[.int .i64 n1, .slice Aa k ca, .int .i64 m1, .slice Ab k cb] 32)) 32 2 XS.cells (.slice (some ⟨ws.heap.size, 0, none⟩) 2 2) xs from Row.lit_ XS.cells ws _ 2 xs _ 2 hxl (by rw [hxs]; simp [XS.cells, upto_length]) (fun _ => rfl) (by decide))
      rw [← hxs] at HXS
      have HXL := Lib.hid hxl
      have HWa := Lib.hid (show Below ws.heap.size ws (ws.alloc (.cells #[.int .i64 n1, .slice Aa k ca, .int .i64 m1, .slice Ab k cb] 32)) from (Below.refl _ _).alloc (Nat.le_refl _) _)
      clear hA2 hbs HL5 HRa5 HRb5 l4 l5 hxs hxl HRa6 HRb6
      go_wp2_with (fail)
      go_loopg [115] 2 (fun gg s115 wr => ∃ (i : Nat), i ≤ 2 ∧ 2 - i ≤ gg ∧ s115 = .int .i64 i ∧ Hid (Below ws.heap.size ws wr) ∧ Hid (Row wr 32 2 XS.cells (.slice (some ⟨ws.heap.size, 0, none⟩) 2 2) xs))
      case atStart => exact ⟨0, Nat.zero_le _, by omega, rfl, HWa, HRX⟩
      case round =>
        obtain ⟨i, hi, hgi, rfl, HBz, HRz⟩ := hrel
        by_cases hi2 : i < 2
        · have hil : i < xs.length := by rw [HXL.out]; exact hi2
          have x0 := HRz.out.cell (fun _ => rfl) i 0 hil (by omega)
          have x1 := HRz.out.cell (fun _ => rfl) i 1 hil (by omega)
          obtain ⟨e1, e2, e3⟩ := HXS.out xs[i] (List.getElem_mem hil)
          generalize xs[i] = x at x0 x1 e1 e2 e3
          obtain ⟨xn, xA, xc, xz⟩ := x
          dsimp only at e1 e2 e3
          simp only [XS.cells, List.getElem?_cons_zero, List.getElem?_cons_succ, Nat.add_zero, Nat.mul_one, e1] at x0 x1
          have E1 := Lib.hid e1
          have E2 := Lib.hid e2
          have E3 := Lib.hid e3
          have g4 : (i : Int) < 2 := by omega
          have g5 : (0 : Int) ≤ (i : Int) := by omega
          have hsw : ws.heap.size < wr.heap.size := World.block_lt_of_cell? _ _ x0
          clear e1 e2 e3
          by_cases hz : xn = 0
          · subst hz
            go_wp2
            go_roundg (2 - (i + 1))
            case measure => omega
            case rel => exact ⟨i + 1, by omega, Nat.le_refl _, by go_num, Lib.hid (HBz.out.alloc HBz.out.size _), Lib.hid (HRz.out.alloc _)⟩
          · have qz : (xn == 0) = false := by simpa using hz
            obtain ⟨hcount, hta⟩ := E3.out hz
            have HCT := Lib.hid hcount
            have HTA := Lib.hid hta
            clear hz hcount hta
            go_wp2_with (fail)
            clear x0 x1
            obtain ⟨wt, hwt⟩ : ∃ wt, wr.alloc (.cells #[.int .i64 xn, .slice xA k xc] 32) = wt := ⟨_, rfl⟩
            have HBt := Lib.hid (show Below ws.heap.size ws wt by rw [← hwt]; exact HBz.out.alloc HBz.out.size _)
            have HRt := Lib.hid (show Row wt 32 2 XS.cells (.slice (some ⟨ws.heap.size, 0, none⟩) 2 2) xs by rw [← hwt]; exact HRz.out.alloc _)
            have HZt := Lib.hid (show Blk wt wr.heap.size 32 #[.int .i64 xn, .slice xA k xc] by rw [← hwt]; exact Blk.new wr _ _)
            have HRxt := Lib.hid (E2.out.kept (Kept.of_below HBt.out fun _ => False) (fun _ _ h => h))
            have HLt := Lib.hid ((HL6.out.below HBt.out))
            rw [hwt]
            obtain ⟨zb, hzb⟩ : ∃ zb, wr.heap.size = zb := ⟨_, rfl⟩
            rw [hzb] at HZt ⊢
            clear hwt hzb
            go_loopg [20, 125] k (fun gg s20 s125 wr => ∃ (j : Nat), j ≤ k ∧ k - j ≤ gg ∧ s20 = .int .i64 (atLeast xn (xz.take j) : Nat) ∧ s125 = .int .i64 j ∧ Hid (Below wt.heap.size wt wr))
            case atStart => exact ⟨0, Nat.zero_le _, by omega, by simp [atLeast], rfl, Lib.hid (Below.refl _ _)⟩
            case round =>
              obtain ⟨j, hj, hgj, rfl, rfl, HBj⟩ := hrel
              have z0 := (HZt.out.kept (Kept.of_below HBj.out fun _ => False) (fun h => h)).cell 0
              have z1 := (HZt.out.kept (Kept.of_below HBj.out fun _ => False) (fun h => h)).cell 1
              have hzlt := (HZt.out.kept (Kept.of_below HBj.out fun _ => False) (fun h => h)).lt
              by_cases hjk : j < k
              · have hjl : j < xz.length := by rw [E1.out]; exact hjk
                have RX := HRxt.out.kept (S := fun _ => False) (Kept.of_below HBj.out _) (fun _ _ h => h)
                obtain ⟨b1, d1, hv1, hlt1, hcl1⟩ := RX.form (by omega)
                injection hv1 with hA1 hnn hc1
                clear hnn
                subst hA1 hc1
                have y0 := RX.cell (fun _ => rfl) j 0 hjl (by omega)
                have HCN := Lib.hid (show atLeast xn (xz.take (j + 1)) = atLeast xn (xz.take j) + if xn ≤ xz[j] then 1 else 0 by
                  rw [← List.take_append_getElem hjl]
                  unfold atLeast
                  rw [List.countP_append]
                  by_cases h : xn ≤ xz[j]
                  · simp [h]
                  · simp [h])
                have hcb : atLeast xn (xz.take j) ≤ 20 := by
                  have h1 : atLeast xn (xz.take j) ≤ (xz.take j).length := List.countP_le_length
                  rw [List.length_take] at h1
                  omega
                generalize xz[j] = y at y0 HCN
                generalize atLeast xn (xz.take j) = cj at *
                generalize hcj1 : atLeast xn (xz.take (j + 1)) = cj1 at HCN
                have HC1 := Lib.hid hcj1
                simp only [icell, List.getElem?_cons_zero, Nat.add_zero, Nat.mul_one] at y0
                have g6 : (j : Int) < (k : Int) := by omega
                have g7 : (0 : Int) ≤ (j : Int) := by omega
                have hwc : IntKind.i64.wrap ((cj : Int) + 1) = (cj : Int) + 1 := by rw [IntKind.wrap_i64]; omega
                clear RX hcj1
                by_cases hxy : xn ≤ y
                · have hc1 : cj1 = cj + 1 := by rw [HCN.out, if_pos hxy]
                  have HC2 := Lib.hid hc1
                  clear hc1
                  go_wp2
                  go_roundg (k - (j + 1))
                  case measure => omega
                  case rel => exact ⟨j + 1, by omega, Nat.le_refl _, by rw [HC1.out, HC2.out]; go_num, by go_num, HBj⟩
                · have hc1 : cj1 = cj := by rw [HCN.out, if_neg hxy]; rfl
                  have HC2 := Lib.hid hc1
                  have qxy : decide (xn ≤ y) = false := decide_eq_false hxy
                  clear hc1
                  go_wp2
                  go_roundg (k - (j + 1))
                  case measure => omega
                  case rel => exact ⟨j + 1, by omega, Nat.le_refl _, by rw [HC1.out, HC2.out], by go_num, HBj⟩
              · obtain rfl : j = k := by omega
                have g6 : ¬ (j : Int) < (j : Int) := by omega
                have htk : xz.take j = xz := List.take_of_length_le (by rw [E1.out]; exact Nat.le_refl _)
                rw [htk]
                have HC3 := HCT.out
                have hcb : atLeast xn xz ≤ 20 := by
                  have h1 : atLeast xn xz ≤ xz.length := List.countP_le_length
                  rw [E1.out] at h1
                  omega
                generalize atLeast xn xz = cj at *
                have ht := log_term F g ⟨0, 0, L⟩ xn wr (HLt.out.below HBj.out).log (Int.le_refl 0) (by show (0 : Int) ≤ _; decide) (by show L.length ≤ _; rw [HLEN.out]; omega)
                rw [HTA.out] at ht
                have hwc : IntKind.i64.wrap ((cj : Int) * 2) = (cj : Int) * 2 := by rw [IntKind.wrap_i64]; omega
                have qc : decide ((cj : Int) * 2 ≤ (j : Int)) = false := decide_eq_false (by omega)
                obtain ⟨wy, hwy⟩ : ∃ wy, wy = wr := ⟨_, rfl⟩
                subst wr
                clear htk hjk
                go_wp2_with (fail)
                refine ht.mono ?_
                rintro e wr ⟨rfl, hbu⟩
                have HBu := Lib.hid (below_next HBj.out hbu)
                have z2 := (HZt.out.kept (Kept.of_below HBu.out fun _ => False) (fun h => h)).cell 1
                clear ht hbu
                go_wp2
                go_roundg (2 - (i + 1))
                case measure => omega
                case rel => exact ⟨i + 1, by omega, Nat.le_refl _, by go_num, Lib.hid (below_next HBt.out HBu.out), Lib.hid (HRt.out.kept (Kept.of_below HBu.out fun _ => False) (fun _ _ h => h))⟩
        · obtain rfl : i = 2 := by omega
          go_wp2
          go_ret
          exact ⟨rfl, HBd.out.trans ((below_next HB6.out HBz.out).mono HBd.out.size)⟩
end Go.Proofs.Ytpimpdgibcjbeaa
