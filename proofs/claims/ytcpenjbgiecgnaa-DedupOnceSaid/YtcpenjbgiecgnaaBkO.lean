import Derived.Test.YtcpenjbgiecgnaaBkN
namespace Go.Proofs.Ytcpenjbgiecgnaa
open Go Go.RowKit
open Go.Proofs.YtcpenjbgiecgnaaW.PrintWords Go.Proofs.YtcpenjbgiecgnaaW.PrintLast Go.Proofs.YtcpenjbgiecgnaaW.PrintMore
open Go.Proofs.Ytcpenjbgiecgnaa.PAll (S62 fN fT)
open Go.Proofs.Ytcpenjbgiecgnaa.Bytes (I)
set_option linter.unusedVariables false
set_option linter.unusedSimpArgs false
set_option maxRecDepth 100000

/-! Save: the walk. -/
theorem flatT_len {S : Int → List Int} (h : Small S) : ∀ l : List Int, (l.flatMap (cliT S)).length ≤ 64 * l.length
  | [] => by simp
  | c :: l => by
    have h1 := h.len c
    have h2 := flatT_len h l
    rw [List.flatMap_cons, List.length_append, List.length_cons]
    unfold cliT
    rw [List.length_map]
    unfold cliT at h2
    omega
def outF (d : Nat) (S : Int → List Int) (cs : List Int) (k : Nat) : List S62 := fN (d : Int) :: (cs.take k).flatMap (cliA S)
def outN (S : Int → List Int) (cs : List Int) (k : Nat) : Nat := ((cs.take k).flatMap (cliT S)).length
theorem outF_step {d : Nat} {S : Int → List Int} {cs : List Int} {k : Nat} (hk : k < cs.length) : outF d S cs (k + 1) = outF d S cs k ++ cliF S cs[k] ++ cliT S cs[k] := by
  unfold outF
  rw [List.take_succ_eq_append_getElem hk, List.flatMap_append, List.flatMap_cons, List.flatMap_nil, List.append_nil]
  show _ :: (_ ++ (_ ++ _)) = _
  simp
theorem outN_step {S : Int → List Int} {cs : List Int} {k : Nat} (hk : k < cs.length) : outN S cs (k + 1) = outN S cs k + (S cs[k]).length := by
  unfold outN
  rw [List.take_succ_eq_append_getElem hk, List.flatMap_append, List.flatMap_cons, List.flatMap_nil, List.append_nil, List.length_append]
  unfold cliT
  rw [List.length_map]
theorem outF_len {d : Nat} {S : Int → List Int} {cs : List Int} (h : Small S) (k : Nat) (hk : k ≤ 4) : (outF d S cs k).length ≤ 269 := by
  have := flat_len h (cs.take k)
  unfold outF
  rw [List.length_cons]
  have : (cs.take k).length ≤ k := by rw [List.length_take]; omega
  omega
theorem outN_len {S : Int → List Int} {cs : List Int} (h : Small S) (k : Nat) (hk : k ≤ 4) : outN S cs k ≤ 256 := by
  have := flatT_len h (cs.take k)
  have : (cs.take k).length ≤ k := by rw [List.length_take]; omega
  unfold outN
  omega
theorem cliT_take {S : Int → List Int} {c : Int} {j : Nat} (hj : j < (S c).length) : (cliT S c).take (j + 1) = (cliT S c).take j ++ [fT (repT c (S c)[j])] := by
  unfold cliT
  rw [← List.map_take, ← List.map_take, List.take_succ_eq_append_getElem hj, List.map_append]
  rfl
set_option maxHeartbeats 16000000 in
theorem bk_save (F : Nat → Prop) (g d nb : Nat) (S : Int → List Int) (w : World) (h : BkAt w F g d nb S) (hnb : nb ≤ 1000000) (hd : d ≤ 64) (hS : Small S) :
    Calls Try.prog 14 #[.pointer (some ⟨g, 0, none⟩)] w fun e w' => ∃ cs, e = .returned (.tuple #[.string (saveT d S cs), .int .i64 0]) ∧ IsCl S cs ∧ Below w.heap.size w w' := by
  obtain ⟨mb, m, L, h, hl⟩ := h
  have hlt := h.blk.lt
  have b0 := h.blk.cell 0
  have HH := Lib.hid h
  have HL := Lib.hid hl
  have HSM := Lib.hid hS
  have hA0 : BkAt (w.alloc (.cells #[.bool false, .int .i64 d, .string ⟨#[]⟩] 62)) F g d nb S := ⟨mb, m, L, h.below ((Below.refl _ _).alloc (Nat.le_refl _) _), hl⟩
  have hc := bk_clients F g d nb S _ hA0 hnb
  clear h hl hS hA0
  go_enter Try.func14, Try.ntmps14
  go_wp2_with (fail)
  refine hc.mono ?_
  rintro e w2 ⟨vc, cs, rfl, hrow, hp, hmem, hb2, hf2⟩
  have V0 := Lib.hid (show SV w w2 F g d nb mb m L (.slice (some ⟨w.heap.size, 0, none⟩) 1 1) (outF d S cs 0) vc cs from
    ⟨(HH.out.below ((Below.refl _ _).alloc (Nat.le_refl _) _)).below hb2, (Row.lit1 FC w 62 3 (fN (d : Int)) #[.bool false, .int .i64 d, .string ⟨#[]⟩] rfl rfl).kept (Kept.of_below hb2 fun _ => False) (fun _ _ h => h),
      fun k e => by simp [Value.ownBlock] at e; omega, hrow, ((Below.refl w.heap.size w).alloc (Nat.le_refl _) _).trans (hb2.mono (by simp)), HH.out.lt⟩)
  have HCL := Lib.hid (show IsCl S cs from ⟨hp, hmem⟩)
  obtain ⟨Av, cv, hvc⟩ := hrow.shape
  subst hvc
  obtain ⟨M, HM⟩ : ∃ M, Hid (cs.length = M) := ⟨_, Lib.hid rfl⟩
  rw [HM.out] at V0 ⊢
  have hM4 : M ≤ 4 := by rw [← HM.out]; exact (HSM.out.keys HCL.out).1
  clear hc hrow hp hmem hb2 hf2 b0
  go_wp2_with (fail)
  go_loopg [4, 5, 21] M (fun gg s4 s5 s21 wr => ∃ (k n c : Nat) (A : Option Addr), k ≤ M ∧ M - k ≤ gg ∧ s21 = .int .i64 k ∧ s4 = .slice A n c ∧ s5 = .int .i64 (outN S cs k : Nat) ∧ Hid (SV w wr F g d nb mb m L (.slice A n c) (outF d S cs k) (.slice Av M cv) cs))
  case atStart => exact ⟨0, 1, 1, _, Nat.zero_le _, by omega, rfl, rfl, rfl, V0⟩
  case round =>
    obtain ⟨k, n, c4, A, hk, hgg, rfl, rfl, rfl, HV⟩ := hrel
    by_cases hkM : k < M
    · have hkz : (k : Int) < (M : Int) := by omega
      have hk0 : (0 : Int) ≤ (k : Int) := by omega
      have hkc : k < cs.length := by rw [HM.out]; exact hkM
      obtain ⟨gv, cv', hv', hgv, hlv⟩ := HV.out.cl.form (by omega)
      injection hv' with hA' hqq hcc
      subst hA' hcc
      have hrr := HV.out.cl
      have q0 := hrr.cell (fun _ => rfl) k 0 hkc (by omega)
      have HF1 := Lib.hid (outF_step (d := d) (S := S) hkc)
      have HN1 := Lib.hid (outN_step (S := S) hkc)
      have hcb := (HSM.out.keys HCL.out).2 _ (List.getElem_mem hkc)
      generalize cs[k] = c at q0 HF1 HN1 hcb
      simp only [icl, List.getElem?_cons_zero, Nat.add_zero, Nat.mul_one] at q0
      have HFL := Lib.hid (outF_len (d := d) (cs := cs) HSM.out k (by omega))
      have HNL := Lib.hid (outN_len (cs := cs) HSM.out (k + 1) (by omega))
      generalize outF d S cs k = fl at HV HF1 HFL
      obtain ⟨N0, hN0⟩ : ∃ N0, outN S cs k = N0 := ⟨_, rfl⟩
      rw [hN0] at HN1 ⊢
      have HK := Lib.hid (keyI (n := c) ⟨hcb.1, by omega⟩)
      have hc0 := hcb.1
      have hc1 : c ≤ 1000 := by omega
      obtain ⟨Al, cl, hvl, hle, hmx⟩ := (HV.out.bk.row c).shape
      have HQ := Lib.hid hvl
      have HSL := Lib.hid (show (L c).length = (S c).length by rw [← HL.out c, List.length_map])
      obtain ⟨Nc, HNc⟩ : ∃ Nc, Hid ((L c).length = Nc) := ⟨_, Lib.hid rfl⟩
      rw [HNc.out] at HQ HSL
      have hN64 : Nc ≤ 64 := by rw [HSL.out]; exact HSM.out.len c
      have hlast := last_small HSM.out c
      obtain ⟨z, HZ⟩ : ∃ z, Hid (lastN (S c) = z) := ⟨_, Lib.hid rfl⟩
      have HLC := Lib.hid (fun (W : World) (hW : BkI W F g d nb mb m L) => HZ.out ▸ bk_last F g d nb S c W ⟨mb, m, L, hW, HL.out⟩ hc0 (by omega))
      have hbd := Lib.hid (show (fl.length + 3) * 32 ≤ 140737488355328 by have := HFL.out; omega)
      have HGL := Lib.hid hlt
      clear hkc hqq hlv hrr hcb hvl hle hmx hlast
      go_wp2_with (fail)
      refine start_ (n := 18) (S := fun w' => w'.cell? ⟨g, 1, none⟩ = some (.map (some mb)) ∧ (Instr.lookup 51 (.map (some mb)) (.int .i64 c) false).run Try.prog w' = .ok (.slice Al Nc cl) w') (ds := [16]) #[false, false, false, false, false, false, false, false, false, false, false, false, false, false, false, false, false, false] (by kernel_rfl) rfl rfl ⟨HV.out.drew.bk.blk.cell 1, HV.out.drew.look HQ.out HK.out⟩ (fun hHeld => ?_)
      refine pure_ (i := 0) (N := some 25) (v := ?_) (a' := ?_) #[true, false, false, false, false, false, false, false, false, false, false, false, false, false, false, false, false, false] rfl rfl (by kernel_rfl) (fun _ _ _ h => h) (Or.inl ⟨by rfl, ?_⟩) ?_ ?_
      rotate_left
      · intro w'
        go_simp
        with_reducible rfl
      rotate_left
      · simp only [Act.put, List.setIfInBounds_toArray, List.set_cons_zero, List.set_cons_succ, i64_w, i32_w]
        rfl
      refine pure_ (i := 1) (N := some 26) (v := ?_) (a' := ?_) #[true, true, false, false, false, false, false, false, false, false, false, false, false, false, false, false, false, false] rfl rfl (by kernel_rfl) (fun _ _ _ h => h) (Or.inl ⟨by rfl, ?_⟩) ?_ ?_
      rotate_left
      · intro w'
        go_simp
        with_reducible rfl
      rotate_left
      · simp only [Act.put, List.setIfInBounds_toArray, List.set_cons_zero, List.set_cons_succ, i64_w, i32_w]
        rfl
      refine pure_ (i := 2) (N := some 27) (v := ?_) (a' := ?_) #[true, true, true, false, false, false, false, false, false, false, false, false, false, false, false, false, false, false] rfl rfl (by kernel_rfl) (fun _ _ _ h => h) (Or.inl ⟨by rfl, ?_⟩) ?_ ?_
      rotate_left
      · intro w'
        go_simp
        with_reducible rfl
      rotate_left
      · simp only [Act.put, List.setIfInBounds_toArray, List.set_cons_zero, List.set_cons_succ, i64_w, i32_w]
        rfl
      refine pure_ (i := 3) (N := some 28) (v := ?_) (a' := ?_) #[true, true, true, true, false, false, false, false, false, false, false, false, false, false, false, false, false, false] rfl rfl (by kernel_rfl) (fun _ _ _ h => h) (Or.inl ⟨by rfl, ?_⟩) ?_ ?_
      rotate_left
      · intro w'
        go_simp
        with_reducible rfl
      rotate_left
      · simp only [Act.put, List.setIfInBounds_toArray, List.set_cons_zero, List.set_cons_succ, i64_w, i32_w]
        rfl
      refine pure_ (i := 4) (N := some 29) (v := ?_) (a' := ?_) #[true, true, true, true, true, false, false, false, false, false, false, false, false, false, false, false, false, false] rfl rfl (by kernel_rfl) (fun _ _ _ h => h) (Or.inl ⟨by rfl, ?_⟩) ?_ ?_
      rotate_left
      · intro w'
        go_simp
        with_reducible rfl
      rotate_left
      · simp only [Act.put, List.setIfInBounds_toArray, List.set_cons_zero, List.set_cons_succ, i64_w, i32_w]
        rfl
      refine pure_ (i := 7) (N := some 32) (v := ?_) (a' := ?_) #[true, true, true, true, true, false, false, true, false, false, false, false, false, false, false, false, false, false] rfl rfl (by kernel_rfl) (fun _ _ _ h => h) (Or.inl ⟨by rfl, ?_⟩) ?_ ?_
      rotate_left
      · intro w'
        go_simp
        with_reducible rfl
      rotate_left
      · simp only [Act.put, List.setIfInBounds_toArray, List.set_cons_zero, List.set_cons_succ, i64_w, i32_w]
        rfl
      refine pure_ (i := 8) (N := some 33) (v := ?_) (a' := ?_) #[true, true, true, true, true, false, false, true, true, false, false, false, false, false, false, false, false, false] rfl rfl (by kernel_rfl) (fun _ _ _ h => h) (Or.inl ⟨by rfl, ?_⟩) ?_ ?_
      rotate_left
      · intro w'
        go_simp
        with_reducible rfl
      rotate_left
      · simp only [Act.put, List.setIfInBounds_toArray, List.set_cons_zero, List.set_cons_succ, i64_w, i32_w]
        rfl
      refine pure_ (i := 9) (N := some 34) (v := ?_) (a' := ?_) #[true, true, true, true, true, false, false, true, true, true, false, false, false, false, false, false, false, false] rfl rfl (by kernel_rfl) (fun _ _ _ h => h) (Or.inl ⟨by rfl, ?_⟩) ?_ ?_
      rotate_left
      · intro w'
        go_simp
        with_reducible rfl
      rotate_left
      · simp only [Act.put, List.setIfInBounds_toArray, List.set_cons_zero, List.set_cons_succ, i64_w, i32_w]
        rfl
      refine pure_ (i := 11) (N := some 36) (v := ?_) (a' := ?_) #[true, true, true, true, true, false, false, true, true, true, false, true, false, false, false, false, false, false] rfl rfl (by kernel_rfl) (fun _ _ _ h => h) (Or.inl ⟨by rfl, ?_⟩) ?_ ?_
      rotate_left
      · intro w'
        go_simp
        with_reducible rfl
      rotate_left
      · simp only [Act.put, List.setIfInBounds_toArray, List.set_cons_zero, List.set_cons_succ, i64_w, i32_w]
        rfl
      refine take_ (i := 10) (N := some 35) (v := ?_) (a' := ?_) #[true, true, true, true, true, false, false, true, true, true, true, true, false, false, false, false, false, false] rfl rfl (by kernel_rfl) (fun _ _ _ h => h) (Or.inl ⟨by rfl, ?_⟩) hHeld ?_ ?_
      rotate_left
      · rintro w' ⟨s0, s1⟩
        go_simp
        with_reducible rfl
      rotate_left
      · simp only [Act.put, List.setIfInBounds_toArray, List.set_cons_zero, List.set_cons_succ, i64_w, i32_w]
        rfl
      refine take_ (i := 12) (N := some 37) (v := ?_) (a' := ?_) #[true, true, true, true, true, false, false, true, true, true, true, true, true, false, false, false, false, false] rfl rfl (by kernel_rfl) (fun _ _ _ h => h) (Or.inl ⟨by rfl, ?_⟩) hHeld ?_ ?_
      rotate_left
      · rintro w' ⟨s0, s1⟩
        go_simp
        with_reducible rfl
      rotate_left
      · simp only [Act.put, List.setIfInBounds_toArray, List.set_cons_zero, List.set_cons_succ, i64_w, i32_w]
        rfl
      refine pure_ (i := 13) (N := some 38) (v := ?_) (a' := ?_) #[true, true, true, true, true, false, false, true, true, true, true, true, true, true, false, false, false, false] rfl rfl (by kernel_rfl) (fun _ _ _ h => h) (Or.inl ⟨by rfl, ?_⟩) ?_ ?_
      rotate_left
      · intro w'
        go_simp
        with_reducible rfl
      rotate_left
      · simp only [Act.put, List.setIfInBounds_toArray, List.set_cons_zero, List.set_cons_succ, i64_w, i32_w]
        rfl
      refine pure_ (i := 14) (N := some 39) (v := ?_) (a' := ?_) #[true, true, true, true, true, false, false, true, true, true, true, true, true, true, true, false, false, false] rfl rfl (by kernel_rfl) (fun _ _ _ h => h) (Or.inl ⟨by rfl, ?_⟩) ?_ ?_
      rotate_left
      · intro w'
        go_simp
        with_reducible rfl
      rotate_left
      · simp only [Act.put, List.setIfInBounds_toArray, List.set_cons_zero, List.set_cons_succ, i64_w, i32_w]
        rfl
      refine one_ (i := 5) (N := some 30) #[true, true, true, true, true, true, false, true, true, true, true, true, true, true, true, false, false, false] rfl rfl (by kernel_rfl) (by decide) (fun K hK => ?_)
      refine goes_ Try.func9 (by kernel_rfl) rfl #[.pointer (some ⟨g, 0, none⟩), .int .i64 c] (by rfl) rfl rfl (by simp only [List.map_toArray, List.map_cons, List.map_nil]; rfl) ?_
      with_reducible refine (HLC.out _ HV.out.drew.bk).mono ?_
      rintro e w5 ⟨rfl, hw5⟩
      obtain rfl := hw5.symm
      clear hw5
      refine ⟨_, rfl, ?_⟩
      refine hK.out _ _ ⟨HV.out.drew.bk.blk.cell 1, HV.out.drew.look HQ.out HK.out⟩ (fun hHeld => ?_)
      clear hK K
      refine norm_ (a' := ?_) ?_ ?_
      rotate_left
      · show Act.put _ (some 30) _ = _
        simp only [Act.put, List.setIfInBounds_toArray, List.set_cons_zero, List.set_cons_succ, i64_w, i32_w]
        rfl
      refine pure_ (i := 6) (N := some 31) (v := ?_) (a' := ?_) #[true, true, true, true, true, true, true, true, true, true, true, true, true, true, true, false, false, false] rfl rfl (by kernel_rfl) (fun _ _ _ h => h) (Or.inl ⟨by rfl, ?_⟩) ?_ ?_
      rotate_left
      · intro w'
        go_simp
        with_reducible rfl
      rotate_left
      · simp only [Act.put, List.setIfInBounds_toArray, List.set_cons_zero, List.set_cons_succ, i64_w, i32_w]
        rfl
      refine one_ (i := 15) (N := some 40) #[true, true, true, true, true, true, true, true, true, true, true, true, true, true, true, true, false, false] rfl rfl (by kernel_rfl) (by decide) (fun K hK => ?_)
      refine value_ (w1 := ?_) (v := ?_) (by rfl) rfl ?_ ?_
      rotate_left 2
      · go_simp
        constructor
        · rfl
        · rfl
      have V6 := Lib.hid (HV.out.drew.alloc (.cells #[.bool false, .int .i64 c, .string ⟨#[]⟩, .bool false, .int .i64 z, .string ⟨#[]⟩, .bool false, .int .i64 Nc, .string ⟨#[]⟩] 62))
      refine hK.out _ _ ⟨V6.out.bk.blk.cell 1, V6.out.look HQ.out HK.out⟩ (fun hHeld => ?_)
      clear hK K
      refine norm_ (a' := ?_) ?_ ?_
      rotate_left
      · show Act.put _ (some 40) _ = _
        simp only [Act.put, List.setIfInBounds_toArray, List.set_cons_zero, List.set_cons_succ, i64_w, i32_w]
        rfl
      refine last_ (i := 16) (N := some 41) #[true, true, true, true, true, true, true, true, true, true, true, true, true, true, true, true, true, false] rfl rfl (by kernel_rfl) (by decide) (fun K hK => ?_)
      refine Row.append_step (enc := FC) (by rfl) (.tmp 25) (.tmp 40) 63 62 (.agg #[.bool false, .int .i64 0, .string ⟨#[]⟩]) 3 32 (by rfl) Try.underlying63 info_field rfl (by decide) (by decide) (.slice A n c4) fl [fN c, fN z, fN (Nc : Int)] (by rfl) ⟨wr.drew.heap.size, 0, none⟩ 3 3 (by rfl) V6.out.row rfl (fun _ => rfl) (news_F3 wr.drew c z (Nc : Int)) one_FC hbd.out ?_
      intro v7 w7 hR hG hO
      have V7 := Lib.hid (V6.out.app hR hG hO)
      clear hR hG hO
      refine hK.out _ _ ?_
      clear hK K
      refine norm_ (a' := ?_) ?_ ?_
      rotate_left
      · show Act.put _ (some 41) _ = _
        simp only [Act.put, List.setIfInBounds_toArray, List.set_cons_zero, List.set_cons_succ, i64_w, i32_w]
        rfl
      refine pure_ (i := 17) (N := some 4) (v := ?_) (a' := ?_) #[true, true, true, true, true, true, true, true, true, true, true, true, true, true, true, true, true, true] rfl rfl (by kernel_rfl) (fun _ _ _ h => h) (Or.inl ⟨by rfl, ?_⟩) ?_ ?_
      rotate_left
      · intro w'
        go_simp
        with_reducible rfl
      rotate_left
      · simp only [Act.put, List.setIfInBounds_toArray, List.set_cons_zero, List.set_cons_succ, i64_w, i32_w]
        rfl
      refine done_ (by kernel_rfl) ?_
      have HCF := Lib.hid (show cliF S c = [fN c, fN z, fN (Nc : Int)] by unfold cliF; rw [HZ.out, ← HSL.out])
      have V7 := Lib.hid (show SV w w7 F g d nb mb m L v7 (fl ++ cliF S c) (.slice (some ⟨gv, 0, none⟩) M cv) cs from HCF.out ▸ V7.out)
      obtain ⟨A7, c7, hv7⟩ := V7.out.row.shape
      subst hv7
      generalize (fl ++ cliF S c).length = n7 at V7 ⊢
      have c1 := V7.out.bk.blk.cell 1
      have HI := Lib.hid V7.out.bk.im
      clear V6 HV q0
      go_wp2_with (first
        | (refine IMap.look (by rfl) (.tmp 45) (.tmp 46) 51 54 (by rfl) (Go.Maps.int_keyed Try.underlying3) Try.underlying51 zero_reps (by rfl) HI.out c (by rfl) HK.out.1 HK.out.2 fun v hvv => ?_
           have hv2 : v = qv m c := by
             rw [hvv]; unfold qv; cases m c <;> rfl
           rw [HQ.out] at hv2
           clear hvv
           subst hv2)
        | fail)
      obtain ⟨f1, HF0⟩ : ∃ f1, Hid (fl ++ cliF S c = f1) := ⟨_, Lib.hid rfl⟩
      rw [HF0.out] at V7 HF1
      have HFL1 := Lib.hid (show f1.length ≤ 272 by rw [← HF0.out, List.length_append]; have := HFL.out; show _ + 3 ≤ _; omega)
      go_loopg [4, 5, 49] Nc (fun gg s4 s5 s49 wy => ∃ (j n c4 : Nat) (A : Option Addr), j ≤ Nc ∧ Nc - j ≤ gg ∧ s49 = .int .i64 j ∧ s4 = .slice A n c4 ∧ s5 = .int .i64 (N0 + j : Nat) ∧ Hid (SV w wy F g d nb mb m L (.slice A n c4) (f1 ++ (cliT S c).take j) (.slice (some ⟨gv, 0, none⟩) M cv) cs))
      case atStart => exact ⟨0, n7, c7, A7, Nat.zero_le _, by omega, rfl, rfl, rfl, Lib.hid (by rw [List.take_zero, List.append_nil]; exact V7.out)⟩
      case round =>
        obtain ⟨j, n8, c8, A8, hj, hgg2, rfl, rfl, rfl, HW⟩ := hrel
        by_cases hjN : j < Nc
        · have hjz : (j : Int) < (Nc : Int) := by omega
          have hj0 : (0 : Int) ≤ (j : Int) := by omega
          have hjl : j < (L c).length := by rw [HNc.out]; exact hjN
          obtain ⟨gq, o, c', hv', hgq, hle', hmx'⟩ := (HW.out.bk.row c).form (by omega)
          have hv2 := HQ.out
          rw [hv', HNc.out] at hv2
          injection hv2 with hA2 _ hcc2
          subst hA2 hcc2
          have hrr := HW.out.bk.row c
          rw [hv'] at hrr
          have d0 := hrr.cell (fun _ => rfl) (by omega) j 0 hjl (by omega)
          have d1 := hrr.cell (fun _ => rfl) (by omega) j 1 hjl (by omega)
          have d2 := hrr.cell (fun _ => rfl) (by omega) j 2 hjl (by omega)
          have d3 := hrr.cell (fun _ => rfl) (by omega) j 3 hjl (by omega)
          have d4 := hrr.cell (fun _ => rfl) (by omega) j 4 hjl (by omega)
          rw [Nat.add_zero] at d0
          rw [← Nat.add_assoc] at d1 d2 d3 d4
          have HO := Lib.hid (HW.out.bk.one c _ (List.getElem_mem hjl))
          have hsj : j < (S c).length := by rw [← HSL.out]; exact hjN
          have HS9 := Lib.hid (show ((L c)[j]).2 = (S c)[j] by
            have h1 : ((L c).map (·.2))[j]? = (S c)[j]? := by rw [HL.out c]
            rw [List.getElem?_map, List.getElem?_eq_getElem hjl, List.getElem?_eq_getElem hsj] at h1
            injection h1)
          have hnb9 := HSM.out.n c _ (List.getElem_mem hsj)
          have HT := Lib.hid (cliT_take hsj)
          rw [← HS9.out] at hnb9 HT
          generalize (L c)[j] = x9 at d0 d1 d2 d3 d4 HO HT hnb9
          obtain ⟨⟨gr, cr⟩, sq⟩ := x9
          have HO : Hid (One _ (.slice (some ⟨gr, 0, none⟩) 1 cr) sq) := HO
          obtain ⟨_, _, hrv, hgr, hcr⟩ := One.form HO.out
          simp only [Value.slice.injEq, Option.some.injEq, Addr.mk.injEq, and_true, true_and] at hrv
          obtain ⟨rfl, rfl⟩ := hrv
          simp only [enR, RX.v, List.getElem?_cons_zero, List.getElem?_cons_succ] at d0 d1 d2 d3 d4
          dsimp only at hnb9
          clear hrr hsj hv' HS9
          have BX := Lib.hid (Blk.new wr 38 #[.int .i64 c, .int .i64 sq, .slice (some ⟨gr, 0, none⟩) 1 cr, .int .i64 0, .int .i64 0])
          have HW1 := Lib.hid (HW.out.alloc (.cells #[.int .i64 c, .int .i64 sq, .slice (some ⟨gr, 0, none⟩) 1 cr, .int .i64 0, .int .i64 0] 38))
          have HO1 := Lib.hid (HO.out.alloc (.cells #[.int .i64 c, .int .i64 sq, .slice (some ⟨gr, 0, none⟩) 1 cr, .int .i64 0, .int .i64 0] 38))
          have y0 := BX.out.cell 0
          have y1 := BX.out.cell 1
          have y2 := BX.out.cell 2
          have y3 := BX.out.cell 3
          have y4 := BX.out.cell 4
          have hc := bk_encode c sq _ _ HO1.out hc0 hc1 hnb9.1 hnb9.2
          go_wp2_with (fail)
          refine hc.mono ?_
          rintro e w9 ⟨rfl, hb9⟩
          have hsz := Lib.hid (repT_size c sq)
          generalize repT c sq = tx at hsz HT
          have hts : ¬ ((60000 : Int) < (tx.size : Int)) := by have := hsz.out; omega
          have HW2 := Lib.hid (HW1.out.below hb9)
          have HW3 := Lib.hid (HW2.out.alloc (.cells #[.bool true, .int .i64 0, .string tx] 62))
          have hbd2 := Lib.hid (show ((f1 ++ (cliT S c).take j).length + 1) * 32 ≤ 140737488355328 by
            have h1 := HFL1.out
            rw [List.length_append, List.length_take]
            omega)
          have HNF := Lib.hid (news_F w9 (fT tx))
          have hnw : IntKind.i64.wrap (((N0 + j : Nat) : Int) + 1) = ((N0 + (j + 1) : Nat) : Int) := by have := HNL.out; have := HN1.out; have := HSL.out; rw [IntKind.wrap_i64]; omega
          clear hc hb9 BX HO HO1 HW HW1 HW2 d0 d1 d2 d3 d4 y0 y1 y2 y3 y4 hnb9
          go_wp2_with (first
            | (refine Row.append_list (by rfl) (.tmp 65) (.tmp 68) 63 62 (.agg #[.bool false, .int .i64 0, .string ⟨#[]⟩]) 3 32 (by rfl) Try.underlying63 info_field rfl (by decide) (by decide) (.slice A8 n8 c8) (f1 ++ (cliT S c).take j) [fT tx] (by rfl) ⟨w9.heap.size, 0, none⟩ 1 1 (by rfl) HW3.out.row rfl (fun _ => rfl) HNF.out one_FC hbd2.out ?_
               intro v10 w10 hR hG hO
               have HV10 := Lib.hid (HW3.out.app hR hG hO)
               clear hR hG hO)
            | fail)
          rw [List.append_assoc, ← HT.out] at HV10
          obtain ⟨A10, c10, hv10⟩ := HV10.out.row.shape
          subst hv10
          generalize (f1 ++ (cliT S c).take (j + 1)).length = n10 at HV10 ⊢
          clear HW3 HNF hbd2 hts
          go_wp2
          go_roundg (Nc - (j + 1))
          case measure => omega
          case rel => exact ⟨j + 1, n10, c10, A10, by omega, Nat.le_refl _, by go_num, rfl, by rw [show wrap64 ((N0 : Int) + (j : Int) + 1) = ((N0 + (j + 1) : Nat) : Int) by have := HNL.out; have := HN1.out; have := HSL.out; unfold wrap64; omega], HV10⟩
        · obtain rfl : j = Nc := by omega
          have hjz : ¬ ((j : Nat) : Int) < (j : Int) := by omega
          have HE := Lib.hid (show f1 ++ (cliT S c).take j = outF d S cs (k + 1) by
            rw [HF1.out, List.take_of_length_le (by unfold cliT; rw [List.length_map, HSL.out]; exact Nat.le_refl _)])
          have HE2 := Lib.hid (show N0 + j = outN S cs (k + 1) by rw [HN1.out, HSL.out])
          rw [HE.out] at HW
          rw [HE2.out]
          clear HE HE2 HFL1 HF0 HCF V7 HFL HF1 HN1 hN0
          go_wp2
          go_roundg (M - (k + 1))
          case measure => omega
          case rel => exact ⟨k + 1, n8, c8, A8, by omega, Nat.le_refl _, by go_num, rfl, rfl, HW⟩
    · obtain rfl : k = M := by omega
      have hkz : ¬ ((k : Nat) : Int) < (k : Int) := by omega
      have hn256 := outN_len (cs := cs) HSM.out k hM4
      have HB := Lib.hid (show outF d S cs k = bookF d S cs by unfold outF bookF; rw [List.take_of_length_le (by rw [HM.out]; exact Nat.le_refl _)])
      rw [HB.out] at HV
      generalize outN S cs k = NN at hn256 ⊢
      have hnn : ¬ ((300 : Int) < (NN : Int)) := by omega
      have hc := code_enc _ _ _ HV.out.row (book_fit HSM.out HCL.out hd) (by have := bookF_len (d := d) HSM.out HCL.out; omega) (book_enc HSM.out HCL.out hd)
      go_wp2_with (fail)
      refine hc.mono ?_
      rintro e w9 ⟨rfl, hb9⟩
      have HB9 := Lib.hid (HV.out.h.trans (hb9.mono HV.out.h.size))
      clear hc hb9
      rw [show strOfNums (I (Fn.enc (bookF d S cs))) = saveT d S cs from rfl]
      obtain ⟨tx, htx⟩ : ∃ tx, Hid (saveT d S cs = tx) := ⟨_, Lib.hid rfl⟩
      rw [htx.out]
      go_wp2
      go_ret2
      exact ⟨cs, by rw [htx.out]; rfl, HCL.out, HB9.out⟩
end Go.Proofs.Ytcpenjbgiecgnaa
