import Derived.Test.YtcpenjbgiecgnaaBkP
namespace Go.Proofs.Ytcpenjbgiecgnaa
open Go Go.RowKit
open Go.Proofs.YtcpenjbgiecgnaaW.PrintWords Go.Proofs.YtcpenjbgiecgnaaW.PrintLast Go.Proofs.YtcpenjbgiecgnaaW.PrintMore
open Go.Proofs.Ytcpenjbgiecgnaa.PAll (S62 fN fT)
open Go.Proofs.Ytcpenjbgiecgnaa.Bytes (I)
set_option linter.unusedVariables false
set_option linter.unusedSimpArgs false
set_option maxRecDepth 100000

/-! read: the walk. -/
theorem cliA_len3 (S : Int → List Int) (c : Int) : (cliA S c).length = 3 + (S c).length := by
  unfold cliA cliF cliT
  rw [List.length_append, List.length_map]
  rfl
theorem cliA_head {S : Int → List Int} {c : Int} (r : List S62) : ∃ t, cliA S c ++ r = fN c :: fN (lastN (S c)) :: fN ((S c).length : Int) :: t := ⟨_, rfl⟩
theorem cliA_get {S : Int → List Int} {c : Int} (r : List S62) {j : Nat} (hj : j < (S c).length) : (cliA S c ++ r)[3 + j]? = some (fT (repT c (S c)[j])) := by
  unfold cliA cliF
  rw [List.append_assoc, List.getElem?_append_right (by simp)]
  show (cliT S c ++ r)[3 + j - 3]? = _
  rw [show 3 + j - 3 = j by omega]
  unfold cliT
  rw [List.getElem?_append_left (by rw [List.length_map]; exact hj), List.getElem?_map, List.getElem?_eq_getElem hj]
  rfl
set_option maxHeartbeats 16000000 in
theorem bk_read (F0 : Nat → Prop) (g d nb0 : Nat) (S0 S : Int → List Int) (cs : List Int) (v : Value) (w : World) (h : BkAt w F0 g d nb0 S0) (hrow : VRow w v (cs.flatMap (cliA S))) (hout : ∀ k, v.ownBlock = some k → ¬ F0 k) (hvlt : ∀ k, v.ownBlock = some k → k < w.heap.size)
    (hS : Small S) (hcl : IsCl S cs) (hr : ∀ c, (S c).Pairwise (· < ·)) (hd : ∀ c, (S c).length ≤ d) (hd1 : 1 ≤ d) (hd64 : d ≤ 64) :
    Calls Try.prog 22 #[.pointer (some ⟨g, 0, none⟩), v] w fun e w' => e = .returned (.bool true) ∧ ∃ F' nb', BkAt w' F' g d nb' S ∧ nb' ≤ 256 ∧ Kept w w' F0 ∧ ∀ k, F' k → F0 k ∨ w.heap.size ≤ k := by
  obtain ⟨mb, m, L, h, hl⟩ := h
  obtain ⟨Av, cv, hv, hle, hmx⟩ := hrow.1
  have HVL := Lib.hid hvlt
  have c1 := h.blk.cell 1
  have HI := Lib.hid h.im
  have HH := Lib.hid h
  have HR := Lib.hid hrow
  have HO := Lib.hid hout
  have HSM := Lib.hid hS
  have HCL := Lib.hid hcl
  have HRI := Lib.hid hr
  have HDL := Lib.hid hd
  have HV := Lib.hid hv
  obtain ⟨M, HM⟩ : ∃ M, Hid (cs.length = M) := ⟨_, Lib.hid rfl⟩
  have hM4 : M ≤ 4 := by rw [← HM.out]; exact (hS.keys hcl).1
  rw [hv]
  obtain ⟨n0, HN0⟩ : ∃ n0, Hid ((cs.flatMap (cliA S)).length = n0) := ⟨_, Lib.hid rfl⟩
  rw [HN0.out] at HV ⊢
  clear h hl hrow hout hS hcl hr hd hle hmx hvlt
  go_enter Try.func22, Try.ntmps22
  go_wp2_with (first
    | (refine IMap.clear_list (by rfl) (by rfl) (.tmp 13) 51 54 (by rfl) Try.underlying51 (by rfl) HI.out fun w1 him1 hk1 => ?_
       have HI1 := Lib.hid him1
       have HK1 := Lib.hid hk1
       clear him1 hk1)
    | fail)
  have V0 := Lib.hid (show RD w w1 F0 F0 g d 0 (partS S []) (.slice Av n0 cv) ((cs.drop 0).flatMap (cliA S)) from by
    refine ⟨⟨mb, _, _, HH.out.cleared HI1.out HK1.out, fun c => ?_⟩, ?_, fun k e => ⟨HO.out k (HV.out ▸ e), ?_⟩, HK1.out.mono (fun k _ e => e ▸ HH.out.fm), fun k h => .inl h⟩
    · unfold partS
      rw [if_neg (by simp)]
      rfl
    · rw [List.drop_zero, ← HV.out]
      refine HR.out.kept HK1.out (fun k e he => ?_)
      subst he
      exact HO.out _ e HH.out.fm
    · exact HVL.out k (HV.out ▸ e))
  clear c1 HI HH HR HO HI1 HK1 hv
  go_loopg [1] M (fun gg s1 wr => ∃ (k n c nb : Nat) (A : Option Addr) (F : Nat → Prop), k ≤ M ∧ M - k ≤ gg ∧ nb ≤ 64 * k ∧ s1 = .slice A n c ∧ Hid (RD w wr F0 F g d nb (partS S (cs.take k)) (.slice A n c) ((cs.drop k).flatMap (cliA S))))
  case atStart => exact ⟨0, n0, cv, 0, Av, F0, Nat.zero_le _, by omega, Nat.zero_le _, rfl, V0⟩
  case round =>
    obtain ⟨k, n, cc, nb, A, F, hk, hgg, hnb, rfl, HW⟩ := hrel
    by_cases hkM : k < M
    · have hkc : k < cs.length := by rw [HM.out]; exact hkM
      have HDR := Lib.hid (List.drop_eq_getElem_cons hkc)
      have HTK := Lib.hid (List.take_succ_eq_append_getElem hkc)
      have hcm := List.getElem_mem hkc
      have hcb := (HSM.out.keys HCL.out).2 _ hcm
      have hcn := ((HCL.out.2 _).1 hcm).1
      have HNT := Lib.hid (show cs[k] ∉ cs.take k from fun hm => by
        obtain ⟨i, hi, he⟩ := List.getElem_of_mem hm
        rw [List.getElem_take] at he
        rw [List.length_take] at hi
        have := List.pairwise_iff_getElem.1 HCL.out.1 i k (by omega) hkc (by omega)
        omega)
      generalize cs[k] = c at HDR HTK hcb hcn HNT hcm
      rw [HDR.out, List.flatMap_cons] at HW
      obtain ⟨Nm, HNm⟩ : ∃ Nm, Hid ((S c).length = Nm) := ⟨_, Lib.hid rfl⟩
      have hN1 : 1 ≤ Nm := by rw [← HNm.out]; exact List.length_pos_iff.2 hcn
      have hNd : Nm ≤ d := by rw [← HNm.out]; exact HDL.out c
      have HRL := Lib.hid (show (cliA S c ++ (cs.drop (k + 1)).flatMap (cliA S)).length = 3 + Nm + ((cs.drop (k + 1)).flatMap (cliA S)).length by rw [List.length_append, cliA_len3, HNm.out])
      generalize hrl : (cs.drop (k + 1)).flatMap (cliA S) = rl at HW HRL
      obtain ⟨gq, o, c', hv', hgq, hle', hmx'⟩ := (HW.out.row.2 (fun e => by have := HRL.out; rw [e, List.length_nil] at this; omega)).form (by rw [HRL.out]; omega)
      injection hv' with hA' hnn hcc
      subst hA' hcc
      have hrr := HW.out.row.2 (fun e => by have := HRL.out; rw [e, List.length_nil] at this; omega)
      have l0 : 0 < (cliA S c ++ rl).length := by rw [HRL.out]; omega
      have l2 : 2 < (cliA S c ++ rl).length := by rw [HRL.out]; omega
      have e00 := hrr.cell (fun _ => rfl) (by omega) 0 0 l0 (by omega)
      have e01 := hrr.cell (fun _ => rfl) (by omega) 0 1 l0 (by omega)
      have e20 := hrr.cell (fun _ => rfl) (by omega) 2 0 l2 (by omega)
      have e21 := hrr.cell (fun _ => rfl) (by omega) 2 1 l2 (by omega)
      have x0 : (cliA S c ++ rl)[0] = fN c := rfl
      have x2 : (cliA S c ++ rl)[2] = fN (Nm : Int) := by rw [← HNm.out]; rfl
      rw [x0] at e00 e01
      rw [x2] at e20 e21
      change _ = some (Value.bool false) at e00
      change _ = some (Value.int .i64 c) at e01
      change _ = some (Value.bool false) at e20
      change _ = some (Value.int .i64 (Nm : Int)) at e21
      simp only [Nat.zero_mul, Nat.add_zero, Nat.reduceMul, Nat.reduceAdd, ← Nat.add_assoc] at e00 e01 e20 e21
      have e21b : wr.cell? ⟨gq, o * 3 + 6 + 1, none⟩ = some (Value.int .i64 (Nm : Int)) := e21
      obtain ⟨mb2, m2, L2, hbk, _⟩ := HW.out.bk
      have d0 := hbk.blk.cell 0
      have hdl := hbk.blk.lt
      clear hbk
      have HN4 := Lib.hid (show n = 3 + Nm + rl.length by rw [hnn, HRL.out])
      have HRR := Lib.hid (show (cliA S c ++ rl).length = n from hnn.symm)
      have hn4 : 3 + Nm ≤ n := by have := HN4.out; omega
      rw [HRR.out] at hle'
      clear hnn l0 l2 x0 x2 hrr hcm hcn
      have hnz : (0 : Int) < (n : Int) := by omega
      have hn2 : (2 : Int) < (n : Int) := by omega
      have q0 : decide ((n : Int) < 4) = false := decide_eq_false (by omega)
      have q1 : decide ((Nm : Int) < 1) = false := decide_eq_false (by omega)
      have q2 : decide ((d : Int) < (Nm : Int)) = false := decide_eq_false (by omega)
      have q3 : decide ((n : Int) < (Nm : Int) + 3) = false := decide_eq_false (by omega)
      have hw3 : IntKind.i64.wrap ((Nm : Int) + 3) = (Nm : Int) + 3 := by rw [IntKind.wrap_i64]; omega
      go_wp2_with (fail)
      go_quiet (fail)
      have hw4 : IntKind.i64.wrap (3 + (Nm : Int)) = ((3 + Nm : Nat) : Int) := by rw [IntKind.wrap_i64]; omega
      have s0 : (3 : Int) ≤ ((3 + Nm : Nat) : Int) := by omega
      have s1 : ((3 + Nm : Nat) : Int) ≤ (cc : Int) := by omega
      have hcc3 : ¬ cc = 3 := by omega
      clear q0 q1 q2 q3 hw3
      go_wp2_with (fail)
      rw [show 3 + Nm - 3 = Nm by omega]
      try rw [show decide (d < Nm) = false from decide_eq_false (by omega)]
      have V1 := Lib.hid (show RD w (wr.drewN nq) F0 F g d nb (partJ S (cs.take k) c 0) (.slice (some ⟨gq, o * 3, none⟩) n cc) (cliA S c ++ rl) from by rw [partJ_zero HNT.out]; exact HW.out.drewN nq)
      generalize wr.drewN nq = W0 at V1 ⊢
      clear HW e00 e01 e20 e21 e21b d0 hdl hw4 s0 s1 hcc3 hnz hn2
      go_loopg [69] Nm (fun gg s69 wy => ∃ (j nb1 : Nat) (F1 : Nat → Prop), j ≤ Nm ∧ Nm - j ≤ gg ∧ s69 = .int .i64 j ∧ nb1 ≤ 64 * k + j ∧ Hid (RD w wy F0 F1 g d nb1 (partJ S (cs.take k) c j) (.slice (some ⟨gq, o * 3, none⟩) n cc) (cliA S c ++ rl)))
      case atStart => exact ⟨0, nb, F, Nat.zero_le _, by omega, rfl, by omega, V1⟩
      case round =>
        obtain ⟨j, nb1, F1, hj, hgg2, rfl, hnb1, HX⟩ := hrel
        by_cases hjN : j < Nm
        · have hjz : (j : Int) < (Nm : Int) := by omega
          have hj0 : (0 : Int) ≤ (j : Int) := by omega
          have hjS : j < (S c).length := by rw [HNm.out]; exact hjN
          have hne : cliA S c ++ rl ≠ [] := fun e => by have := HRL.out; rw [e, List.length_nil] at this; omega
          have hrr := HX.out.row.2 hne
          have hjl : 3 + j < (cliA S c ++ rl).length := by rw [HRL.out]; omega
          have l0 : 0 < (cliA S c ++ rl).length := by omega
          have f0 := hrr.cell (fun _ => rfl) (by omega) (3 + j) 0 hjl (by omega)
          have f1 := hrr.cell (fun _ => rfl) (by omega) (3 + j) 1 hjl (by omega)
          have f2 := hrr.cell (fun _ => rfl) (by omega) (3 + j) 2 hjl (by omega)
          have e01 := hrr.cell (fun _ => rfl) (by omega) 0 1 l0 (by omega)
          rw [show (cliA S c ++ rl)[0] = fN c from rfl] at e01
          change _ = some (Value.int .i64 c) at e01
          simp only [Nat.zero_mul, Nat.zero_add] at e01
          have hx : (cliA S c ++ rl)[3 + j] = fT (repT c (S c)[j]) := by
            have h1 := cliA_get (S := S) (c := c) rl hjS
            rw [List.getElem?_eq_getElem hjl] at h1
            injection h1
          rw [hx] at f0 f1 f2
          rw [show o * 3 + ((3 + j) * 3 + 0) = o * 3 + 9 + j * 3 by omega] at f0
          rw [show o * 3 + ((3 + j) * 3 + 1) = o * 3 + 9 + j * 3 + 1 by omega] at f1
          rw [show o * 3 + ((3 + j) * 3 + 2) = o * 3 + 9 + j * 3 + 2 by omega] at f2
          change _ = some (Value.bool true) at f0
          change _ = some (Value.int .i64 0) at f1
          change _ = some (Value.string (repT c (S c)[j])) at f2
          have hsb := HSM.out.n c _ (List.getElem_mem hjS)
          have HNO := Lib.hid (fun (W : World) (rv : Value) (hR : RD w W F0 F1 g d nb1 (partJ S (cs.take k) c j) (.slice (some ⟨gq, o * 3, none⟩) n cc) (cliA S c ++ rl)) (hO : One W rv (S c)[j]) => hR.noted hjS hO HSM.out (HRI.out c) (HDL.out c) hd1 hd64 hcb.1 (by omega) (by omega))
          have HE1 := Lib.hid (fun (W : World) (hR : RD w W F0 F1 g d nb1 (partJ S (cs.take k) c j) (.slice (some ⟨gq, o * 3, none⟩) n cc) (cliA S c ++ rl)) => show W.cell? ⟨gq, o * 3 + 1, none⟩ = some (.int .i64 c) from by
            have h1 := (hR.row.2 hne).cell (fun _ => rfl) (by omega) 0 1 l0 (by omega)
            rw [show (cliA S c ++ rl)[0] = fN c from rfl] at h1
            simp only [Nat.zero_mul, Nat.zero_add] at h1
            exact h1)
          have hc := fun W => bk_decode c (S c)[j] W hcb.1 (by omega) hsb.1 hsb.2
          generalize (S c)[j] = sq at f2 HNO hc hsb
          generalize repT c sq = tx at f2 hc
          have BX := Lib.hid (Blk.new wr 62 #[.bool true, .int .i64 0, .string tx])
          have HX1 := Lib.hid (HX.out.alloc (.cells #[.bool true, .int .i64 0, .string tx] 62))
          have y2 := BX.out.cell 2
          have hc := hc (wr.alloc (.cells #[.bool true, .int .i64 0, .string tx] 62))
          clear hrr hne hjl l0 hx hjS
          go_wp2_with (fail)
          refine hc.mono ?_
          rintro e w8 ⟨rv, rfl, ho8, hb8⟩
          obtain ⟨gr, cr, rfl, hgr, hcr⟩ := One.form ho8
          have BY := Lib.hid (Blk.new w8 38 #[.int .i64 c, .int .i64 sq, .slice (some ⟨gr, 0, none⟩) 1 cr, .int .i64 0, .int .i64 0])
          have O9 := Lib.hid (ho8.alloc (.cells #[.int .i64 c, .int .i64 sq, .slice (some ⟨gr, 0, none⟩) 1 cr, .int .i64 0, .int .i64 0] 38))
          have HX2 := Lib.hid ((HX1.out.below hb8).alloc (.cells #[.int .i64 c, .int .i64 sq, .slice (some ⟨gr, 0, none⟩) 1 cr, .int .i64 0, .int .i64 0] 38))
          clear hc ho8 hb8 HX1 BX f0 f1 f2 y2 e01
          go_wp2_with (fail)
          generalize w8.alloc (.cells #[.int .i64 c, .int .i64 sq, .slice (some ⟨gr, 0, none⟩) 1 cr, .int .i64 0, .int .i64 0] 38) = W9 at BY O9 HX2 ⊢
          have O9 := Lib.hid (One.below O9.out (Kept.below ((Kept.refl W9 fun _ => False).drew) (Nat.le_refl _) (fun _ _ h => h)))
          refine start_ (n := 17) (S := fun w' => w'.cell? ⟨w8.heap.size, 0, none⟩ = some (.int .i64 c) ∧ w'.cell? ⟨w8.heap.size, 1, none⟩ = some (.int .i64 sq) ∧ w'.cell? ⟨w8.heap.size, 2, none⟩ = some (.slice (some ⟨gr, 0, none⟩) 1 cr) ∧ w'.cell? ⟨w8.heap.size, 3, none⟩ = some (.int .i64 0) ∧ w'.cell? ⟨w8.heap.size, 4, none⟩ = some (.int .i64 0) ∧ w'.cell? ⟨gq, o * 3 + 1, none⟩ = some (.int .i64 c)) (ds := [14]) #[false, false, false, false, false, false, false, false, false, false, false, false, false, false, false, false, false] (by kernel_rfl) rfl rfl ⟨BY.out.cell 0, BY.out.cell 1, BY.out.cell 2, BY.out.cell 3, BY.out.cell 4, HE1.out _ HX2.out.drew⟩ (fun hHeld => ?_)
          refine pure_ (i := 0) (N := some 79) (v := ?_) (a' := ?_) #[true, false, false, false, false, false, false, false, false, false, false, false, false, false, false, false, false] rfl rfl (by kernel_rfl) (fun _ _ _ h => h) (Or.inl ⟨by rfl, ?_⟩) ?_ ?_
          rotate_left
          · intro w'
            go_simp
            with_reducible rfl
          rotate_left
          · simp only [Act.put, List.setIfInBounds_toArray, List.set_cons_zero, List.set_cons_succ, i64_w, i32_w]
            rfl
          refine pure_ (i := 1) (N := some 80) (v := ?_) (a' := ?_) #[true, true, false, false, false, false, false, false, false, false, false, false, false, false, false, false, false] rfl rfl (by kernel_rfl) (fun _ _ _ h => h) (Or.inl ⟨by rfl, ?_⟩) ?_ ?_
          rotate_left
          · intro w'
            go_simp
            with_reducible rfl
          rotate_left
          · simp only [Act.put, List.setIfInBounds_toArray, List.set_cons_zero, List.set_cons_succ, i64_w, i32_w]
            rfl
          refine pure_ (i := 2) (N := some 81) (v := ?_) (a' := ?_) #[true, true, true, false, false, false, false, false, false, false, false, false, false, false, false, false, false] rfl rfl (by kernel_rfl) (fun _ _ _ h => h) (Or.inl ⟨by rfl, ?_⟩) ?_ ?_
          rotate_left
          · intro w'
            go_simp
            with_reducible rfl
          rotate_left
          · simp only [Act.put, List.setIfInBounds_toArray, List.set_cons_zero, List.set_cons_succ, i64_w, i32_w]
            rfl
          refine pure_ (i := 3) (N := some 82) (v := ?_) (a' := ?_) #[true, true, true, true, false, false, false, false, false, false, false, false, false, false, false, false, false] rfl rfl (by kernel_rfl) (fun _ _ _ h => h) (Or.inl ⟨by rfl, ?_⟩) ?_ ?_
          rotate_left
          · intro w'
            go_simp
            with_reducible rfl
          rotate_left
          · simp only [Act.put, List.setIfInBounds_toArray, List.set_cons_zero, List.set_cons_succ, i64_w, i32_w]
            rfl
          refine pure_ (i := 5) (N := some 84) (v := ?_) (a' := ?_) #[true, true, true, true, false, true, false, false, false, false, false, false, false, false, false, false, false] rfl rfl (by kernel_rfl) (fun _ _ _ h => h) (Or.inl ⟨by rfl, ?_⟩) ?_ ?_
          rotate_left
          · intro w'
            go_simp
            with_reducible rfl
          rotate_left
          · simp only [Act.put, List.setIfInBounds_toArray, List.set_cons_zero, List.set_cons_succ, i64_w, i32_w]
            rfl
          refine pure_ (i := 6) (N := some 85) (v := ?_) (a' := ?_) #[true, true, true, true, false, true, true, false, false, false, false, false, false, false, false, false, false] rfl rfl (by kernel_rfl) (fun _ _ _ h => h) (Or.inl ⟨by rfl, ?_⟩) ?_ ?_
          rotate_left
          · intro w'
            go_simp
            with_reducible rfl
          rotate_left
          · simp only [Act.put, List.setIfInBounds_toArray, List.set_cons_zero, List.set_cons_succ, i64_w, i32_w]
            rfl
          refine pure_ (i := 7) (N := some 86) (v := ?_) (a' := ?_) #[true, true, true, true, false, true, true, true, false, false, false, false, false, false, false, false, false] rfl rfl (by kernel_rfl) (fun _ _ _ h => h) (Or.inl ⟨by rfl, ?_⟩) ?_ ?_
          rotate_left
          · intro w'
            go_simp
            with_reducible rfl
          rotate_left
          · simp only [Act.put, List.setIfInBounds_toArray, List.set_cons_zero, List.set_cons_succ, i64_w, i32_w]
            rfl
          refine take_ (i := 4) (N := some 83) (v := ?_) (a' := ?_) #[true, true, true, true, true, true, true, true, false, false, false, false, false, false, false, false, false] rfl rfl (by kernel_rfl) (fun _ _ _ h => h) (Or.inl ⟨by rfl, ?_⟩) hHeld ?_ ?_
          rotate_left
          · rintro w' ⟨s0, s1, s2, s3, s4, s5⟩
            go_simp
            with_reducible rfl
          rotate_left
          · simp only [Act.put, List.setIfInBounds_toArray, List.set_cons_zero, List.set_cons_succ, i64_w, i32_w]
            rfl
          refine take_ (i := 8) (N := some 87) (v := ?_) (a' := ?_) #[true, true, true, true, true, true, true, true, true, false, false, false, false, false, false, false, false] rfl rfl (by kernel_rfl) (fun _ _ _ h => h) (Or.inl ⟨by rfl, ?_⟩) hHeld ?_ ?_
          rotate_left
          · rintro w' ⟨s0, s1, s2, s3, s4, s5⟩
            go_simp
            with_reducible rfl
          rotate_left
          · simp only [Act.put, List.setIfInBounds_toArray, List.set_cons_zero, List.set_cons_succ, i64_w, i32_w]
            rfl
          refine pure_ (i := 9) (N := some 88) (v := ?_) (a' := ?_) #[true, true, true, true, true, true, true, true, true, true, false, false, false, false, false, false, false] rfl rfl (by kernel_rfl) (fun _ _ _ h => h) (Or.inl ⟨by rfl, ?_⟩) ?_ ?_
          rotate_left
          · intro w'
            go_simp
            with_reducible rfl
          rotate_left
          · simp only [Act.put, List.setIfInBounds_toArray, List.set_cons_zero, List.set_cons_succ, i64_w, i32_w]
            rfl
          refine pure_ (i := 10) (N := some 89) (v := ?_) (a' := ?_) #[true, true, true, true, true, true, true, true, true, true, true, false, false, false, false, false, false] rfl rfl (by kernel_rfl) (fun _ _ _ h => h) (Or.inl ⟨by rfl, ?_⟩) ?_ ?_
          rotate_left
          · intro w'
            go_simp
            with_reducible rfl
          rotate_left
          · simp only [Act.put, List.setIfInBounds_toArray, List.set_cons_zero, List.set_cons_succ, i64_w, i32_w]
            rfl
          refine pure_ (i := 11) (N := some 90) (v := ?_) (a' := ?_) #[true, true, true, true, true, true, true, true, true, true, true, true, false, false, false, false, false] rfl rfl (by kernel_rfl) (fun _ _ _ h => h) (Or.inl ⟨by rfl, ?_⟩) ?_ ?_
          rotate_left
          · intro w'
            go_simp
            with_reducible rfl
          rotate_left
          · simp only [Act.put, List.setIfInBounds_toArray, List.set_cons_zero, List.set_cons_succ, i64_w, i32_w]
            rfl
          refine pure_ (i := 12) (N := some 91) (v := ?_) (a' := ?_) #[true, true, true, true, true, true, true, true, true, true, true, true, true, false, false, false, false] rfl rfl (by kernel_rfl) (fun _ _ _ h => h) (Or.inl ⟨by rfl, ?_⟩) ?_ ?_
          rotate_left
          · intro w'
            go_simp
            with_reducible rfl
          rotate_left
          · simp only [Act.put, List.setIfInBounds_toArray, List.set_cons_zero, List.set_cons_succ, i64_w, i32_w]
            rfl
          refine take_ (i := 13) (N := some 92) (v := ?_) (a' := ?_) #[true, true, true, true, true, true, true, true, true, true, true, true, true, true, false, false, false] rfl rfl (by kernel_rfl) (fun _ _ _ h => h) (Or.inl ⟨by rfl, ?_⟩) hHeld ?_ ?_
          rotate_left
          · rintro w' ⟨s0, s1, s2, s3, s4, s5⟩
            go_simp
            with_reducible rfl
          rotate_left
          · simp only [Act.put, List.setIfInBounds_toArray, List.set_cons_zero, List.set_cons_succ, i64_w, i32_w]
            rfl
          refine last_ (i := 14) (N := some 93) #[true, true, true, true, true, true, true, true, true, true, true, true, true, true, true, false, false] rfl rfl (by kernel_rfl) (by decide) (fun K hK => ?_)
          refine goes_ Try.func10 (by kernel_rfl) rfl #[.pointer (some ⟨g, 0, none⟩), .agg #[.int .i64 c, .int .i64 sq, .slice (some ⟨gr, 0, none⟩) 1 cr, .int .i64 0, .int .i64 0]] (by rfl) rfl rfl (by simp only [List.map_toArray, List.map_cons, List.map_nil]; rfl) ?_
          with_reducible refine (HNO.out W9.drew _ HX2.out.drew O9.out).mono ?_
          rintro e w10 ⟨rfl, F2, nb2, h10, hnb10⟩
          refine ⟨_, rfl, ?_⟩
          have HX10 := Lib.hid h10
          clear h10
          refine hK.out _ _ ?_
          clear hK K
          refine norm_ (a' := ?_) ?_ ?_
          rotate_left
          · show Act.put _ (some 93) _ = _
            simp only [Act.put, List.setIfInBounds_toArray, List.set_cons_zero, List.set_cons_succ, i64_w, i32_w]
            rfl
          refine pure_ (i := 15) (N := some 94) (v := ?_) (a' := ?_) #[true, true, true, true, true, true, true, true, true, true, true, true, true, true, true, true, false] rfl rfl (by kernel_rfl) (fun _ _ _ h => h) (Or.inl ⟨by rfl, ?_⟩) ?_ ?_
          rotate_left
          · intro w'
            go_simp
            with_reducible rfl
          rotate_left
          · simp only [Act.put, List.setIfInBounds_toArray, List.set_cons_zero, List.set_cons_succ, i64_w, i32_w]
            rfl
          refine pure_ (i := 16) (N := some 95) (v := ?_) (a' := ?_) #[true, true, true, true, true, true, true, true, true, true, true, true, true, true, true, true, true] rfl rfl (by kernel_rfl) (fun _ _ _ h => h) (Or.inl ⟨by rfl, ?_⟩) ?_ ?_
          rotate_left
          · intro w'
            go_simp
            with_reducible rfl
          rotate_left
          · simp only [Act.put, List.setIfInBounds_toArray, List.set_cons_zero, List.set_cons_succ, i64_w, i32_w]
            rfl
          refine done_ (by kernel_rfl) ?_
          clear BY O9 HX2 HX HE1 HNO
          go_wp2
          go_roundg (Nm - (j + 1))
          case measure => omega
          case rel => exact ⟨j + 1, nb2, F2, by omega, Nat.le_refl _, by go_num, by omega, HX10⟩
        · obtain rfl : j = Nm := by omega
          have hjz : ¬ ((j : Nat) : Int) < (j : Int) := by omega
          have hne : cliA S c ++ rl ≠ [] := fun e => by have := HRL.out; rw [e, List.length_nil] at this; omega
          have HSF := Lib.hid (VRow.suffix (HX.out.row.2 hne) HRR.out hle' (by omega) (3 + j) hn4 (by omega))
          have hdrop : (cliA S c ++ rl).drop (3 + j) = rl := List.drop_left' (by rw [cliA_len3, HNm.out])
          obtain ⟨AD, HAD⟩ : ∃ AD, (if cc = 3 + j then some (⟨gq, o * 3, none⟩ : Addr) else some ⟨gq, o * 3 + (3 + j) * 3, none⟩) = AD := ⟨_, rfl⟩
          rw [HAD, hdrop] at HSF
          have hADk : ∀ k, (Value.slice AD (n - (3 + j)) (cc - (3 + j))).ownBlock = some k → gq = k := by
            rw [← HAD]
            intro k e
            split at e <;> simpa [Value.ownBlock] using e
          have HX9 := Lib.hid (show RD w _ F0 F1 g d nb1 (partS S (cs.take (k + 1))) (.slice AD (n - (3 + j)) (cc - (3 + j))) ((cs.drop (k + 1)).flatMap (cliA S)) from by
            rw [HTK.out, ← partJ_all (c := c) (j := j) (by rw [HNm.out]; exact Nat.le_refl _), hrl]
            exact ⟨HX.out.bk, HSF.out, fun k e => HX.out.out k (by simp only [Value.ownBlock]; rw [hADk k e]), HX.out.kept, HX.out.grow⟩)
          have hw4 : IntKind.i64.wrap (3 + (j : Int)) = ((3 + j : Nat) : Int) := by rw [IntKind.wrap_i64]; omega
          have s1 : ((3 + j : Nat) : Int) ≤ (n : Int) := by omega
          have s2 : ((3 + j : Nat) : Int) ≤ (cc : Int) := by omega
          have s3 : (0 : Int) ≤ ((3 + j : Nat) : Int) := by omega
          clear HX HSF hdrop hADk hne
          go_wp2_with (fail)
          go_roundg (M - (k + 1))
          case measure => omega
          case rel => exact ⟨k + 1, n - (3 + j), cc - (3 + j), nb1, AD, F1, by omega, Nat.le_refl _, by omega, rfl, HX9⟩
    · obtain rfl : k = M := by omega
      have hdz : cs.drop k = [] := List.drop_eq_nil_of_le (by rw [HM.out]; exact Nat.le_refl _)
      rw [hdz, List.flatMap_nil] at HW
      have hn0 : n = 0 := by
        obtain ⟨A', c', hv', _, _⟩ := HW.out.row.1
        injection hv' with _ hn0 _
      subst hn0
      have hS : partS S (cs.take k) = S := by
        funext x
        unfold partS
        rw [List.take_of_length_le (by rw [HM.out]; exact Nat.le_refl _)]
        by_cases hx : x ∈ cs
        · rw [if_pos hx]
        · rw [if_neg hx]
          rcases Classical.em (S x = []) with h | h
          · exact h.symm
          · have hb := HSM.out.cl x h
            exact absurd ((HCL.out.2 x).2 ⟨h, (keyI ⟨hb.1, by omega⟩).1⟩) hx
      rw [hS] at HW
      clear hS hdz
      go_wp2
      go_ret
      exact ⟨rfl, F, nb, HW.out.bk, by omega, HW.out.kept, HW.out.grow⟩
end Go.Proofs.Ytcpenjbgiecgnaa
