-- written by a program of ours (wip/printx: the kit's print, changed in a few places)
import Derived.Test.YtkmbbipempbilaaPAllx0
import Derived.Test.YtkmbbipempbilaaPAllx1
import Derived.Test.YtkmbbipempbilaaPAllx4
import Derived.Test.YtkmbbipempbilaaPAllx7
import Derived.Test.YtkmbbipempbilaaPAllx9
import Derived.Test.YtkmbbipempbilaaPAllx10
namespace Go.Proofs.Ytkmbbipempbilaa.PAll
open Go.RowKit Go.Proofs.Ytkmbbipempbilaa.Extra Go.Proofs.YtkmbbipempbilaaW.PrintWords Go.Proofs.YtkmbbipempbilaaW.PrintLast Go.Proofs.YtkmbbipempbilaaW.PrintMore
attribute [local go_sem] max2_int min2_int max_two min_two max_three min_three max_four min_four   -- for this text's walks alone
set_option linter.unusedVariables false
set_option linter.unusedSimpArgs false

attribute [local go_sem high] eqA28
/-! ### skylarklaw01_CodeCuts: function 7 -/
mutual
def skylarklaw01_CodeCuts.j0 : Nat → List (S35) → Int → ByteArray → Bool → Option (Bool)
  | 0, _, _, _, _ => none
  | k + 1, x0, x1, x5, x32 => if x32 = true then (some true) else (if (IntKind.u64.wrap (wrap64 ((x5.size : Int) + 1))) = 0 then (none) else (if 0 ≤ (wrap64 (Int.tmod (IntKind.u64.wrap (x1)) (IntKind.u64.wrap (wrap64 ((x5.size : Int) + 1))))) then (if (wrap64 (Int.tmod (IntKind.u64.wrap (x1)) (IntKind.u64.wrap (wrap64 ((x5.size : Int) + 1))))) ≤ (x5.size : Int) then ((code_Decode.f k (x5.extract 0 ((wrap64 (Int.tmod (IntKind.u64.wrap (x1)) (IntKind.u64.wrap (wrap64 ((x5.size : Int) + 1))))) : Int).toNat)).bind fun bt290 => (skylarklaw01_CodeCuts.l0 k x0 (wrap64 (Int.tmod (IntKind.u64.wrap (x1)) (IntKind.u64.wrap (wrap64 ((x5.size : Int) + 1))))) bt290.1 0 0 bt290.2.1 bt290.2.2)) else (none)) else (none)))
def skylarklaw01_CodeCuts.l0 : Nat → List (S35) → Int → List (S35) → Int → Int → Int → Int → Option (Bool)
  | 0, _, _, _, _, _, _, _ => none
  | k + 1, x0, x7, x8, x10, x11, x296000, x296001 => if x10 < (x0.length : Int) then (if 0 ≤ x10 then (if x10 ≤ (wrap64 (x10 + 1)) then (if (wrap64 (x10 + 1)) ≤ (x0.length : Int) then ((code_Encode.f k ((x0.take ((wrap64 (x10 + 1)) : Int).toNat).drop (x10 : Int).toNat)).bind fun bt300 => (if (wrap64 (x11 + (bt300.1.size : Int))) > x7 then (if x11 = x7 then (if (x296000 == 0 && (x296001 == 0)) = true then (if x10 ≤ (x0.length : Int) then ((skylarkbook_SameFields.f k x8 (x0.take (x10 : Int).toNat)).bind fun t306 => (some t306)) else (none)) else (some false)) else (if (x296000 == x11 && (x296001 == 11)) = true then (some ((x8.length : Int) == 0)) else (some false))) else (skylarklaw01_CodeCuts.l0 k x0 x7 x8 (wrap64 (x10 + 1)) (wrap64 (x11 + (bt300.1.size : Int))) x296000 x296001))) else (none)) else (none)) else (none)) else (if x11 = x7 then (if (x296000 == 0 && (x296001 == 0)) = true then (if 0 ≤ x10 then (if x10 ≤ (x0.length : Int) then ((skylarkbook_SameFields.f k x8 (x0.take (x10 : Int).toNat)).bind fun t311 => (some t311)) else (none)) else (none)) else (some false)) else (if (x296000 == x11 && (x296001 == 11)) = true then (some ((x8.length : Int) == 0)) else (some false)))
end
def skylarklaw01_CodeCuts.f (k : Nat) (l0 : List (S35)) (a1 : Int) : Option (Bool) := (skylarklaw01_works.f k).bind fun t287 => (if t287 = true then ((code_Encode.f k l0).bind fun bt288 => (if bt288.2 = 0 then (if (l0.length : Int) > 60 then (skylarklaw01_CodeCuts.j0 k l0 a1 bt288.1 true) else (skylarklaw01_CodeCuts.j0 k l0 a1 bt288.1 (decide ((bt288.1.size : Int) > 20000)))) else (skylarklaw01_CodeCuts.j0 k l0 a1 bt288.1 true))) else (some false))
theorem skylarklaw01_CodeCuts.mono_l : ∀ k, (∀ y0 y1 y2 y3, LeO (skylarklaw01_CodeCuts.j0 k y0 y1 y2 y3) (skylarklaw01_CodeCuts.j0 (k + 1) y0 y1 y2 y3)) ∧ (∀ y0 y1 y2 y3 y4 y5 y6, LeO (skylarklaw01_CodeCuts.l0 k y0 y1 y2 y3 y4 y5 y6) (skylarklaw01_CodeCuts.l0 (k + 1) y0 y1 y2 y3 y4 y5 y6))
  | 0 => ⟨fun _ _ _ _ r h => by simp [skylarklaw01_CodeCuts.j0] at h, fun _ _ _ _ _ _ _ r h => by simp [skylarklaw01_CodeCuts.l0] at h⟩
  | k + 1 => by
    obtain ⟨ih0, ih1⟩ := skylarklaw01_CodeCuts.mono_l k
    refine ⟨?_, ?_⟩
    · intro y0 y1 y2 y3
      unfold skylarklaw01_CodeCuts.j0
      repeat' first
      | (with_reducible exact ih0 _ _ _ _)
      | (with_reducible exact ih1 _ _ _ _ _ _ _)
      | (with_reducible exact code_Decode.mono _ _)
      | (with_reducible exact code_Encode.mono _ _)
      | (with_reducible exact skylarkbook_SameFields.mono _ _ _)
      | (with_reducible exact skylarklaw01_works.mono _)
      | (with_reducible exact LeO.refl _)
      | (with_reducible exact LeO.none _)
      | (with_reducible refine LeO.ite ?_ ?_)
      | (with_reducible refine LeO.bind ?_ (fun _ => ?_))
      | exact ih0 _ _ _ _
      | exact ih1 _ _ _ _ _ _ _
      | exact code_Decode.mono _ _
      | exact code_Encode.mono _ _
      | exact skylarkbook_SameFields.mono _ _ _
      | exact skylarklaw01_works.mono _
      | exact LeO.none _
      | refine LeO.ite ?_ ?_
      | refine LeO.bind ?_ (fun _ => ?_)
    · intro y0 y1 y2 y3 y4 y5 y6
      unfold skylarklaw01_CodeCuts.l0
      repeat' first
      | (with_reducible exact ih0 _ _ _ _)
      | (with_reducible exact ih1 _ _ _ _ _ _ _)
      | (with_reducible exact code_Decode.mono _ _)
      | (with_reducible exact code_Encode.mono _ _)
      | (with_reducible exact skylarkbook_SameFields.mono _ _ _)
      | (with_reducible exact skylarklaw01_works.mono _)
      | (with_reducible exact LeO.refl _)
      | (with_reducible exact LeO.none _)
      | (with_reducible refine LeO.ite ?_ ?_)
      | (with_reducible refine LeO.bind ?_ (fun _ => ?_))
      | exact ih0 _ _ _ _
      | exact ih1 _ _ _ _ _ _ _
      | exact code_Decode.mono _ _
      | exact code_Encode.mono _ _
      | exact skylarkbook_SameFields.mono _ _ _
      | exact skylarklaw01_works.mono _
      | exact LeO.none _
      | refine LeO.ite ?_ ?_
      | refine LeO.bind ?_ (fun _ => ?_)
theorem skylarklaw01_CodeCuts.mono : ∀ a0 a1 k, LeO (skylarklaw01_CodeCuts.f k a0 a1) (skylarklaw01_CodeCuts.f (k + 1) a0 a1) := by
  intro a0 a1 k
  obtain ⟨ih0, ih1⟩ := skylarklaw01_CodeCuts.mono_l k
  unfold skylarklaw01_CodeCuts.f
  repeat' first
      | (with_reducible exact ih0 _ _ _ _)
      | (with_reducible exact ih1 _ _ _ _ _ _ _)
      | (with_reducible exact code_Decode.mono _ _)
      | (with_reducible exact code_Encode.mono _ _)
      | (with_reducible exact skylarkbook_SameFields.mono _ _ _)
      | (with_reducible exact skylarklaw01_works.mono _)
      | (with_reducible exact LeO.refl _)
      | (with_reducible exact LeO.none _)
      | (with_reducible refine LeO.ite ?_ ?_)
      | (with_reducible refine LeO.bind ?_ (fun _ => ?_))
      | exact ih0 _ _ _ _
      | exact ih1 _ _ _ _ _ _ _
      | exact code_Decode.mono _ _
      | exact code_Encode.mono _ _
      | exact skylarkbook_SameFields.mono _ _ _
      | exact skylarklaw01_works.mono _
      | exact LeO.none _
      | refine LeO.ite ?_ ?_
      | refine LeO.bind ?_ (fun _ => ?_)
set_option maxHeartbeats 8000000 in
set_option maxRecDepth 100000 in
theorem skylarklaw01_CodeCuts.calls (k : Nat) (A0 : Option Addr) (c0 : Nat) (l0 : List (S35)) (a1 : Int) (r : Bool) (w : World) (hr0 : Kd.C k35 w A0 l0.length l0) (hc0 : l0.length ≤ c0) (h : skylarklaw01_CodeCuts.f k l0 a1 = some r) :
    Calls Try.prog 7 #[.slice A0 l0.length c0, .int .i64 a1] w fun e w' => e = .returned (.bool r) ∧ Below w.heap.size w w' := by
  have hu28 := Try.underlying28
  have HR0 := Aside0.mk hr0
  have HC0 := Aside0.mk hc0
  clear hr0 hc0
  have HB := Aside0.mk (Below.refl w.heap.size w)
  have H : ((skylarklaw01_works.f k).bind fun t287 => (if t287 = true then ((code_Encode.f k l0).bind fun bt288 => (if bt288.2 = 0 then (if (l0.length : Int) > 60 then (skylarklaw01_CodeCuts.j0 k l0 a1 bt288.1 true) else (skylarklaw01_CodeCuts.j0 k l0 a1 bt288.1 (decide ((bt288.1.size : Int) > 20000)))) else (skylarklaw01_CodeCuts.j0 k l0 a1 bt288.1 true))) else (some false))) = some r := h
  clear h
  replace H := Option.bind_eq_some_iff.mp H
  obtain ⟨t287, A30, H⟩ := H
  replace H : (if t287 = true then ((code_Encode.f k l0).bind fun bt288 => (if bt288.2 = 0 then (if (l0.length : Int) > 60 then (skylarklaw01_CodeCuts.j0 k l0 a1 bt288.1 true) else (skylarklaw01_CodeCuts.j0 k l0 a1 bt288.1 (decide ((bt288.1.size : Int) > 20000)))) else (skylarklaw01_CodeCuts.j0 k l0 a1 bt288.1 true))) else (some false)) = some r := H
  have A3 := Aside0.mk A30
  clear A30
  by_cases c4 : t287 = true
  · subst c4
    have H1 : ((code_Encode.f k l0).bind fun bt288 => (if bt288.2 = 0 then (if (l0.length : Int) > 60 then (skylarklaw01_CodeCuts.j0 k l0 a1 bt288.1 true) else (skylarklaw01_CodeCuts.j0 k l0 a1 bt288.1 (decide ((bt288.1.size : Int) > 20000)))) else (skylarklaw01_CodeCuts.j0 k l0 a1 bt288.1 true))) = some r := by rw [if_pos rfl] at H; exact H
    clear H
    have H := H1
    clear H1
    replace H := Option.bind_eq_some_iff.mp H
    obtain ⟨⟨t288, t289⟩, A50, H⟩ := H
    replace H : (if t289 = 0 then (if (l0.length : Int) > 60 then (skylarklaw01_CodeCuts.j0 k l0 a1 t288 true) else (skylarklaw01_CodeCuts.j0 k l0 a1 t288 (decide ((t288.size : Int) > 20000)))) else (skylarklaw01_CodeCuts.j0 k l0 a1 t288 true)) = some r := H
    have A5 := Aside0.mk A50
    clear A50
    have HC6 := Aside0.mk H
    clear H
    go_enter Try.func7, Try.ntmps7
    go_upto_region 4 with (first | ((with_reducible refine gate_callee (f := 20) rfl ?_); refine goesL_ (some 14) rfl rfl Try.func20 (by kernel_rfl) rfl #[] rfl (by (try simp only [List.map_toArray, List.map_cons, List.map_nil]); first | done | rfl | (simp only [List.length_drop, List.length_take]; rfl)) ?_; (with_reducible refine (skylarklaw01_works.calls k  true _ A3.out).mono ?_); rintro e w7 ⟨rfl, hb⟩; refine ⟨_, rfl, ?_⟩; have n0_ := Aside0.mk (below_step (by repeat (first | (with_reducible first | exact HB.out | apply below_alloc | apply pw_below_drewN | apply below_drew1) | exact HB.out)) hb); clear HB; have HB := n0_; clear n0_; (try clear hb); (try clear hb2); (try clear hk); (try clear hi)) | ((with_reducible refine gate_callee (f := 13) rfl ?_); refine goesL_ (some 18) rfl rfl Try.func13 (by kernel_rfl) rfl #[.slice A0 l0.length c0] rfl (by (try simp only [List.map_toArray, List.map_cons, List.map_nil]); first | done | rfl | (simp only [List.length_drop, List.length_take]; rfl)) ?_; (with_reducible refine (code_Encode.calls k _ _ l0 t288 t289 _ ?side1 ?side2 A5.out).mono ?_); (case side1 => repeat (first | exact (Kd.C_below HR0.out HB.out) | (with_reducible refine Kd.C_alloc ?_ _) | (with_reducible refine Kd.C_drewN ?_ _) | (with_reducible refine Kd.C_drew ?_))); (case side2 => exact HC0.out); rintro e w8 ⟨rfl, hb⟩; refine ⟨_, rfl, ?_⟩; have n0_ := Aside0.mk (below_step (by repeat (first | (with_reducible first | exact HB.out | apply below_alloc | apply pw_below_drewN | apply below_drew1) | exact HB.out)) hb); clear HB; have HB := n0_; clear n0_; (try clear hb); (try clear hb2); (try clear hk); (try clear hi)))
    (try simp only [Act.put, List.setIfInBounds_toArray, List.set_cons_zero, List.set_cons_succ])
    go_cut [32] (fun v32 wc => ∃ (kq : Nat) (x32_5 : Bool), v32 = .bool x32_5 ∧ Aside0 (skylarklaw01_CodeCuts.j0 kq l0 a1 t288 x32_5 = some r) ∧ Aside0 (kq ≤ k) ∧ Aside0 (Below w.heap.size w wc))
    case first =>
      have H := HC6.out
      clear HC6
      by_cases c9 : t289 = 0
      · rw [if_pos c9] at H
        have c9b0 : (t289 == 0) = true := beq_iff_eq.mpr c9
        have c9b1 : (t289 != 0) = false := bne_eq_false_iff_eq.mpr c9
        clear c9
        (first | rw [c9b0] | (simp only [i64_w, i32_w]; rw [c9b0]) | skip)
        by_cases c10 : (l0.length : Int) > 60
        · rw [if_pos c10] at H
          have c10b0 : decide (60 < (l0.length : Int)) = true := decide_eq_true c10
          have c10b1 : decide (60 < l0.length) = true := decide_eq_true (by omega)
          clear c10
          have H' := Aside0.mk H
          clear H
          go_wp2
          go_meet
          case rel => exact ⟨_, (true), (by first | rfl | (simp; done) | (simp [*]; done)), H', ⟨by first | omega | exact Nat.le_refl _⟩, ⟨by repeat (first | (with_reducible first | exact HB.out | apply below_alloc | apply pw_below_drewN | apply below_drew1) | exact HB.out)⟩⟩
        · rw [if_neg c10] at H
          have c10b0 : decide (60 < (l0.length : Int)) = false := decide_eq_false c10
          have c10b1 : decide (60 < l0.length) = false := decide_eq_false (by omega)
          clear c10
          have H' := Aside0.mk H
          clear H
          go_wp2
          go_meet
          case rel => exact ⟨_, (decide ((t288.size : Int) > 20000)), (by first | rfl | (simp; done) | (simp [*]; done)), H', ⟨by first | omega | exact Nat.le_refl _⟩, ⟨by repeat (first | (with_reducible first | exact HB.out | apply below_alloc | apply pw_below_drewN | apply below_drew1) | exact HB.out)⟩⟩
      · rw [if_neg c9] at H
        have c9b0 : (t289 == 0) = false := beq_eq_false_iff_ne.mpr c9
        have c9b1 : (t289 != 0) = true := bne_iff_ne.mpr c9
        (first | rw [c9b0] | (simp only [i64_w, i32_w]; rw [c9b0]) | skip)
        have H' := Aside0.mk H
        clear H
        go_wp2
        go_meet
        case rel => exact ⟨_, (true), (by first | rfl | (simp; done) | (simp [*]; done)), H', ⟨by first | omega | exact Nat.le_refl _⟩, ⟨by repeat (first | (with_reducible first | exact HB.out | apply below_alloc | apply pw_below_drewN | apply below_drew1) | exact HB.out)⟩⟩
    case rest =>
      clear HC6
      try clear c1
      try clear c2
      try clear p2
      try clear c4
      try clear c7
      try clear c9
      try clear c9b0
      try clear c9b1
      try clear c10
      try clear c10b0
      try clear c10b1
      obtain ⟨kq, x32_5, rfl, HA, HJ5, HB⟩ := hcut
      cases kq with
      | zero => exact absurd HA.out (by simp [skylarklaw01_CodeCuts.j0])
      | succ kj5 =>
        have H := HA.out
        clear HA
        simp only [skylarklaw01_CodeCuts.j0] at H
        by_cases c11 : x32_5 = true
        · subst c11
          have H1 : (some true) = some r := by rw [if_pos rfl] at H; exact H
          clear H
          have H := H1
          clear H1
          obtain rfl := Option.some.inj H
          go_wp2
          go_ret
          exact ⟨by first | rfl | (simp [errW_none, errW_some] <;> rfl) | (simp [*, errW_none, errW_some] <;> rfl), by repeat (first | (with_reducible first | exact HB.out | apply below_alloc | apply pw_below_drewN | apply below_drew1) | exact HB.out)⟩
        · replace c11 := Bool.eq_false_iff.mpr c11
          subst c11
          have H1 : (if (IntKind.u64.wrap (wrap64 ((t288.size : Int) + 1))) = 0 then (none) else (if 0 ≤ (wrap64 (Int.tmod (IntKind.u64.wrap (a1)) (IntKind.u64.wrap (wrap64 ((t288.size : Int) + 1))))) then (if (wrap64 (Int.tmod (IntKind.u64.wrap (a1)) (IntKind.u64.wrap (wrap64 ((t288.size : Int) + 1))))) ≤ (t288.size : Int) then ((code_Decode.f kj5 (t288.extract 0 ((wrap64 (Int.tmod (IntKind.u64.wrap (a1)) (IntKind.u64.wrap (wrap64 ((t288.size : Int) + 1))))) : Int).toNat)).bind fun bt290 => (skylarklaw01_CodeCuts.l0 kj5 l0 (wrap64 (Int.tmod (IntKind.u64.wrap (a1)) (IntKind.u64.wrap (wrap64 ((t288.size : Int) + 1))))) bt290.1 0 0 bt290.2.1 bt290.2.2)) else (none)) else (none))) = some r := by rw [if_neg (show ¬ (false = true) by decide)] at H; exact H
          clear H
          have H := H1
          clear H1
          by_cases c12 : (IntKind.u64.wrap (wrap64 ((t288.size : Int) + 1))) = 0
          · rw [if_pos c12] at H
            exact absurd H (by simp)
          · rw [if_neg c12] at H
            have c12b0 : ((IntKind.u64.wrap (wrap64 ((t288.size : Int) + 1))) == 0) = false := beq_eq_false_iff_ne.mpr c12
            have c12b1 : ((IntKind.u64.wrap (wrap64 ((t288.size : Int) + 1))) != 0) = true := bne_iff_ne.mpr c12
            obtain ⟨ji13, hji13⟩ : ∃ j_ : Int, (wrap64 (Int.tmod (IntKind.u64.wrap (a1)) (IntKind.u64.wrap (wrap64 ((t288.size : Int) + 1))))) = j_ := ⟨_, rfl⟩
            replace H : (if 0 ≤ (ji13) then (if (ji13) ≤ (t288.size : Int) then ((code_Decode.f kj5 (t288.extract 0 ((ji13) : Int).toNat)).bind fun bt290 => (skylarklaw01_CodeCuts.l0 kj5 l0 ji13 bt290.1 0 0 bt290.2.1 bt290.2.2)) else (none)) else (none)) = some r := by first | (rw [hji13] at H; exact H) | (simp only [hji13] at H ⊢; exact H)
            have hji13w : (IntKind.i64.wrap (Int.tmod (IntKind.u64.wrap (a1)) (IntKind.u64.wrap (wrap64 ((t288.size : Int) + 1))))) = ji13 := (i64_w _).trans hji13
            by_cases c14 : 0 ≤ (ji13)
            · rw [if_pos c14] at H
              have c14b0 := eq_true c14
              have c14b1 : decide (0 ≤ (ji13)) = true := decide_eq_true c14
              clear c14
              by_cases c15 : (ji13) ≤ (t288.size : Int)
              · rw [if_pos c15] at H
                have c15b0 := eq_true c15
                have c15b1 : decide ((ji13) ≤ (t288.size : Int)) = true := decide_eq_true c15
                clear c15
                replace H := Option.bind_eq_some_iff.mp H
                obtain ⟨⟨t290, t293, t294⟩, A160, H⟩ := H
                replace H : (skylarklaw01_CodeCuts.l0 kj5 l0 ji13 t290 0 0 t293 t294) = some r := H
                have A16 := Aside0.mk A160
                clear A160
                have H' := Aside0.mk H
                clear H
                go_wp2_with (first | ((with_reducible refine gate_callee (f := 15) rfl ?_); refine goesL_ (some 45) rfl rfl Try.func15 (by kernel_rfl) rfl #[.string (t288.extract 0 ((ji13) : Int).toNat)] rfl (by (try simp only [List.map_toArray, List.map_cons, List.map_nil]); first | done | (simp only [hji13]; rfl) | rfl | (simp only [List.length_drop, List.length_take]; rfl)) ?_; (with_reducible refine (code_Decode.calls kj5 (t288.extract 0 ((ji13) : Int).toNat) t290 t293 t294 _ A16.out).mono ?_); rintro e w17 ⟨v291, rfl, ho0, hb⟩; refine ⟨_, rfl, ?_⟩; have n0_ := Aside0.mk (Kd.R_lower ho0 (below_size (by repeat (first | (with_reducible first | exact HB.out | apply below_alloc | apply pw_below_drewN | apply below_drew1) | exact HB.out)))); have n1_ := Aside0.mk (below_step (by repeat (first | (with_reducible first | exact HB.out | apply below_alloc | apply pw_below_drewN | apply below_drew1) | exact HB.out)) hb); clear HB; have HO292 := n0_; have HB := n1_; clear n0_ n1_; (try clear hb); (try clear hb2); (try clear hk); (try clear hi); (try clear ho0)) | ((with_reducible refine gate_dst (N := 9) rfl ?_); (try (refine gate_guard (by rfl) ?_; dsimp only)); refine box_event ?hg (N := 9) ?hd (cs := #[.int .i64 0, .int .i64 0]) (t := 28) ?hr ?_; (case hd => rfl); (case hg => rfl); (case hr => first | (go_simp; done) | (go_simp; rfl)); intro gb295 hg w18 hbox hb; have n0_ := Aside0.mk (Kd.R_below (by (with_reducible repeat (first | apply Kd.R_alloc | apply Kd.R_drewN | apply Kd.R_drew)); exact HO292.out) hb); have n1_ := Aside0.mk (below_step (by repeat (first | (with_reducible first | exact HB.out | apply below_alloc | apply pw_below_drewN | apply below_drew1) | exact HB.out)) hb); have n2_ := Aside0.mk (hbox); have n3_ := Aside0.mk ((by rw [hg]; exact (below_size (by repeat (first | (with_reducible first | exact HB.out | apply below_alloc | apply pw_below_drewN | apply below_drew1) | exact HB.out))) : w.heap.size ≤ gb295)); have n4_ := Aside0.mk ((by rw [hg]; exact (below_size (by repeat (first | (with_reducible first | exact HB.out | apply below_alloc | apply pw_below_drewN | apply below_drew1) | exact HB.out))) : w.heap.size ≤ gb295)); clear HO292; clear HB; have HO292 := n0_; have HB := n1_; have BK295 := n2_; have GW295 := n3_; have GE295 := n4_; clear n0_ n1_ n2_ n3_ n4_; clear hb hbox hg; have hcz19_0 : w18.cell? ⟨gb295, 0, none⟩ = some (.int .i64 0) := (blk_cell BK295.out 0).trans rfl; have hcz19_1 : w18.cell? ⟨gb295, 1, none⟩ = some (.int .i64 0) := (blk_cell BK295.out 1).trans rfl; have hfz19_0 := blk_frozen BK295.out 0; have hfz19_1 := blk_frozen BK295.out 1))
                go_loopg [10, 11] kj5 (fun kq v10 v11 w' => ∃ (x10_2 : Int) (x11_2 : Int), v10 = .int .i64 x10_2 ∧ v11 = .int .i64 x11_2 ∧ Aside0 (skylarklaw01_CodeCuts.l0 kq l0 ji13 t290 x10_2 x11_2 t293 t294 = some r) ∧ Aside0 (kq ≤ kj5) ∧ Aside0 (Kd.R k35 35 w' w.heap.size (fun _ => True) v291 t290) ∧ Aside0 (w'.heap[gb295]? = some (.cells #[.int .i64 t293, .int .i64 t294] 28 (0, 0))) ∧ Aside0 (Below w.heap.size w w'))
                case atStart => exact ⟨(0), (0), (by first | rfl | (simp; done) | (simp [*]; done)), (by first | rfl | (simp; done) | (simp [*]; done)), H', ⟨Nat.le_refl _⟩, ⟨by (with_reducible repeat (first | apply Kd.R_alloc | apply Kd.R_drewN | apply Kd.R_drew)); exact Kd.R_mono (Kd.R_far (p := ⟨gb295, 1, none⟩) (Kd.R_far (p := ⟨gb295, 0, none⟩) (Kd.R_types HO292.out BK295.out (by decide)) (fun _ hk => hk.2) (.int .i64 t293)) (fun _ hk => hk.2) (.int .i64 t294)) (fun _ hk => trivial)⟩, ⟨by (with_reducible repeat (first | refine blk_drewN ?_ _ | refine blk_drew ?_ | refine blk_alloc ?_ _)); refine blk_put (cs := #[.int .i64 t293, .int .i64 0]) ?_ 1 _ rfl; (with_reducible repeat (first | refine blk_drewN ?_ _ | refine blk_drew ?_ | refine blk_alloc ?_ _)); refine blk_put (cs := #[.int .i64 0, .int .i64 0]) ?_ 0 _ rfl; (with_reducible repeat (first | refine blk_drewN ?_ _ | refine blk_drew ?_ | refine blk_alloc ?_ _)); exact BK295.out⟩, ⟨by repeat (first | (with_reducible first | exact HB.out | apply below_alloc | apply pw_below_drewN | apply below_drew1 | refine below_set ?_ GE295.out) | exact HB.out)⟩⟩
                case round =>
                  clear H'
                  try clear c1
                  try clear c2
                  try clear p2
                  try clear c4
                  try clear p6
                  try clear c7
                  try clear c9
                  try clear c9b0
                  try clear c9b1
                  try clear c10
                  try clear c10b0
                  try clear c10b1
                  try clear c11
                  try clear c12
                  try clear c12b0
                  try clear c12b1
                  try clear c13
                  try clear c14
                  try clear c14b0
                  try clear c14b1
                  try clear c15
                  try clear c15b0
                  try clear c15b1
                  try clear hcz19_0
                  try clear hcz19_1
                  try clear hfz19_0
                  try clear hfz19_1
                  try clear p2
                  obtain ⟨x10_2, x11_2, rfl, rfl, HA, HK2, HO_8, BK295, HB⟩ := hrel
                  cases gk with
                  | zero => exact absurd HA.out (by simp [skylarklaw01_CodeCuts.l0])
                  | succ k2 =>
                    have H := HA.out
                    clear HA
                    simp only [skylarklaw01_CodeCuts.l0] at H
                    by_cases c20 : x10_2 < (l0.length : Int)
                    · rw [if_pos c20] at H
                      have c20b0 : decide (x10_2 < (l0.length : Int)) = true := decide_eq_true c20
                      clear c20
                      by_cases c21 : 0 ≤ x10_2
                      · rw [if_pos c21] at H
                        have c21b0 := eq_true c21
                        have c21b1 : decide (0 ≤ x10_2) = true := decide_eq_true c21
                        clear c21
                        by_cases c22 : x10_2 ≤ (wrap64 (x10_2 + 1))
                        · rw [if_pos c22] at H
                          have c22b0 := eq_true c22
                          have c22b1 : decide (x10_2 ≤ (wrap64 (x10_2 + 1))) = true := decide_eq_true c22
                          by_cases c23 : (wrap64 (x10_2 + 1)) ≤ (l0.length : Int)
                          · rw [if_pos c23] at H
                            have c23b0 := eq_true c23
                            have c23b1 : decide ((wrap64 (x10_2 + 1)) ≤ (l0.length : Int)) = true := decide_eq_true c23
                            obtain ⟨y296, hy296⟩ : ∃ y_ : List (S35), y_ = ((l0.take ((wrap64 (x10_2 + 1)) : Int).toNat).drop (x10_2 : Int).toNat) := ⟨_, rfl⟩
                            replace H : ((code_Encode.f k2 y296).bind fun bt300 => (if (wrap64 (x11_2 + (bt300.1.size : Int))) > ji13 then (if x11_2 = ji13 then (if (t293 == 0 && (t294 == 0)) = true then (if x10_2 ≤ (l0.length : Int) then ((skylarkbook_SameFields.f k2 t290 (l0.take (x10_2 : Int).toNat)).bind fun t306 => (some t306)) else (none)) else (some false)) else (if (t293 == x11_2 && (t294 == 11)) = true then (some ((t290.length : Int) == 0)) else (some false))) else (skylarklaw01_CodeCuts.l0 k2 l0 ji13 t290 (wrap64 (x10_2 + 1)) (wrap64 (x11_2 + (bt300.1.size : Int))) t293 t294))) = some r := by first | (rw [hy296]; with_reducible exact H) | (have H2_ := (Option.bind_some _ _).symm.trans H; rw [hy296]; with_reducible exact H2_) | (have H2_ := (Option.bind_some _ _).symm.trans H; with_reducible exact H2_) | with_reducible exact H | (rw [hy296]; exact H) | exact H
                            have Ny296 := Aside0.mk hy296
                            clear hy296
                            replace H := Option.bind_eq_some_iff.mp H
                            obtain ⟨⟨t300, t301⟩, A240, H⟩ := H
                            replace H : (if (wrap64 (x11_2 + (t300.size : Int))) > ji13 then (if x11_2 = ji13 then (if (t293 == 0 && (t294 == 0)) = true then (if x10_2 ≤ (l0.length : Int) then ((skylarkbook_SameFields.f k2 t290 (l0.take (x10_2 : Int).toNat)).bind fun t306 => (some t306)) else (none)) else (some false)) else (if (t293 == x11_2 && (t294 == 11)) = true then (some ((t290.length : Int) == 0)) else (some false))) else (skylarklaw01_CodeCuts.l0 k2 l0 ji13 t290 (wrap64 (x10_2 + 1)) (wrap64 (x11_2 + (t300.size : Int))) t293 t294)) = some r := H
                            have A24 := Aside0.mk A240
                            clear A240
                            by_cases c25 : (wrap64 (x11_2 + (t300.size : Int))) > ji13
                            · rw [if_pos c25] at H
                              have c25b0 : decide (ji13 < (wrap64 (x11_2 + (t300.size : Int)))) = true := decide_eq_true c25
                              clear c25
                              by_cases c26 : x11_2 = ji13
                              · rw [if_pos c26] at H
                                have c26b0 : (x11_2 == ji13) = true := beq_iff_eq.mpr c26
                                have c26b1 : (x11_2 != ji13) = false := bne_eq_false_iff_eq.mpr c26
                                clear c26
                                by_cases c27 : (t293 == 0 && (t294 == 0)) = true
                                · rw [if_pos c27] at H
                                  have c27b0 : (t293 == 0 && (t294 == 0)) = true := c27
                                  (try (have c27b1 : decide (t293 = 0 && (t294 == 0)) = true := by simpa using c27))
                                  (try (have c27b2 : (t293 == 0 && (t294 == 0)) = true := by simpa using c27))
                                  clear c27
                                  have c28b0 := eq_true (of_decide_eq_true (by first | (with_reducible assumption) | assumption) : 0 ≤ x10_2)
                                  by_cases c29 : x10_2 ≤ (l0.length : Int)
                                  · rw [if_pos c29] at H
                                    have c29b0 := eq_true c29
                                    have c29b1 : decide (x10_2 ≤ (l0.length : Int)) = true := decide_eq_true c29
                                    clear c29
                                    obtain ⟨y302, hy302⟩ : ∃ y_ : List (S35), y_ = (l0.take (x10_2 : Int).toNat) := ⟨_, rfl⟩
                                    replace H : ((skylarkbook_SameFields.f k2 t290 y302).bind fun t306 => (some t306)) = some r := by first | (rw [hy302]; with_reducible exact H) | (have H2_ := (Option.bind_some _ _).symm.trans H; rw [hy302]; with_reducible exact H2_) | (have H2_ := (Option.bind_some _ _).symm.trans H; with_reducible exact H2_) | with_reducible exact H | (rw [hy302]; exact H) | exact H
                                    have Ny302 := Aside0.mk hy302
                                    clear hy302
                                    replace H := Option.bind_eq_some_iff.mp H
                                    obtain ⟨t306, A300, H⟩ := H
                                    replace H : (some t306) = some r := H
                                    have A30 := Aside0.mk A300
                                    clear A300
                                    obtain rfl := Option.some.inj H
                                    have q31 : ((wrap64 (x10_2 + 1)) : Int) ≤ ((l0.length : Int) : Int) := of_decide_eq_true (by first | (with_reducible assumption) | assumption)
                                    obtain ⟨i031, hi031, _, hsz31, _⟩ := info_parts info35
                                    have hroom31 : l0.length ≤ c0 := HC0.out
                                    have hC31 : Kd.C k35 _ A0 l0.length l0 := HR0.out
                                    have ql31 : (x10_2 : Int) ≤ ((wrap64 (x10_2 + 1)) : Int) := of_decide_eq_true (by first | (with_reducible assumption) | assumption)
                                    have q031 : (0 : Int) ≤ (x10_2 : Int) := of_decide_eq_true (by first | (with_reducible assumption) | assumption)
                                    have hcut31 := cut_mid (P := Try.prog) 22 35 .i64 .i64 Try.underlying22 hi031 3 hsz31 A0 l0.length c0 x10_2 (wrap64 (x10_2 + 1)) q031 ql31 q31 hroom31
                                    have hr31 := Kd.C_mid (lo := (x10_2 : Int).toNat) (hi := ((wrap64 (x10_2 + 1)) : Int).toNat) (c := c0) hC31 (by omega) (by omega) hroom31
                                    obtain ⟨A31, hA31⟩ : ∃ A1, A1 = (if c0 = (x10_2 : Int).toNat then A0 else (A0 : Option Addr).map (·.add ((x10_2 : Int).toNat * 3))) := ⟨_, rfl⟩
                                    obtain ⟨c31, hc31⟩ : ∃ c1, c1 = c0 - (x10_2 : Int).toNat := ⟨_, rfl⟩
                                    have hy31 : y296.length = ((wrap64 (x10_2 + 1)) : Int).toNat - (x10_2 : Int).toNat := (by rw [Ny296.out, List.length_drop, List.length_take] <;> omega)
                                    rw [show ((l0).take ((wrap64 (x10_2 + 1)) : Int).toNat).drop (x10_2 : Int).toNat = y296 from Ny296.out.symm] at hr31
                                    replace hr31 : Kd.C k35 _ A31 y296.length y296 := (by rw [hA31]; exact hr31)
                                    rw [← hy31, ← hA31, ← hc31] at hcut31
                                    have HR299 := Aside0.mk hr31
                                    have HC299 := Aside0.mk (show y296.length ≤ c31 from by rw [hy31, hc31]; exact Nat.sub_le_sub_right (Nat.le_trans (by omega) hroom31) _)
                                    clear hr31 hC31 hroom31 hi031 hsz31 hc31
                                    have KY31 := Aside0.mk hy31
                                    have KA31 := Aside0.mk hA31
                                    clear hy31 hA31
                                    replace q31 := eq_true q31
                                    go_wp2_with (first | ((with_reducible refine gate_callee (f := 13) rfl ?_); refine goesL_ (some 58) rfl rfl Try.func13 (by kernel_rfl) rfl #[.slice A31 y296.length c31] rfl (by (try simp only [List.map_toArray, List.map_cons, List.map_nil]); first | done | rfl | (simp only [List.length_drop, List.length_take]; rfl)) ?_; (with_reducible refine (code_Encode.calls k2 _ _ y296 t300 t301 _ ?side1 ?side2 A24.out).mono ?_); (case side1 => repeat (first | exact (Kd.C_below HR299.out HB.out) | (with_reducible refine Kd.C_alloc ?_ _) | (with_reducible refine Kd.C_drewN ?_ _) | (with_reducible refine Kd.C_drew ?_))); (case side2 => exact HC299.out); rintro e w32 ⟨rfl, hb⟩; refine ⟨_, rfl, ?_⟩; have n0_ := Aside0.mk (Kd.R_below (by (with_reducible repeat (first | apply Kd.R_alloc | apply Kd.R_drewN | apply Kd.R_drew)); exact HO_8.out) hb); have n1_ := Aside0.mk (blk_below (g := gb295) (o := .cells #[.int .i64 t293, .int .i64 t294] 28 (0, 0)) (by (with_reducible repeat (first | refine blk_drewN ?_ _ | refine blk_drew ?_ | refine blk_alloc ?_ _)); exact BK295.out) hb); have n2_ := Aside0.mk (below_step (by repeat (first | (with_reducible first | exact HB.out | apply below_alloc | apply pw_below_drewN | apply below_drew1 | refine below_set ?_ GE295.out) | exact HB.out)) hb); clear HO_8; clear BK295; clear HB; have HO_8 := n0_; have BK295 := n1_; have HB := n2_; clear n0_ n1_ n2_; (try clear hb); (try clear hb2); (try clear hk); (try clear hi); have hcz33_0 : w32.cell? ⟨gb295, 0, none⟩ = some (.int .i64 t293) := (blk_cell BK295.out 0).trans rfl; have hcz33_1 : w32.cell? ⟨gb295, 1, none⟩ = some (.int .i64 t294) := (blk_cell BK295.out 1).trans rfl; have hfz33_0 := blk_frozen BK295.out 0; have hfz33_1 := blk_frozen BK295.out 1; have q34 : (x10_2 : Int) ≤ ((l0.length : Int) : Int) := of_decide_eq_true (by first | (with_reducible assumption) | assumption); obtain ⟨i034, hi034, _, hsz34, _⟩ := info_parts info35; have hroom34 : l0.length ≤ c0 := HC0.out; have hC34 : Kd.C k35 _ A0 l0.length l0 := HR0.out; have hcut34 := cut_to (P := Try.prog) 22 35 .i64 Try.underlying22 hi034 A0 l0.length c0 x10_2 (of_decide_eq_true (by first | (with_reducible assumption) | assumption)) q34 hroom34; have hr34 := Kd.C_take (m := (x10_2 : Int).toNat) hC34 (by omega); have hy34 : y302.length = (x10_2 : Int).toNat := (by rw [Ny302.out, List.length_take]; omega); rw [← Ny302.out] at hr34; rw [← hy34] at hcut34; have HR305 := Aside0.mk hr34; have HC305 := Aside0.mk (show y302.length ≤ c0 from by omega); clear hr34 hC34 hroom34 hi034 hsz34; have KY34 := Aside0.mk hy34; clear hy34; replace q34 := eq_true q34; obtain ⟨Ao35, co35, eo35⟩ := Kd.R_slice HO_8.out; subst eo35) | (go_at_call 18; (with_reducible refine (skylarkbook_SameFields.calls k2 _ _ t290 _ _ y302 t306 _ ?side1 ?side2 ?side3 ?side4 A30.out).mono ?_); (case side1 => repeat (first | exact (Kd.R_reads' HO_8.out).2.2 | (with_reducible refine Kd.C_alloc ?_ _) | (with_reducible refine Kd.C_drewN ?_ _) | (with_reducible refine Kd.C_drew ?_))); (case side2 => exact (Kd.R_reads' HO_8.out).2.1); (case side3 => repeat (first | exact (Kd.C_below HR305.out HB.out) | (with_reducible refine Kd.C_alloc ?_ _) | (with_reducible refine Kd.C_drewN ?_ _) | (with_reducible refine Kd.C_drew ?_))); (case side4 => exact HC305.out); rintro e w' ⟨rfl, ⟨nd, rfl⟩⟩))
                                    go_ret
                                    exact ⟨by first | rfl | (simp [errW_none, errW_some] <;> rfl) | (simp only [← hji13]; first | rfl | (simp [errW_none, errW_some] <;> rfl)) | (simp [*, errW_none, errW_some] <;> rfl), by repeat (first | (with_reducible first | exact HB.out | apply below_alloc | apply pw_below_drewN | apply below_drew1 | refine below_set ?_ GE295.out) | exact HB.out)⟩
                                  · rw [if_neg c29] at H
                                    exact absurd H (by simp)
                                · rw [if_neg c27] at H
                                  have c27b0 : (t293 == 0 && (t294 == 0)) = false := by simpa using c27
                                  (try (have c27b1 : decide (t293 = 0 && (t294 == 0)) = false := by simpa using c27))
                                  (try (have c27b2 : (t293 == 0 && (t294 == 0)) = false := by simpa using c27))
                                  (try (have c27b3 : ¬ (t293 = 0 && (t294 == 0)) := by simpa using c27))
                                  clear c27
                                  obtain rfl := Option.some.inj H
                                  have q36 : ((wrap64 (x10_2 + 1)) : Int) ≤ ((l0.length : Int) : Int) := of_decide_eq_true (by first | (with_reducible assumption) | assumption)
                                  obtain ⟨i036, hi036, _, hsz36, _⟩ := info_parts info35
                                  have hroom36 : l0.length ≤ c0 := HC0.out
                                  have hC36 : Kd.C k35 _ A0 l0.length l0 := HR0.out
                                  have ql36 : (x10_2 : Int) ≤ ((wrap64 (x10_2 + 1)) : Int) := of_decide_eq_true (by first | (with_reducible assumption) | assumption)
                                  have q036 : (0 : Int) ≤ (x10_2 : Int) := of_decide_eq_true (by first | (with_reducible assumption) | assumption)
                                  have hcut36 := cut_mid (P := Try.prog) 22 35 .i64 .i64 Try.underlying22 hi036 3 hsz36 A0 l0.length c0 x10_2 (wrap64 (x10_2 + 1)) q036 ql36 q36 hroom36
                                  have hr36 := Kd.C_mid (lo := (x10_2 : Int).toNat) (hi := ((wrap64 (x10_2 + 1)) : Int).toNat) (c := c0) hC36 (by omega) (by omega) hroom36
                                  obtain ⟨A36, hA36⟩ : ∃ A1, A1 = (if c0 = (x10_2 : Int).toNat then A0 else (A0 : Option Addr).map (·.add ((x10_2 : Int).toNat * 3))) := ⟨_, rfl⟩
                                  obtain ⟨c36, hc36⟩ : ∃ c1, c1 = c0 - (x10_2 : Int).toNat := ⟨_, rfl⟩
                                  have hy36 : y296.length = ((wrap64 (x10_2 + 1)) : Int).toNat - (x10_2 : Int).toNat := (by rw [Ny296.out, List.length_drop, List.length_take] <;> omega)
                                  rw [show ((l0).take ((wrap64 (x10_2 + 1)) : Int).toNat).drop (x10_2 : Int).toNat = y296 from Ny296.out.symm] at hr36
                                  replace hr36 : Kd.C k35 _ A36 y296.length y296 := (by rw [hA36]; exact hr36)
                                  rw [← hy36, ← hA36, ← hc36] at hcut36
                                  have HR299 := Aside0.mk hr36
                                  have HC299 := Aside0.mk (show y296.length ≤ c36 from by rw [hy36, hc36]; exact Nat.sub_le_sub_right (Nat.le_trans (by omega) hroom36) _)
                                  clear hr36 hC36 hroom36 hi036 hsz36 hc36
                                  have KY36 := Aside0.mk hy36
                                  have KA36 := Aside0.mk hA36
                                  clear hy36 hA36
                                  replace q36 := eq_true q36
                                  go_wp2_with (first | ((with_reducible refine gate_callee (f := 13) rfl ?_); refine goesL_ (some 58) rfl rfl Try.func13 (by kernel_rfl) rfl #[.slice A36 y296.length c36] rfl (by (try simp only [List.map_toArray, List.map_cons, List.map_nil]); first | done | rfl | (simp only [List.length_drop, List.length_take]; rfl)) ?_; (with_reducible refine (code_Encode.calls k2 _ _ y296 t300 t301 _ ?side1 ?side2 A24.out).mono ?_); (case side1 => repeat (first | exact (Kd.C_below HR299.out HB.out) | (with_reducible refine Kd.C_alloc ?_ _) | (with_reducible refine Kd.C_drewN ?_ _) | (with_reducible refine Kd.C_drew ?_))); (case side2 => exact HC299.out); rintro e w37 ⟨rfl, hb⟩; refine ⟨_, rfl, ?_⟩; have n0_ := Aside0.mk (Kd.R_below (by (with_reducible repeat (first | apply Kd.R_alloc | apply Kd.R_drewN | apply Kd.R_drew)); exact HO_8.out) hb); have n1_ := Aside0.mk (blk_below (g := gb295) (o := .cells #[.int .i64 t293, .int .i64 t294] 28 (0, 0)) (by (with_reducible repeat (first | refine blk_drewN ?_ _ | refine blk_drew ?_ | refine blk_alloc ?_ _)); exact BK295.out) hb); have n2_ := Aside0.mk (below_step (by repeat (first | (with_reducible first | exact HB.out | apply below_alloc | apply pw_below_drewN | apply below_drew1 | refine below_set ?_ GE295.out) | exact HB.out)) hb); clear HO_8; clear BK295; clear HB; have HO_8 := n0_; have BK295 := n1_; have HB := n2_; clear n0_ n1_ n2_; (try clear hb); (try clear hb2); (try clear hk); (try clear hi); have hcz38_0 : w37.cell? ⟨gb295, 0, none⟩ = some (.int .i64 t293) := (blk_cell BK295.out 0).trans rfl; have hcz38_1 : w37.cell? ⟨gb295, 1, none⟩ = some (.int .i64 t294) := (blk_cell BK295.out 1).trans rfl; have hfz38_0 := blk_frozen BK295.out 0; have hfz38_1 := blk_frozen BK295.out 1))
                                  go_ret
                                  exact ⟨by first | rfl | (simp [errW_none, errW_some] <;> rfl) | (simp only [← hji13]; first | rfl | (simp [errW_none, errW_some] <;> rfl)) | (simp [*, errW_none, errW_some] <;> rfl), by repeat (first | (with_reducible first | exact HB.out | apply below_alloc | apply pw_below_drewN | apply below_drew1 | refine below_set ?_ GE295.out) | exact HB.out)⟩
                              · rw [if_neg c26] at H
                                have c26b0 : (x11_2 == ji13) = false := beq_eq_false_iff_ne.mpr c26
                                have c26b1 : (x11_2 != ji13) = true := bne_iff_ne.mpr c26
                                by_cases c39 : (t293 == x11_2 && (t294 == 11)) = true
                                · rw [if_pos c39] at H
                                  have c39b0 : (t293 == x11_2 && (t294 == 11)) = true := c39
                                  (try (have c39b1 : decide (t293 = x11_2 && (t294 == 11)) = true := by simpa using c39))
                                  (try (have c39b2 : (t293 == x11_2 && (t294 == 11)) = true := by simpa using c39))
                                  clear c39
                                  obtain rfl := Option.some.inj H
                                  have q40 : ((wrap64 (x10_2 + 1)) : Int) ≤ ((l0.length : Int) : Int) := of_decide_eq_true (by first | (with_reducible assumption) | assumption)
                                  obtain ⟨i040, hi040, _, hsz40, _⟩ := info_parts info35
                                  have hroom40 : l0.length ≤ c0 := HC0.out
                                  have hC40 : Kd.C k35 _ A0 l0.length l0 := HR0.out
                                  have ql40 : (x10_2 : Int) ≤ ((wrap64 (x10_2 + 1)) : Int) := of_decide_eq_true (by first | (with_reducible assumption) | assumption)
                                  have q040 : (0 : Int) ≤ (x10_2 : Int) := of_decide_eq_true (by first | (with_reducible assumption) | assumption)
                                  have hcut40 := cut_mid (P := Try.prog) 22 35 .i64 .i64 Try.underlying22 hi040 3 hsz40 A0 l0.length c0 x10_2 (wrap64 (x10_2 + 1)) q040 ql40 q40 hroom40
                                  have hr40 := Kd.C_mid (lo := (x10_2 : Int).toNat) (hi := ((wrap64 (x10_2 + 1)) : Int).toNat) (c := c0) hC40 (by omega) (by omega) hroom40
                                  obtain ⟨A40, hA40⟩ : ∃ A1, A1 = (if c0 = (x10_2 : Int).toNat then A0 else (A0 : Option Addr).map (·.add ((x10_2 : Int).toNat * 3))) := ⟨_, rfl⟩
                                  obtain ⟨c40, hc40⟩ : ∃ c1, c1 = c0 - (x10_2 : Int).toNat := ⟨_, rfl⟩
                                  have hy40 : y296.length = ((wrap64 (x10_2 + 1)) : Int).toNat - (x10_2 : Int).toNat := (by rw [Ny296.out, List.length_drop, List.length_take] <;> omega)
                                  rw [show ((l0).take ((wrap64 (x10_2 + 1)) : Int).toNat).drop (x10_2 : Int).toNat = y296 from Ny296.out.symm] at hr40
                                  replace hr40 : Kd.C k35 _ A40 y296.length y296 := (by rw [hA40]; exact hr40)
                                  rw [← hy40, ← hA40, ← hc40] at hcut40
                                  have HR299 := Aside0.mk hr40
                                  have HC299 := Aside0.mk (show y296.length ≤ c40 from by rw [hy40, hc40]; exact Nat.sub_le_sub_right (Nat.le_trans (by omega) hroom40) _)
                                  clear hr40 hC40 hroom40 hi040 hsz40 hc40
                                  have KY40 := Aside0.mk hy40
                                  have KA40 := Aside0.mk hA40
                                  clear hy40 hA40
                                  replace q40 := eq_true q40
                                  go_wp2_with (first | ((with_reducible refine gate_callee (f := 13) rfl ?_); refine goesL_ (some 58) rfl rfl Try.func13 (by kernel_rfl) rfl #[.slice A40 y296.length c40] rfl (by (try simp only [List.map_toArray, List.map_cons, List.map_nil]); first | done | rfl | (simp only [List.length_drop, List.length_take]; rfl)) ?_; (with_reducible refine (code_Encode.calls k2 _ _ y296 t300 t301 _ ?side1 ?side2 A24.out).mono ?_); (case side1 => repeat (first | exact (Kd.C_below HR299.out HB.out) | (with_reducible refine Kd.C_alloc ?_ _) | (with_reducible refine Kd.C_drewN ?_ _) | (with_reducible refine Kd.C_drew ?_))); (case side2 => exact HC299.out); rintro e w41 ⟨rfl, hb⟩; refine ⟨_, rfl, ?_⟩; have n0_ := Aside0.mk (Kd.R_below (by (with_reducible repeat (first | apply Kd.R_alloc | apply Kd.R_drewN | apply Kd.R_drew)); exact HO_8.out) hb); have n1_ := Aside0.mk (blk_below (g := gb295) (o := .cells #[.int .i64 t293, .int .i64 t294] 28 (0, 0)) (by (with_reducible repeat (first | refine blk_drewN ?_ _ | refine blk_drew ?_ | refine blk_alloc ?_ _)); exact BK295.out) hb); have n2_ := Aside0.mk (below_step (by repeat (first | (with_reducible first | exact HB.out | apply below_alloc | apply pw_below_drewN | apply below_drew1 | refine below_set ?_ GE295.out) | exact HB.out)) hb); clear HO_8; clear BK295; clear HB; have HO_8 := n0_; have BK295 := n1_; have HB := n2_; clear n0_ n1_ n2_; (try clear hb); (try clear hb2); (try clear hk); (try clear hi); have hcz42_0 : w41.cell? ⟨gb295, 0, none⟩ = some (.int .i64 t293) := (blk_cell BK295.out 0).trans rfl; have hcz42_1 : w41.cell? ⟨gb295, 1, none⟩ = some (.int .i64 t294) := (blk_cell BK295.out 1).trans rfl; have hfz42_0 := blk_frozen BK295.out 0; have hfz42_1 := blk_frozen BK295.out 1; obtain ⟨Ao43, co43, eo43⟩ := Kd.R_slice HO_8.out; subst eo43))
                                  go_ret
                                  exact ⟨by first | rfl | (simp [errW_none, errW_some] <;> rfl) | (simp only [← hji13]; first | rfl | (simp [errW_none, errW_some] <;> rfl)) | (simp [*, errW_none, errW_some] <;> rfl), by repeat (first | (with_reducible first | exact HB.out | apply below_alloc | apply pw_below_drewN | apply below_drew1 | refine below_set ?_ GE295.out) | exact HB.out)⟩
                                · rw [if_neg c39] at H
                                  have c39b0 : (t293 == x11_2 && (t294 == 11)) = false := by simpa using c39
                                  (try (have c39b1 : decide (t293 = x11_2 && (t294 == 11)) = false := by simpa using c39))
                                  (try (have c39b2 : (t293 == x11_2 && (t294 == 11)) = false := by simpa using c39))
                                  (try (have c39b3 : ¬ (t293 = x11_2 && (t294 == 11)) := by simpa using c39))
                                  clear c39
                                  obtain rfl := Option.some.inj H
                                  have q44 : ((wrap64 (x10_2 + 1)) : Int) ≤ ((l0.length : Int) : Int) := of_decide_eq_true (by first | (with_reducible assumption) | assumption)
                                  obtain ⟨i044, hi044, _, hsz44, _⟩ := info_parts info35
                                  have hroom44 : l0.length ≤ c0 := HC0.out
                                  have hC44 : Kd.C k35 _ A0 l0.length l0 := HR0.out
                                  have ql44 : (x10_2 : Int) ≤ ((wrap64 (x10_2 + 1)) : Int) := of_decide_eq_true (by first | (with_reducible assumption) | assumption)
                                  have q044 : (0 : Int) ≤ (x10_2 : Int) := of_decide_eq_true (by first | (with_reducible assumption) | assumption)
                                  have hcut44 := cut_mid (P := Try.prog) 22 35 .i64 .i64 Try.underlying22 hi044 3 hsz44 A0 l0.length c0 x10_2 (wrap64 (x10_2 + 1)) q044 ql44 q44 hroom44
                                  have hr44 := Kd.C_mid (lo := (x10_2 : Int).toNat) (hi := ((wrap64 (x10_2 + 1)) : Int).toNat) (c := c0) hC44 (by omega) (by omega) hroom44
                                  obtain ⟨A44, hA44⟩ : ∃ A1, A1 = (if c0 = (x10_2 : Int).toNat then A0 else (A0 : Option Addr).map (·.add ((x10_2 : Int).toNat * 3))) := ⟨_, rfl⟩
                                  obtain ⟨c44, hc44⟩ : ∃ c1, c1 = c0 - (x10_2 : Int).toNat := ⟨_, rfl⟩
                                  have hy44 : y296.length = ((wrap64 (x10_2 + 1)) : Int).toNat - (x10_2 : Int).toNat := (by rw [Ny296.out, List.length_drop, List.length_take] <;> omega)
                                  rw [show ((l0).take ((wrap64 (x10_2 + 1)) : Int).toNat).drop (x10_2 : Int).toNat = y296 from Ny296.out.symm] at hr44
                                  replace hr44 : Kd.C k35 _ A44 y296.length y296 := (by rw [hA44]; exact hr44)
                                  rw [← hy44, ← hA44, ← hc44] at hcut44
                                  have HR299 := Aside0.mk hr44
                                  have HC299 := Aside0.mk (show y296.length ≤ c44 from by rw [hy44, hc44]; exact Nat.sub_le_sub_right (Nat.le_trans (by omega) hroom44) _)
                                  clear hr44 hC44 hroom44 hi044 hsz44 hc44
                                  have KY44 := Aside0.mk hy44
                                  have KA44 := Aside0.mk hA44
                                  clear hy44 hA44
                                  replace q44 := eq_true q44
                                  go_wp2_with (first | ((with_reducible refine gate_callee (f := 13) rfl ?_); refine goesL_ (some 58) rfl rfl Try.func13 (by kernel_rfl) rfl #[.slice A44 y296.length c44] rfl (by (try simp only [List.map_toArray, List.map_cons, List.map_nil]); first | done | rfl | (simp only [List.length_drop, List.length_take]; rfl)) ?_; (with_reducible refine (code_Encode.calls k2 _ _ y296 t300 t301 _ ?side1 ?side2 A24.out).mono ?_); (case side1 => repeat (first | exact (Kd.C_below HR299.out HB.out) | (with_reducible refine Kd.C_alloc ?_ _) | (with_reducible refine Kd.C_drewN ?_ _) | (with_reducible refine Kd.C_drew ?_))); (case side2 => exact HC299.out); rintro e w45 ⟨rfl, hb⟩; refine ⟨_, rfl, ?_⟩; have n0_ := Aside0.mk (Kd.R_below (by (with_reducible repeat (first | apply Kd.R_alloc | apply Kd.R_drewN | apply Kd.R_drew)); exact HO_8.out) hb); have n1_ := Aside0.mk (blk_below (g := gb295) (o := .cells #[.int .i64 t293, .int .i64 t294] 28 (0, 0)) (by (with_reducible repeat (first | refine blk_drewN ?_ _ | refine blk_drew ?_ | refine blk_alloc ?_ _)); exact BK295.out) hb); have n2_ := Aside0.mk (below_step (by repeat (first | (with_reducible first | exact HB.out | apply below_alloc | apply pw_below_drewN | apply below_drew1 | refine below_set ?_ GE295.out) | exact HB.out)) hb); clear HO_8; clear BK295; clear HB; have HO_8 := n0_; have BK295 := n1_; have HB := n2_; clear n0_ n1_ n2_; (try clear hb); (try clear hb2); (try clear hk); (try clear hi); have hcz46_0 : w45.cell? ⟨gb295, 0, none⟩ = some (.int .i64 t293) := (blk_cell BK295.out 0).trans rfl; have hcz46_1 : w45.cell? ⟨gb295, 1, none⟩ = some (.int .i64 t294) := (blk_cell BK295.out 1).trans rfl; have hfz46_0 := blk_frozen BK295.out 0; have hfz46_1 := blk_frozen BK295.out 1))
                                  go_ret
                                  exact ⟨by first | rfl | (simp [errW_none, errW_some] <;> rfl) | (simp only [← hji13]; first | rfl | (simp [errW_none, errW_some] <;> rfl)) | (simp [*, errW_none, errW_some] <;> rfl), by repeat (first | (with_reducible first | exact HB.out | apply below_alloc | apply pw_below_drewN | apply below_drew1 | refine below_set ?_ GE295.out) | exact HB.out)⟩
                            · rw [if_neg c25] at H
                              have c25b0 : decide (ji13 < (wrap64 (x11_2 + (t300.size : Int)))) = false := decide_eq_false c25
                              clear c25
                              have H' := Aside0.mk H
                              clear H
                              have q47 : ((wrap64 (x10_2 + 1)) : Int) ≤ ((l0.length : Int) : Int) := of_decide_eq_true (by first | (with_reducible assumption) | assumption)
                              obtain ⟨i047, hi047, _, hsz47, _⟩ := info_parts info35
                              have hroom47 : l0.length ≤ c0 := HC0.out
                              have hC47 : Kd.C k35 _ A0 l0.length l0 := HR0.out
                              have ql47 : (x10_2 : Int) ≤ ((wrap64 (x10_2 + 1)) : Int) := of_decide_eq_true (by first | (with_reducible assumption) | assumption)
                              have q047 : (0 : Int) ≤ (x10_2 : Int) := of_decide_eq_true (by first | (with_reducible assumption) | assumption)
                              have hcut47 := cut_mid (P := Try.prog) 22 35 .i64 .i64 Try.underlying22 hi047 3 hsz47 A0 l0.length c0 x10_2 (wrap64 (x10_2 + 1)) q047 ql47 q47 hroom47
                              have hr47 := Kd.C_mid (lo := (x10_2 : Int).toNat) (hi := ((wrap64 (x10_2 + 1)) : Int).toNat) (c := c0) hC47 (by omega) (by omega) hroom47
                              obtain ⟨A47, hA47⟩ : ∃ A1, A1 = (if c0 = (x10_2 : Int).toNat then A0 else (A0 : Option Addr).map (·.add ((x10_2 : Int).toNat * 3))) := ⟨_, rfl⟩
                              obtain ⟨c47, hc47⟩ : ∃ c1, c1 = c0 - (x10_2 : Int).toNat := ⟨_, rfl⟩
                              have hy47 : y296.length = ((wrap64 (x10_2 + 1)) : Int).toNat - (x10_2 : Int).toNat := (by rw [Ny296.out, List.length_drop, List.length_take] <;> omega)
                              rw [show ((l0).take ((wrap64 (x10_2 + 1)) : Int).toNat).drop (x10_2 : Int).toNat = y296 from Ny296.out.symm] at hr47
                              replace hr47 : Kd.C k35 _ A47 y296.length y296 := (by rw [hA47]; exact hr47)
                              rw [← hy47, ← hA47, ← hc47] at hcut47
                              have HR299 := Aside0.mk hr47
                              have HC299 := Aside0.mk (show y296.length ≤ c47 from by rw [hy47, hc47]; exact Nat.sub_le_sub_right (Nat.le_trans (by omega) hroom47) _)
                              clear hr47 hC47 hroom47 hi047 hsz47 hc47
                              have KY47 := Aside0.mk hy47
                              have KA47 := Aside0.mk hA47
                              clear hy47 hA47
                              replace q47 := eq_true q47
                              go_wp2_with (first | ((with_reducible refine gate_callee (f := 13) rfl ?_); refine goesL_ (some 58) rfl rfl Try.func13 (by kernel_rfl) rfl #[.slice A47 y296.length c47] rfl (by (try simp only [List.map_toArray, List.map_cons, List.map_nil]); first | done | rfl | (simp only [List.length_drop, List.length_take]; rfl)) ?_; (with_reducible refine (code_Encode.calls k2 _ _ y296 t300 t301 _ ?side1 ?side2 A24.out).mono ?_); (case side1 => repeat (first | exact (Kd.C_below HR299.out HB.out) | (with_reducible refine Kd.C_alloc ?_ _) | (with_reducible refine Kd.C_drewN ?_ _) | (with_reducible refine Kd.C_drew ?_))); (case side2 => exact HC299.out); rintro e w48 ⟨rfl, hb⟩; refine ⟨_, rfl, ?_⟩; have n0_ := Aside0.mk (Kd.R_below (by (with_reducible repeat (first | apply Kd.R_alloc | apply Kd.R_drewN | apply Kd.R_drew)); exact HO_8.out) hb); have n1_ := Aside0.mk (blk_below (g := gb295) (o := .cells #[.int .i64 t293, .int .i64 t294] 28 (0, 0)) (by (with_reducible repeat (first | refine blk_drewN ?_ _ | refine blk_drew ?_ | refine blk_alloc ?_ _)); exact BK295.out) hb); have n2_ := Aside0.mk (below_step (by repeat (first | (with_reducible first | exact HB.out | apply below_alloc | apply pw_below_drewN | apply below_drew1 | refine below_set ?_ GE295.out) | exact HB.out)) hb); clear HO_8; clear BK295; clear HB; have HO_8 := n0_; have BK295 := n1_; have HB := n2_; clear n0_ n1_ n2_; (try clear hb); (try clear hb2); (try clear hk); (try clear hi)))
                              go_roundg k2
                              case measure => have := HJ5.out; have := HK2.out; omega
                              case rel => exact ⟨(wrap64 (x10_2 + 1)), (wrap64 (x11_2 + (t300.size : Int))), (by first | rfl | (simp; done) | (simp [*]; done)), (by first | rfl | (simp; done) | (simp [*]; done)), H', ⟨by have := HJ5.out; have := HK2.out; omega⟩, ⟨by (with_reducible repeat (first | apply Kd.R_alloc | apply Kd.R_drewN | apply Kd.R_drew)); exact HO_8.out⟩, ⟨by (with_reducible repeat (first | refine blk_drewN ?_ _ | refine blk_drew ?_ | refine blk_alloc ?_ _)); exact BK295.out⟩, ⟨by repeat (first | (with_reducible first | exact HB.out | apply below_alloc | apply pw_below_drewN | apply below_drew1 | refine below_set ?_ GE295.out) | exact HB.out)⟩⟩
                          · rw [if_neg c23] at H
                            exact absurd H (by simp)
                        · rw [if_neg c22] at H
                          exact absurd H (by simp)
                      · rw [if_neg c21] at H
                        exact absurd H (by simp)
                    · rw [if_neg c20] at H
                      have c20b0 : decide (x10_2 < (l0.length : Int)) = false := decide_eq_false c20
                      clear c20
                      by_cases c49 : x11_2 = ji13
                      · rw [if_pos c49] at H
                        have c49b0 : (x11_2 == ji13) = true := beq_iff_eq.mpr c49
                        have c49b1 : (x11_2 != ji13) = false := bne_eq_false_iff_eq.mpr c49
                        clear c49
                        by_cases c50 : (t293 == 0 && (t294 == 0)) = true
                        · rw [if_pos c50] at H
                          have c50b0 : (t293 == 0 && (t294 == 0)) = true := c50
                          (try (have c50b1 : decide (t293 = 0 && (t294 == 0)) = true := by simpa using c50))
                          (try (have c50b2 : (t293 == 0 && (t294 == 0)) = true := by simpa using c50))
                          clear c50
                          by_cases c51 : 0 ≤ x10_2
                          · rw [if_pos c51] at H
                            have c51b0 := eq_true c51
                            have c51b1 : decide (0 ≤ x10_2) = true := decide_eq_true c51
                            clear c51
                            by_cases c52 : x10_2 ≤ (l0.length : Int)
                            · rw [if_pos c52] at H
                              have c52b0 := eq_true c52
                              have c52b1 : decide (x10_2 ≤ (l0.length : Int)) = true := decide_eq_true c52
                              clear c52
                              obtain ⟨y307, hy307⟩ : ∃ y_ : List (S35), y_ = (l0.take (x10_2 : Int).toNat) := ⟨_, rfl⟩
                              replace H : ((skylarkbook_SameFields.f k2 t290 y307).bind fun t311 => (some t311)) = some r := by first | (rw [hy307]; with_reducible exact H) | (have H2_ := (Option.bind_some _ _).symm.trans H; rw [hy307]; with_reducible exact H2_) | (have H2_ := (Option.bind_some _ _).symm.trans H; with_reducible exact H2_) | with_reducible exact H | (rw [hy307]; exact H) | exact H
                              have Ny307 := Aside0.mk hy307
                              clear hy307
                              replace H := Option.bind_eq_some_iff.mp H
                              obtain ⟨t311, A530, H⟩ := H
                              replace H : (some t311) = some r := H
                              have A53 := Aside0.mk A530
                              clear A530
                              obtain rfl := Option.some.inj H
                              have hcz54_0 : wr.cell? ⟨gb295, 0, none⟩ = some (.int .i64 t293) := (blk_cell BK295.out 0).trans rfl
                              have hcz54_1 : wr.cell? ⟨gb295, 1, none⟩ = some (.int .i64 t294) := (blk_cell BK295.out 1).trans rfl
                              have hfz54_0 := blk_frozen BK295.out 0
                              have hfz54_1 := blk_frozen BK295.out 1
                              have q55 : (x10_2 : Int) ≤ ((l0.length : Int) : Int) := of_decide_eq_true (by first | (with_reducible assumption) | assumption)
                              obtain ⟨i055, hi055, _, hsz55, _⟩ := info_parts info35
                              have hroom55 : l0.length ≤ c0 := HC0.out
                              have hC55 : Kd.C k35 _ A0 l0.length l0 := HR0.out
                              have hcut55 := cut_to (P := Try.prog) 22 35 .i64 Try.underlying22 hi055 A0 l0.length c0 x10_2 (of_decide_eq_true (by first | (with_reducible assumption) | assumption)) q55 hroom55
                              have hr55 := Kd.C_take (m := (x10_2 : Int).toNat) hC55 (by omega)
                              have hy55 : y307.length = (x10_2 : Int).toNat := (by rw [Ny307.out, List.length_take]; omega)
                              rw [← Ny307.out] at hr55
                              rw [← hy55] at hcut55
                              have HR310 := Aside0.mk hr55
                              have HC310 := Aside0.mk (show y307.length ≤ c0 from by omega)
                              clear hr55 hC55 hroom55 hi055 hsz55
                              have KY55 := Aside0.mk hy55
                              clear hy55
                              replace q55 := eq_true q55
                              obtain ⟨Ao56, co56, eo56⟩ := Kd.R_slice HO_8.out
                              subst eo56
                              go_wp2_with (first | (go_at_call 18; (with_reducible refine (skylarkbook_SameFields.calls k2 _ _ t290 _ _ y307 t311 _ ?side1 ?side2 ?side3 ?side4 A53.out).mono ?_); (case side1 => repeat (first | exact (Kd.R_reads' HO_8.out).2.2 | (with_reducible refine Kd.C_alloc ?_ _) | (with_reducible refine Kd.C_drewN ?_ _) | (with_reducible refine Kd.C_drew ?_))); (case side2 => exact (Kd.R_reads' HO_8.out).2.1); (case side3 => repeat (first | exact (Kd.C_below HR310.out HB.out) | (with_reducible refine Kd.C_alloc ?_ _) | (with_reducible refine Kd.C_drewN ?_ _) | (with_reducible refine Kd.C_drew ?_))); (case side4 => exact HC310.out); rintro e w' ⟨rfl, ⟨nd, rfl⟩⟩))
                              go_ret
                              exact ⟨by first | rfl | (simp [errW_none, errW_some] <;> rfl) | (simp only [← hji13]; first | rfl | (simp [errW_none, errW_some] <;> rfl)) | (simp [*, errW_none, errW_some] <;> rfl), by repeat (first | (with_reducible first | exact HB.out | apply below_alloc | apply pw_below_drewN | apply below_drew1 | refine below_set ?_ GE295.out) | exact HB.out)⟩
                            · rw [if_neg c52] at H
                              exact absurd H (by simp)
                          · rw [if_neg c51] at H
                            exact absurd H (by simp)
                        · rw [if_neg c50] at H
                          have c50b0 : (t293 == 0 && (t294 == 0)) = false := by simpa using c50
                          (try (have c50b1 : decide (t293 = 0 && (t294 == 0)) = false := by simpa using c50))
                          (try (have c50b2 : (t293 == 0 && (t294 == 0)) = false := by simpa using c50))
                          (try (have c50b3 : ¬ (t293 = 0 && (t294 == 0)) := by simpa using c50))
                          clear c50
                          obtain rfl := Option.some.inj H
                          have hcz57_0 : wr.cell? ⟨gb295, 0, none⟩ = some (.int .i64 t293) := (blk_cell BK295.out 0).trans rfl
                          have hcz57_1 : wr.cell? ⟨gb295, 1, none⟩ = some (.int .i64 t294) := (blk_cell BK295.out 1).trans rfl
                          have hfz57_0 := blk_frozen BK295.out 0
                          have hfz57_1 := blk_frozen BK295.out 1
                          go_wp2
                          go_ret
                          exact ⟨by first | rfl | (simp [errW_none, errW_some] <;> rfl) | (simp only [← hji13]; first | rfl | (simp [errW_none, errW_some] <;> rfl)) | (simp [*, errW_none, errW_some] <;> rfl), by repeat (first | (with_reducible first | exact HB.out | apply below_alloc | apply pw_below_drewN | apply below_drew1 | refine below_set ?_ GE295.out) | exact HB.out)⟩
                      · rw [if_neg c49] at H
                        have c49b0 : (x11_2 == ji13) = false := beq_eq_false_iff_ne.mpr c49
                        have c49b1 : (x11_2 != ji13) = true := bne_iff_ne.mpr c49
                        by_cases c58 : (t293 == x11_2 && (t294 == 11)) = true
                        · rw [if_pos c58] at H
                          have c58b0 : (t293 == x11_2 && (t294 == 11)) = true := c58
                          (try (have c58b1 : decide (t293 = x11_2 && (t294 == 11)) = true := by simpa using c58))
                          (try (have c58b2 : (t293 == x11_2 && (t294 == 11)) = true := by simpa using c58))
                          clear c58
                          obtain rfl := Option.some.inj H
                          have hcz59_0 : wr.cell? ⟨gb295, 0, none⟩ = some (.int .i64 t293) := (blk_cell BK295.out 0).trans rfl
                          have hcz59_1 : wr.cell? ⟨gb295, 1, none⟩ = some (.int .i64 t294) := (blk_cell BK295.out 1).trans rfl
                          have hfz59_0 := blk_frozen BK295.out 0
                          have hfz59_1 := blk_frozen BK295.out 1
                          obtain ⟨Ao60, co60, eo60⟩ := Kd.R_slice HO_8.out
                          subst eo60
                          go_wp2
                          go_ret
                          exact ⟨by first | rfl | (simp [errW_none, errW_some] <;> rfl) | (simp only [← hji13]; first | rfl | (simp [errW_none, errW_some] <;> rfl)) | (simp [*, errW_none, errW_some] <;> rfl), by repeat (first | (with_reducible first | exact HB.out | apply below_alloc | apply pw_below_drewN | apply below_drew1 | refine below_set ?_ GE295.out) | exact HB.out)⟩
                        · rw [if_neg c58] at H
                          have c58b0 : (t293 == x11_2 && (t294 == 11)) = false := by simpa using c58
                          (try (have c58b1 : decide (t293 = x11_2 && (t294 == 11)) = false := by simpa using c58))
                          (try (have c58b2 : (t293 == x11_2 && (t294 == 11)) = false := by simpa using c58))
                          (try (have c58b3 : ¬ (t293 = x11_2 && (t294 == 11)) := by simpa using c58))
                          clear c58
                          obtain rfl := Option.some.inj H
                          have hcz61_0 : wr.cell? ⟨gb295, 0, none⟩ = some (.int .i64 t293) := (blk_cell BK295.out 0).trans rfl
                          have hcz61_1 : wr.cell? ⟨gb295, 1, none⟩ = some (.int .i64 t294) := (blk_cell BK295.out 1).trans rfl
                          have hfz61_0 := blk_frozen BK295.out 0
                          have hfz61_1 := blk_frozen BK295.out 1
                          go_wp2
                          go_ret
                          exact ⟨by first | rfl | (simp [errW_none, errW_some] <;> rfl) | (simp only [← hji13]; first | rfl | (simp [errW_none, errW_some] <;> rfl)) | (simp [*, errW_none, errW_some] <;> rfl), by repeat (first | (with_reducible first | exact HB.out | apply below_alloc | apply pw_below_drewN | apply below_drew1 | refine below_set ?_ GE295.out) | exact HB.out)⟩
              · rw [if_neg c15] at H
                exact absurd H (by simp)
            · rw [if_neg c14] at H
              exact absurd H (by simp)
  · replace c4 := Bool.eq_false_iff.mpr c4
    subst c4
    have H1 : (some false) = some r := by rw [if_neg (show ¬ (false = true) by decide)] at H; exact H
    clear H
    have H := H1
    clear H1
    obtain rfl := Option.some.inj H
    go_enter Try.func7, Try.ntmps7
    go_wp2_with (first | ((with_reducible refine gate_callee (f := 20) rfl ?_); refine goesL_ (some 14) rfl rfl Try.func20 (by kernel_rfl) rfl #[] rfl (by (try simp only [List.map_toArray, List.map_cons, List.map_nil]); first | done | rfl | (simp only [List.length_drop, List.length_take]; rfl)) ?_; (with_reducible refine (skylarklaw01_works.calls k  false _ A3.out).mono ?_); rintro e w62 ⟨rfl, hb⟩; refine ⟨_, rfl, ?_⟩; have n0_ := Aside0.mk (below_step (by repeat (first | (with_reducible first | exact HB.out | apply below_alloc | apply pw_below_drewN | apply below_drew1) | exact HB.out)) hb); clear HB; have HB := n0_; clear n0_; (try clear hb); (try clear hb2); (try clear hk); (try clear hi)))
    go_ret
    exact ⟨by first | rfl | (simp [errW_none, errW_some] <;> rfl) | (simp [*, errW_none, errW_some] <;> rfl), by repeat (first | (with_reducible first | exact HB.out | apply below_alloc | apply pw_below_drewN | apply below_drew1) | exact HB.out)⟩

end Go.Proofs.Ytkmbbipempbilaa.PAll
