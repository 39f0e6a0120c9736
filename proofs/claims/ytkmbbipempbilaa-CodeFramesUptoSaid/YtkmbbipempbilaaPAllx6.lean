-- written by a program of ours (wip/printx: the kit's print, changed in a few places)
import Derived.Test.YtkmbbipempbilaaPAllx0
import Derived.Test.YtkmbbipempbilaaPAllx5
namespace Go.Proofs.Ytkmbbipempbilaa.PAll
open Go.RowKit Go.Proofs.Ytkmbbipempbilaa.Extra Go.Proofs.YtkmbbipempbilaaW.PrintWords Go.Proofs.YtkmbbipempbilaaW.PrintLast Go.Proofs.YtkmbbipempbilaaW.PrintMore
attribute [local go_sem] max2_int min2_int max_two min_two max_three min_three max_four min_four   -- for this text's walks alone
set_option linter.unusedVariables false
set_option linter.unusedSimpArgs false

/-! ### skylarkref01_Encode: function 14 -/
def skylarkref01_Encode.l0 : Nat → List (S35) → Int → Option (ByteArray × Int)
  | 0, _, _ => none
  | k + 1, x0, x4 => if x4 < (x0.length : Int) then (if 0 ≤ x4 then ((skylarkref01_May.f ((rd_T35 x0 x4).f0) ((rd_T35 x0 x4).f1) ((rd_T35 x0 x4).f2)).bind fun t161 => (if t161 = true then (skylarkref01_Encode.l0 k x0 (wrap64 (x4 + 1))) else (some ((⟨#[]⟩ : ByteArray), 4)))) else (none)) else ((skylarkref01_Bytes.f k x0).bind fun t162 => (if (t162.size : Int) > 262144 then (some ((⟨#[]⟩ : ByteArray), 2)) else (some (t162, 0))))
def skylarkref01_Encode.f (k : Nat) (l0 : List (S35)) : Option (ByteArray × Int) := if (l0.length : Int) > 4096 then (some ((⟨#[]⟩ : ByteArray), 2)) else (skylarkref01_Encode.l0 k l0 0)
theorem skylarkref01_Encode.mono_l : ∀ k, (∀ y0 y1, LeO (skylarkref01_Encode.l0 k y0 y1) (skylarkref01_Encode.l0 (k + 1) y0 y1))
  | 0 => fun _ _ r h => by simp [skylarkref01_Encode.l0] at h
  | k + 1 => by
    have ih0 := skylarkref01_Encode.mono_l k
    · intro y0 y1
      unfold skylarkref01_Encode.l0
      repeat' first
      | (with_reducible exact ih0 _ _)
      | (with_reducible exact skylarkref01_Bytes.mono _ _)
      | (with_reducible exact LeO.refl _)
      | (with_reducible exact LeO.none _)
      | (with_reducible refine LeO.ite ?_ ?_)
      | (with_reducible refine LeO.bind ?_ (fun _ => ?_))
      | exact ih0 _ _
      | exact skylarkref01_Bytes.mono _ _
      | exact LeO.none _
      | refine LeO.ite ?_ ?_
      | refine LeO.bind ?_ (fun _ => ?_)
theorem skylarkref01_Encode.mono : ∀ a0 k, LeO (skylarkref01_Encode.f k a0) (skylarkref01_Encode.f (k + 1) a0) := by
  intro a0 k
  have ih0 := skylarkref01_Encode.mono_l k
  unfold skylarkref01_Encode.f
  repeat' first
      | (with_reducible exact ih0 _ _)
      | (with_reducible exact skylarkref01_Bytes.mono _ _)
      | (with_reducible exact LeO.refl _)
      | (with_reducible exact LeO.none _)
      | (with_reducible refine LeO.ite ?_ ?_)
      | (with_reducible refine LeO.bind ?_ (fun _ => ?_))
      | exact ih0 _ _
      | exact skylarkref01_Bytes.mono _ _
      | exact LeO.none _
      | refine LeO.ite ?_ ?_
      | refine LeO.bind ?_ (fun _ => ?_)
set_option maxHeartbeats 8000000 in
set_option maxRecDepth 100000 in
theorem skylarkref01_Encode.calls (k : Nat) (A0 : Option Addr) (c0 : Nat) (l0 : List (S35)) (r1 : ByteArray) (r2 : Int) (w : World) (hr0 : Kd.C k35 w A0 l0.length l0) (hc0 : l0.length ≤ c0) (h : skylarkref01_Encode.f k l0 = some (r1, r2)) :
    Calls Try.prog 14 #[.slice A0 l0.length c0] w fun e w' => e = .returned (.tuple #[.string r1, .int .i64 r2]) ∧ Below w.heap.size w w' := by
  have hu35 := Try.underlying35
  have HR0 := Aside0.mk hr0
  have HC0 := Aside0.mk hc0
  clear hr0 hc0
  have HB := Aside0.mk (Below.refl w.heap.size w)
  have H : (if (l0.length : Int) > 4096 then (some ((⟨#[]⟩ : ByteArray), 2)) else (skylarkref01_Encode.l0 k l0 0)) = some (r1, r2) := h
  clear h
  by_cases c2 : (l0.length : Int) > 4096
  · rw [if_pos c2] at H
    have c2b0 : decide (4096 < (l0.length : Int)) = true := decide_eq_true c2
    have c2b1 : decide (4096 < l0.length) = true := decide_eq_true (by omega)
    clear c2
    simp only [Option.some.injEq, Prod.mk.injEq] at H
    obtain ⟨rfl, rfl⟩ := H
    go_enter Try.func14, Try.ntmps14
    go_wp2
    go_ret2
    exact ⟨by first | rfl | (simp [errW_none, errW_some] <;> rfl) | (simp [*, errW_none, errW_some] <;> rfl), by repeat (first | (with_reducible first | exact HB.out | apply below_alloc | apply pw_below_drewN | apply below_drew1) | exact HB.out)⟩
  · rw [if_neg c2] at H
    have c2b0 : decide (4096 < (l0.length : Int)) = false := decide_eq_false c2
    have c2b1 : decide (4096 < l0.length) = false := decide_eq_false (by omega)
    clear c2
    have H' := Aside0.mk H
    clear H
    go_enter Try.func14, Try.ntmps14
    go_wp2
    go_loopg [4] k (fun kq v4 w' => ∃ (x4_1 : Int), v4 = .int .i64 x4_1 ∧ Aside0 (skylarkref01_Encode.l0 kq l0 x4_1 = some (r1, r2)) ∧ Aside0 (kq ≤ k) ∧ Aside0 (Below w.heap.size w w'))
    case atStart => exact ⟨(0), (by first | rfl | (simp; done) | (simp [*]; done)), H', ⟨Nat.le_refl _⟩, ⟨by repeat (first | (with_reducible first | exact HB.out | apply below_alloc | apply pw_below_drewN | apply below_drew1) | exact HB.out)⟩⟩
    case round =>
      clear H'
      try clear c1
      try clear c2
      try clear c2b0
      try clear c2b1
      try clear p2
      obtain ⟨x4_1, rfl, HA, HK1, HB⟩ := hrel
      cases gk with
      | zero => exact absurd HA.out (by simp [skylarkref01_Encode.l0])
      | succ k1 =>
        have H := HA.out
        clear HA
        simp only [skylarkref01_Encode.l0] at H
        by_cases c3 : x4_1 < (l0.length : Int)
        · rw [if_pos c3] at H
          have c3b0 : decide (x4_1 < (l0.length : Int)) = true := decide_eq_true c3
          clear c3
          by_cases c4 : 0 ≤ x4_1
          · rw [if_pos c4] at H
            have c4b0 : decide (0 ≤ x4_1) = true := decide_eq_true c4
            clear c4
            replace H := Option.bind_eq_some_iff.mp H
            obtain ⟨t161, A50, H⟩ := H
            replace H : (if t161 = true then (skylarkref01_Encode.l0 k1 l0 (wrap64 (x4_1 + 1))) else (some ((⟨#[]⟩ : ByteArray), 4))) = some (r1, r2) := H
            have A5 := Aside0.mk A50
            clear A50
            by_cases c6 : t161 = true
            · subst c6
              have H1 : (skylarkref01_Encode.l0 k1 l0 (wrap64 (x4_1 + 1))) = some (r1, r2) := by rw [if_pos rfl] at H; exact H
              clear H
              have H := H1
              clear H1
              have H' := Aside0.mk H
              clear H
              have p160 : 0 ≤ (x4_1 : Int) := of_decide_eq_true (by first | (with_reducible assumption) | assumption)
              have q160 : x4_1 < (l0.length : Int) := of_decide_eq_true (by first | (with_reducible assumption) | assumption)
              obtain ⟨ad160, e160, hx160_0, hx160_1, hx160_2⟩ := at_T35 HR0.out x4_1 p160 q160
              cases e160
              replace hx160_0 := (HB.out.cell (World.block_lt_of_cell? w _ hx160_0)).trans hx160_0
              replace hx160_1 := (HB.out.cell (World.block_lt_of_cell? w _ hx160_1)).trans hx160_1
              replace hx160_2 := (HB.out.cell (World.block_lt_of_cell? w _ hx160_2)).trans hx160_2
              replace p160 := eq_true p160
              replace q160 := eq_true q160
              go_wp2_with (first | ((with_reducible refine gate_callee (f := 31) rfl ?_); refine goesL_ (some 19) rfl rfl Try.func31 (by kernel_rfl) rfl #[.agg #[.bool ((rd_T35 l0 x4_1).f0), .int .i64 ((rd_T35 l0 x4_1).f1), .string ((rd_T35 l0 x4_1).f2)]] rfl (by (try simp only [List.map_toArray, List.map_cons, List.map_nil]); first | done | rfl | (simp only [List.length_drop, List.length_take]; rfl)) ?_; (with_reducible refine (skylarkref01_May.calls ((rd_T35 l0 x4_1).f0) ((rd_T35 l0 x4_1).f1) ((rd_T35 l0 x4_1).f2) true _ A5.out).mono ?_); rintro e w7 ⟨rfl, hb⟩; refine ⟨_, rfl, ?_⟩; have n0_ := Aside0.mk (below_step (by repeat (first | (with_reducible first | exact HB.out | apply below_alloc | apply pw_below_drewN | apply below_drew1) | exact HB.out)) hb); clear HB; have HB := n0_; clear n0_; (try clear hb); (try clear hb2); (try clear hk); (try clear hi)))
              go_roundg k1
              case measure => have := HK1.out; omega
              case rel => exact ⟨(wrap64 (x4_1 + 1)), (by first | rfl | (simp; done) | (simp [*]; done)), H', ⟨by have := HK1.out; omega⟩, ⟨by repeat (first | (with_reducible first | exact HB.out | apply below_alloc | apply pw_below_drewN | apply below_drew1) | exact HB.out)⟩⟩
            · replace c6 := Bool.eq_false_iff.mpr c6
              subst c6
              have H1 : (some ((⟨#[]⟩ : ByteArray), 4)) = some (r1, r2) := by rw [if_neg (show ¬ (false = true) by decide)] at H; exact H
              clear H
              have H := H1
              clear H1
              simp only [Option.some.injEq, Prod.mk.injEq] at H
              obtain ⟨rfl, rfl⟩ := H
              have p160 : 0 ≤ (x4_1 : Int) := of_decide_eq_true (by first | (with_reducible assumption) | assumption)
              have q160 : x4_1 < (l0.length : Int) := of_decide_eq_true (by first | (with_reducible assumption) | assumption)
              obtain ⟨ad160, e160, hx160_0, hx160_1, hx160_2⟩ := at_T35 HR0.out x4_1 p160 q160
              cases e160
              replace hx160_0 := (HB.out.cell (World.block_lt_of_cell? w _ hx160_0)).trans hx160_0
              replace hx160_1 := (HB.out.cell (World.block_lt_of_cell? w _ hx160_1)).trans hx160_1
              replace hx160_2 := (HB.out.cell (World.block_lt_of_cell? w _ hx160_2)).trans hx160_2
              replace p160 := eq_true p160
              replace q160 := eq_true q160
              go_wp2_with (first | ((with_reducible refine gate_callee (f := 31) rfl ?_); refine goesL_ (some 19) rfl rfl Try.func31 (by kernel_rfl) rfl #[.agg #[.bool ((rd_T35 l0 x4_1).f0), .int .i64 ((rd_T35 l0 x4_1).f1), .string ((rd_T35 l0 x4_1).f2)]] rfl (by (try simp only [List.map_toArray, List.map_cons, List.map_nil]); first | done | rfl | (simp only [List.length_drop, List.length_take]; rfl)) ?_; (with_reducible refine (skylarkref01_May.calls ((rd_T35 l0 x4_1).f0) ((rd_T35 l0 x4_1).f1) ((rd_T35 l0 x4_1).f2) false _ A5.out).mono ?_); rintro e w8 ⟨rfl, hb⟩; refine ⟨_, rfl, ?_⟩; have n0_ := Aside0.mk (below_step (by repeat (first | (with_reducible first | exact HB.out | apply below_alloc | apply pw_below_drewN | apply below_drew1) | exact HB.out)) hb); clear HB; have HB := n0_; clear n0_; (try clear hb); (try clear hb2); (try clear hk); (try clear hi)))
              go_ret2
              exact ⟨by first | rfl | (simp [errW_none, errW_some] <;> rfl) | (simp [*, errW_none, errW_some] <;> rfl), by repeat (first | (with_reducible first | exact HB.out | apply below_alloc | apply pw_below_drewN | apply below_drew1) | exact HB.out)⟩
          · rw [if_neg c4] at H
            exact absurd H (by simp)
        · rw [if_neg c3] at H
          have c3b0 : decide (x4_1 < (l0.length : Int)) = false := decide_eq_false c3
          clear c3
          replace H := Option.bind_eq_some_iff.mp H
          obtain ⟨t162, A90, H⟩ := H
          replace H : (if (t162.size : Int) > 262144 then (some ((⟨#[]⟩ : ByteArray), 2)) else (some (t162, 0))) = some (r1, r2) := H
          have A9 := Aside0.mk A90
          clear A90
          by_cases c10 : (t162.size : Int) > 262144
          · rw [if_pos c10] at H
            have c10b0 : decide (262144 < (t162.size : Int)) = true := decide_eq_true c10
            have c10b1 : decide (262144 < t162.size) = true := decide_eq_true (by omega)
            clear c10
            simp only [Option.some.injEq, Prod.mk.injEq] at H
            obtain ⟨rfl, rfl⟩ := H
            go_wp2_with (first | ((with_reducible refine gate_callee (f := 32) rfl ?_); refine goesL_ (some 22) rfl rfl Try.func32 (by kernel_rfl) rfl #[.slice A0 l0.length c0] rfl (by (try simp only [List.map_toArray, List.map_cons, List.map_nil]); first | done | rfl | (simp only [List.length_drop, List.length_take]; rfl)) ?_; (with_reducible refine (skylarkref01_Bytes.calls k1 _ _ l0 t162 _ ?side1 ?side2 A9.out).mono ?_); (case side1 => repeat (first | exact (Kd.C_below HR0.out HB.out) | (with_reducible refine Kd.C_alloc ?_ _) | (with_reducible refine Kd.C_drewN ?_ _) | (with_reducible refine Kd.C_drew ?_))); (case side2 => exact HC0.out); rintro e w11 ⟨rfl, hb⟩; refine ⟨_, rfl, ?_⟩; have n0_ := Aside0.mk (below_step (by repeat (first | (with_reducible first | exact HB.out | apply below_alloc | apply pw_below_drewN | apply below_drew1) | exact HB.out)) hb); clear HB; have HB := n0_; clear n0_; (try clear hb); (try clear hb2); (try clear hk); (try clear hi)))
            go_ret2
            exact ⟨by first | rfl | (simp [errW_none, errW_some] <;> rfl) | (simp [*, errW_none, errW_some] <;> rfl), by repeat (first | (with_reducible first | exact HB.out | apply below_alloc | apply pw_below_drewN | apply below_drew1) | exact HB.out)⟩
          · rw [if_neg c10] at H
            have c10b0 : decide (262144 < (t162.size : Int)) = false := decide_eq_false c10
            have c10b1 : decide (262144 < t162.size) = false := decide_eq_false (by omega)
            clear c10
            simp only [Option.some.injEq, Prod.mk.injEq] at H
            obtain ⟨rfl, rfl⟩ := H
            go_wp2_with (first | ((with_reducible refine gate_callee (f := 32) rfl ?_); refine goesL_ (some 22) rfl rfl Try.func32 (by kernel_rfl) rfl #[.slice A0 l0.length c0] rfl (by (try simp only [List.map_toArray, List.map_cons, List.map_nil]); first | done | rfl | (simp only [List.length_drop, List.length_take]; rfl)) ?_; (with_reducible refine (skylarkref01_Bytes.calls k1 _ _ l0 t162 _ ?side1 ?side2 A9.out).mono ?_); (case side1 => repeat (first | exact (Kd.C_below HR0.out HB.out) | (with_reducible refine Kd.C_alloc ?_ _) | (with_reducible refine Kd.C_drewN ?_ _) | (with_reducible refine Kd.C_drew ?_))); (case side2 => exact HC0.out); rintro e w12 ⟨rfl, hb⟩; refine ⟨_, rfl, ?_⟩; have n0_ := Aside0.mk (below_step (by repeat (first | (with_reducible first | exact HB.out | apply below_alloc | apply pw_below_drewN | apply below_drew1) | exact HB.out)) hb); clear HB; have HB := n0_; clear n0_; (try clear hb); (try clear hb2); (try clear hk); (try clear hi)))
            go_ret2
            exact ⟨by first | rfl | (simp [errW_none, errW_some] <;> rfl) | (simp [*, errW_none, errW_some] <;> rfl), by repeat (first | (with_reducible first | exact HB.out | apply below_alloc | apply pw_below_drewN | apply below_drew1) | exact HB.out)⟩

/-! ### code_unlow_uint64: function 42 -/
def code_unlow_uint64.l0 : Nat → ByteArray → Int → Int → Option (Int)
  | 0, _, _, _ => none
  | k + 1, x0, x2, x3 => if x3 ≥ 0 then (if 0 ≤ x3 then (if x3 < (x0.size : Int) then (code_unlow_uint64.l0 k x0 (Go.bits .or .u64 (IntKind.u64.wrap (x2 * 256)) (IntKind.u64.wrap (bt x0 x3))) (wrap64 (x3 - 1))) else (none)) else (none)) else (some x2)
def code_unlow_uint64.f (k : Nat) (a0 : ByteArray) : Option (Int) := code_unlow_uint64.l0 k a0 0 (wrap64 ((a0.size : Int) - 1))
theorem code_unlow_uint64.mono_l : ∀ k, (∀ y0 y1 y2, LeO (code_unlow_uint64.l0 k y0 y1 y2) (code_unlow_uint64.l0 (k + 1) y0 y1 y2))
  | 0 => fun _ _ _ r h => by simp [code_unlow_uint64.l0] at h
  | k + 1 => by
    have ih0 := code_unlow_uint64.mono_l k
    · intro y0 y1 y2
      unfold code_unlow_uint64.l0
      repeat' first
      | (with_reducible exact ih0 _ _ _)
      | (with_reducible exact LeO.refl _)
      | (with_reducible exact LeO.none _)
      | (with_reducible refine LeO.ite ?_ ?_)
      | (with_reducible refine LeO.bind ?_ (fun _ => ?_))
      | exact ih0 _ _ _
      | exact LeO.none _
      | refine LeO.ite ?_ ?_
      | refine LeO.bind ?_ (fun _ => ?_)
theorem code_unlow_uint64.mono : ∀ a0 k, LeO (code_unlow_uint64.f k a0) (code_unlow_uint64.f (k + 1) a0) := by
  intro a0 k
  have ih0 := code_unlow_uint64.mono_l k
  unfold code_unlow_uint64.f
  repeat' first
      | (with_reducible exact ih0 _ _ _)
      | (with_reducible exact LeO.refl _)
      | (with_reducible exact LeO.none _)
      | (with_reducible refine LeO.ite ?_ ?_)
      | (with_reducible refine LeO.bind ?_ (fun _ => ?_))
      | exact ih0 _ _ _
      | exact LeO.none _
      | refine LeO.ite ?_ ?_
      | refine LeO.bind ?_ (fun _ => ?_)
set_option maxHeartbeats 8000000 in
set_option maxRecDepth 100000 in
theorem code_unlow_uint64.calls (k : Nat) (a0 : ByteArray) (r : Int) (w : World) (h : code_unlow_uint64.f k a0 = some r) :
    Calls Try.prog 42 #[.string a0] w fun e w' => e = .returned (.int .u64 r) ∧ Drawn0 w w' := by
  have H : (code_unlow_uint64.l0 k a0 0 (wrap64 ((a0.size : Int) - 1))) = some r := h
  clear h
  have H' := Aside0.mk H
  clear H
  go_enter Try.func42, Try.ntmps42
  go_wp2
  go_loopg [2, 3] k (fun kq v2 v3 w' => ∃ (x2_1 : Int) (x3_1 : Int), v2 = .int .u64 x2_1 ∧ v3 = .int .i64 x3_1 ∧ Aside0 (code_unlow_uint64.l0 kq a0 x2_1 x3_1 = some r) ∧ Aside0 (kq ≤ k) ∧ Drawn0 w w')
  case atStart => exact ⟨(0), (wrap64 ((a0.size : Int) - 1)), (by first | rfl | (simp; done) | (simp [*]; done)), (by first | rfl | (simp; done) | (simp [*]; done)), H', ⟨Nat.le_refl _⟩, by repeat (first | exact Drawn0.refl _ | apply Drawn0.step)⟩
  case round =>
    clear H'
    obtain ⟨x2_1, x3_1, rfl, rfl, HA, HK1, ⟨m1, rfl⟩⟩ := hrel
    cases gk with
    | zero => exact absurd HA.out (by simp [code_unlow_uint64.l0])
    | succ k1 =>
      have H := HA.out
      clear HA
      simp only [code_unlow_uint64.l0] at H
      by_cases c2 : x3_1 ≥ 0
      · rw [if_pos c2] at H
        have c2b0 : decide (0 ≤ x3_1) = true := decide_eq_true c2
        clear c2
        by_cases c3 : 0 ≤ x3_1
        · rw [if_pos c3] at H
          have c3b0 : decide (0 ≤ x3_1) = true := decide_eq_true c3
          clear c3
          by_cases c4 : x3_1 < (a0.size : Int)
          · rw [if_pos c4] at H
            have c4b0 : decide (x3_1 < (a0.size : Int)) = true := decide_eq_true c4
            clear c4
            have H' := Aside0.mk H
            clear H
            have p5 : 0 ≤ (x3_1 : Int) := of_decide_eq_true (by first | (with_reducible assumption) | assumption)
            have q5 : x3_1 < (a0.size : Int) := of_decide_eq_true (by first | (with_reducible assumption) | assumption)
            have hx5 := bt_at a0 x3_1
            replace p5 := eq_true p5
            replace q5 := eq_true q5
            go_wp2
            go_roundg k1
            case measure => have := HK1.out; omega
            case rel => exact ⟨(Go.bits .or .u64 (IntKind.u64.wrap (x2_1 * 256)) (IntKind.u64.wrap (bt a0 x3_1))), (wrap64 (x3_1 - 1)), (by first | rfl | (simp; done) | (simp [*]; done)), (by first | rfl | (simp; done) | (simp [*]; done)), H', ⟨by have := HK1.out; omega⟩, by repeat (first | exact Drawn0.refl _ | apply Drawn0.step)⟩
          · rw [if_neg c4] at H
            exact absurd H (by simp)
        · rw [if_neg c3] at H
          exact absurd H (by simp)
      · rw [if_neg c2] at H
        have c2b0 : decide (0 ≤ x3_1) = false := decide_eq_false c2
        clear c2
        obtain rfl := Option.some.inj H
        go_wp2
        go_ret
        exact ⟨by first | rfl | (simp; done) | (simp [*]; done), by repeat (first | exact Drawn0.refl _ | apply Drawn0.step)⟩

/-! ### code_field: function 33 -/
def code_field.r : Int → Option (Bool × Int × ByteArray × ByteArray × Int) := fun e => some (false, 0, (⟨#[]⟩ : ByteArray), (⟨#[]⟩ : ByteArray), e)
def code_field.t (c u : Int) (b : ByteArray) : Option (Bool × Int × ByteArray × ByteArray × Int) :=
  if c = 78 then some (false, wrap64 u, (⟨#[]⟩ : ByteArray), b, 0)
  else if wrap64 u < 0 then code_field.r 3
  else if wrap64 u > 262144 then code_field.r 3
  else if (b.size : Int) < wrap64 u then code_field.r 11
  else some (true, 0, b.extract 0 (wrap64 u).toNat, b.extract (wrap64 u).toNat b.size, 0)
def code_field.s (k : Nat) (c m : Int) (b : ByteArray) : Option (Bool × Int × ByteArray × ByteArray × Int) :=
  if m > 8 then code_field.r 3
  else if (b.size : Int) < m then code_field.r 11
  else if m > 0 ∧ bt b (m - 1) = 0 then code_field.r 3
  else (code_unlow_uint64.f k (b.extract 0 m.toNat)).bind fun u => code_field.t c u (b.extract m.toNat b.size)
def code_field.f (k : Nat) (a0 : ByteArray) : Option (Bool × Int × ByteArray × ByteArray × Int) :=
  if a0.size = 0 then none
  else if bt a0 0 ≠ 78 ∧ bt a0 0 ≠ 84 then code_field.r 3
  else if a0.size < 2 then code_field.r 11
  else code_field.s k (bt a0 0) (bt a0 1) (a0.extract 2 a0.size)
theorem code_field.mono : ∀ a0 k, LeO (code_field.f k a0) (code_field.f (k + 1) a0) := by
  intro a0 k
  unfold code_field.f code_field.s
  repeat' first
      | (with_reducible exact code_unlow_uint64.mono _ _)
      | (with_reducible exact LeO.refl _)
      | (with_reducible refine LeO.ite ?_ ?_)
      | (with_reducible refine LeO.bind ?_ (fun _ => ?_))
      | exact code_unlow_uint64.mono _ _
theorem code_field.sizes (s : ByteArray) (a b : Nat) (h : b ≤ s.size) : (s.extract a b).size = b - a := by rw [ByteArray.size_extract]; omega
set_option maxHeartbeats 8000000 in
set_option maxRecDepth 100000 in
theorem code_field.calls (k : Nat) (a0 : ByteArray) (r1 : Bool) (r2 : Int) (r3 : ByteArray) (r4 : ByteArray) (r5 : Int) (w : World) (h : code_field.f k a0 = some (r1, r2, r3, r4, r5)) :
    Calls Try.prog 33 #[.string a0] w fun e w' => e = .returned (.tuple #[.agg #[.bool r1, .int .i64 r2, .string r3], .string r4, .int .i64 r5]) ∧ Below w.heap.size w w' := by
  have hu35 := Try.underlying35
  have H := h
  clear h
  unfold code_field.f at H
  by_cases h0 : a0.size = 0
  · rw [if_pos h0] at H
    cases H
  rw [if_neg h0] at H
  have hpos : (0 : Int) < (a0.size : Int) := by omega
  have hpos' : 0 < a0.size := by omega
  obtain ⟨c0, e0⟩ : ∃ c : Int, bt a0 0 = c := ⟨_, rfl⟩
  have hx0 : ((a0[0]'hpos').toNat : Int) = c0 := e0 ▸ bt_at a0 0 hpos'
  rw [e0] at H
  clear e0 h0
  by_cases h1 : c0 ≠ 78 ∧ c0 ≠ 84
  · rw [if_pos h1] at H
    obtain ⟨⟩ := H
    have b1 : (c0 != 78) = true := bne_iff_ne.mpr h1.1
    have b2 : (c0 != 84) = true := bne_iff_ne.mpr h1.2
    clear h1
    go_enter Try.func33, Try.ntmps33
    go_wp2
    refine bodyPost_ret (v := .tuple #[.agg #[.bool false, .int .i64 0, .string (⟨#[]⟩ : ByteArray)], .string (⟨#[]⟩ : ByteArray), .int .i64 3]) (by simp [results, Try.results33, go_sem]) rfl ⟨rfl, (Below.refl _ _).alloc (Nat.le_refl _) _⟩
  rw [if_neg h1] at H
  by_cases h2 : a0.size < 2
  · rw [if_pos h2] at H
    obtain ⟨⟩ := H
    have q2 : decide ((a0.size : Int) < 2) = true := by simp; omega
    clear h2
    by_cases h3 : c0 = 78
    · subst h3
      clear h1
      go_enter Try.func33, Try.ntmps33
      go_wp2
      refine bodyPost_ret (v := .tuple #[.agg #[.bool false, .int .i64 0, .string (⟨#[]⟩ : ByteArray)], .string (⟨#[]⟩ : ByteArray), .int .i64 11]) (by simp [results, Try.results33, go_sem]) rfl ⟨rfl, (Below.refl _ _).alloc (Nat.le_refl _) _⟩
    · obtain rfl : c0 = 84 := by omega
      clear h1 h3
      go_enter Try.func33, Try.ntmps33
      go_wp2
      refine bodyPost_ret (v := .tuple #[.agg #[.bool false, .int .i64 0, .string (⟨#[]⟩ : ByteArray)], .string (⟨#[]⟩ : ByteArray), .int .i64 11]) (by simp [results, Try.results33, go_sem]) rfl ⟨rfl, (Below.refl _ _).alloc (Nat.le_refl _) _⟩
  rw [if_neg h2] at H
  have q2 : decide ((a0.size : Int) < 2) = false := by simp; omega
  have hs2 : (2 : Int) ≤ (a0.size : Int) := by omega
  have hs2' : 1 < a0.size := by omega
  obtain ⟨m, e1⟩ : ∃ m : Nat, bt a0 1 = (m : Int) := ⟨(bt a0 1).toNat, by have := (bt_range a0 1).1; omega⟩
  have hx1 : ((a0[1]'hs2').toNat : Int) = (m : Int) := e1 ▸ bt_at a0 1 hs2'
  have hm : (m : Int) ≤ 255 := e1 ▸ (bt_range a0 1).2
  rw [e1] at H
  clear e1 h2
  obtain ⟨b, eb⟩ : ∃ b : ByteArray, a0.extract 2 a0.size = b := ⟨_, rfl⟩
  rw [eb] at H
  unfold code_field.s at H
  have hk : (c0 = 78 ∨ c0 = 84) := by omega
  clear h1
  by_cases h4 : (m : Int) > 8
  · rw [if_pos h4] at H
    obtain ⟨⟩ := H
    rcases hk with rfl | rfl
    all_goals
      go_enter Try.func33, Try.ntmps33
      go_wp2
      refine bodyPost_ret (v := .tuple #[.agg #[.bool false, .int .i64 0, .string (⟨#[]⟩ : ByteArray)], .string (⟨#[]⟩ : ByteArray), .int .i64 3]) (by simp [results, Try.results33, go_sem]) rfl ⟨rfl, (Below.refl _ _).alloc (Nat.le_refl _) _⟩
  rw [if_neg h4] at H
  have h4' : (m : Int) ≤ 8 := by omega
  clear h4
  by_cases h5 : (b.size : Int) < (m : Int)
  · rw [if_pos h5] at H
    obtain ⟨⟩ := H
    rcases hk with rfl | rfl
    all_goals
      go_enter Try.func33, Try.ntmps33
      go_wp2
      refine bodyPost_ret (v := .tuple #[.agg #[.bool false, .int .i64 0, .string (⟨#[]⟩ : ByteArray)], .string (⟨#[]⟩ : ByteArray), .int .i64 11]) (by simp [results, Try.results33, go_sem]) rfl ⟨rfl, (Below.refl _ _).alloc (Nat.le_refl _) _⟩
  rw [if_neg h5] at H
  have h5' : (m : Int) ≤ (b.size : Int) := by omega
  have q5 : decide ((b.size : Int) < (m : Int)) = false := by simp; omega
  clear h5
  by_cases h6 : (m : Int) > 0 ∧ bt b ((m : Int) - 1) = 0
  · rw [if_pos h6] at H
    obtain ⟨⟩ := H
    have q6 : (0 : Int) < (m : Int) := h6.1
    have hlt : m - 1 < b.size := by omega
    have hx6 : ((b[m - 1]'hlt).toNat : Int) = 0 := by
      have := bt_at b ((m : Int) - 1) (by omega)
      rw [h6.2] at this
      simp only [show ((m : Int) - 1).toNat = m - 1 by omega] at this
      exact this
    clear h6
    rcases hk with rfl | rfl
    all_goals
      go_enter Try.func33, Try.ntmps33
      go_wp2
      refine bodyPost_ret (v := .tuple #[.agg #[.bool false, .int .i64 0, .string (⟨#[]⟩ : ByteArray)], .string (⟨#[]⟩ : ByteArray), .int .i64 3]) (by simp [results, Try.results33, go_sem]) rfl ⟨rfl, (Below.refl _ _).alloc (Nat.le_refl _) _⟩
  rw [if_neg h6] at H
  obtain ⟨u, hu, H⟩ := Option.bind_eq_some_iff.mp H
  have hu' := Aside0.mk hu
  clear hu
  obtain ⟨b1, eb1⟩ : ∃ x : ByteArray, b.extract 0 m = x := ⟨_, rfl⟩
  obtain ⟨b2, eb2⟩ : ∃ x : ByteArray, b.extract m b.size = x := ⟨_, rfl⟩
  simp only [Int.toNat_natCast, eb1, eb2] at hu' H
  -- the last byte that follows is none, or not 0
  have hw6 : m = 0 ∨ (0 < m ∧ ∃ c6 : Int, c6 ≠ 0 ∧ ∀ hlt : m - 1 < b.size, ((b[m - 1]'hlt).toNat : Int) = c6) := by
    rcases Nat.eq_zero_or_pos m with h | h
    · exact .inl h
    · refine .inr ⟨h, bt b ((m : Int) - 1), fun hh => h6 ⟨by omega, hh⟩, fun hlt => ?_⟩
      have := bt_at b ((m : Int) - 1) (by omega)
      simp only [show ((m : Int) - 1).toNat = m - 1 by omega] at this
      exact this
  clear h6
  obtain ⟨n, en⟩ : ∃ n : Int, wrap64 u = n := ⟨_, rfl⟩
  unfold code_field.t at H
  rw [en] at H
  have hcase : ∀ (P : Prop), ((m : Int) ≤ 0 → P) → (∀ c6 : Int, (0 : Int) < (m : Int) → (c6 == 0) = false → (∀ hlt : m - 1 < b.size, ((b[m - 1]'hlt).toNat : Int) = c6) → P) → P := fun P f g => hw6.elim (fun h => f (by omega)) (fun ⟨h, c6, hc, hb⟩ => g c6 (by omega) (by simpa using hc) hb)
  clear hw6
  have hbelow : ∀ (nq : Nat) (o : Obj), Below w.heap.size w ((w.alloc o).drewN nq) := fun nq o => pw_below_drewN ((Below.refl _ _).alloc (Nat.le_refl _) _) nq
  by_cases h7 : c0 = 78
  · obtain rfl := h7
    rw [if_pos rfl] at H
    obtain ⟨⟩ := H
    have hbel := Aside0.mk hbelow
    clear hbelow hk
    refine hcase _ (fun hm0 => ?_) (fun c6 hm0 hc6 hx6 => ?_)
    all_goals
      clear hcase
      go_enter Try.func33, Try.ntmps33
      go_wp2_with (go_at_call 42; refine (code_unlow_uint64.calls k b1 u _ hu'.out).mono ?_; rintro e w' ⟨rfl, hd⟩; obtain ⟨⟨nq, rfl⟩⟩ := hd)
      refine bodyPost_ret (v := .tuple #[.agg #[.bool false, .int .i64 r2, .string (⟨#[]⟩ : ByteArray)], .string r4, .int .i64 0]) (by simp [results, Try.results33, go_sem]) rfl ⟨rfl, ?_⟩
      repeat (first | exact Below.refl _ _ | exact hbel.out _ _ | apply below_alloc | apply pw_below_drewN | apply below_drew1 | refine below_set ?_ (Nat.le_refl _))
  obtain rfl : c0 = 84 := by omega
  rw [if_neg h7] at H
  clear h7 hk
  have hbel := Aside0.mk hbelow
  clear hbelow
  by_cases h8 : n < 0
  · rw [if_pos h8] at H
    obtain ⟨⟩ := H
    refine hcase _ (fun hm0 => ?_) (fun c6 hm0 hc6 hx6 => ?_)
    all_goals
      clear hcase
      go_enter Try.func33, Try.ntmps33
      go_wp2_with (go_at_call 42; refine (code_unlow_uint64.calls k b1 u _ hu'.out).mono ?_; rintro e w' ⟨rfl, hd⟩; obtain ⟨⟨nq, rfl⟩⟩ := hd)
      refine bodyPost_ret (v := .tuple #[.agg #[.bool false, .int .i64 0, .string (⟨#[]⟩ : ByteArray)], .string (⟨#[]⟩ : ByteArray), .int .i64 3]) (by simp [results, Try.results33, go_sem]) rfl ⟨rfl, ?_⟩
      repeat (first | exact Below.refl _ _ | exact hbel.out _ _ | apply below_alloc | apply pw_below_drewN | apply below_drew1 | refine below_set ?_ (Nat.le_refl _))
  rw [if_neg h8] at H
  have q8 : (0 : Int) ≤ n := by omega
  clear h8
  by_cases h9 : n > 262144
  · rw [if_pos h9] at H
    obtain ⟨⟩ := H
    refine hcase _ (fun hm0 => ?_) (fun c6 hm0 hc6 hx6 => ?_)
    all_goals
      clear hcase
      go_enter Try.func33, Try.ntmps33
      go_wp2_with (go_at_call 42; refine (code_unlow_uint64.calls k b1 u _ hu'.out).mono ?_; rintro e w' ⟨rfl, hd⟩; obtain ⟨⟨nq, rfl⟩⟩ := hd)
      refine bodyPost_ret (v := .tuple #[.agg #[.bool false, .int .i64 0, .string (⟨#[]⟩ : ByteArray)], .string (⟨#[]⟩ : ByteArray), .int .i64 3]) (by simp [results, Try.results33, go_sem]) rfl ⟨rfl, ?_⟩
      repeat (first | exact Below.refl _ _ | exact hbel.out _ _ | apply below_alloc | apply pw_below_drewN | apply below_drew1 | refine below_set ?_ (Nat.le_refl _))
  rw [if_neg h9] at H
  have q9 : n ≤ (262144 : Int) := by omega
  clear h9
  by_cases h10 : (b2.size : Int) < n
  · rw [if_pos h10] at H
    obtain ⟨⟩ := H
    refine hcase _ (fun hm0 => ?_) (fun c6 hm0 hc6 hx6 => ?_)
    all_goals
      clear hcase
      go_enter Try.func33, Try.ntmps33
      go_wp2_with (go_at_call 42; refine (code_unlow_uint64.calls k b1 u _ hu'.out).mono ?_; rintro e w' ⟨rfl, hd⟩; obtain ⟨⟨nq, rfl⟩⟩ := hd)
      refine bodyPost_ret (v := .tuple #[.agg #[.bool false, .int .i64 0, .string (⟨#[]⟩ : ByteArray)], .string (⟨#[]⟩ : ByteArray), .int .i64 11]) (by simp [results, Try.results33, go_sem]) rfl ⟨rfl, ?_⟩
      repeat (first | exact Below.refl _ _ | exact hbel.out _ _ | apply below_alloc | apply pw_below_drewN | apply below_drew1 | refine below_set ?_ (Nat.le_refl _))
  rw [if_neg h10] at H
  have q10 : n ≤ (b2.size : Int) := by omega
  clear h10
  obtain ⟨b3, eb3⟩ : ∃ x : ByteArray, b2.extract 0 n.toNat = x := ⟨_, rfl⟩
  obtain ⟨b4, eb4⟩ : ∃ x : ByteArray, b2.extract n.toNat b2.size = x := ⟨_, rfl⟩
  rw [eb3, eb4] at H
  obtain ⟨⟩ := H
  refine hcase _ (fun hm0 => ?_) (fun c6 hm0 hc6 hx6 => ?_)
  all_goals
    clear hcase
    go_enter Try.func33, Try.ntmps33
    go_wp2_with (go_at_call 42; refine (code_unlow_uint64.calls k b1 u _ hu'.out).mono ?_; rintro e w' ⟨rfl, hd⟩; obtain ⟨⟨nq, rfl⟩⟩ := hd)
    go_region
    all_goals
      go_wp2
      refine bodyPost_ret (v := .tuple #[.agg #[.bool true, .int .i64 0, .string r3], .string r4, .int .i64 0]) (by simp [results, Try.results33, go_sem]) rfl ⟨rfl, ?_⟩
      repeat (first | exact Below.refl _ _ | exact hbel.out _ _ | apply below_alloc | apply pw_below_drewN | apply below_drew1 | refine below_set ?_ (Nat.le_refl _))


end Go.Proofs.Ytkmbbipempbilaa.PAll
