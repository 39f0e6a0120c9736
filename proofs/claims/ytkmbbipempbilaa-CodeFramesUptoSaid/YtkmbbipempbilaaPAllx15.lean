-- written by a program of ours (wip/printx: the kit's print, changed in a few places)
import Derived.Test.YtkmbbipempbilaaPAllx0
import Derived.Test.YtkmbbipempbilaaPAllx10
import Derived.Test.YtkmbbipempbilaaPAllx14
namespace Go.Proofs.Ytkmbbipempbilaa.PAll
open Go.RowKit Go.Proofs.Ytkmbbipempbilaa.Extra Go.Proofs.YtkmbbipempbilaaW.PrintWords Go.Proofs.YtkmbbipempbilaaW.PrintLast Go.Proofs.YtkmbbipempbilaaW.PrintMore
attribute [local go_sem] max2_int min2_int max_two min_two max_three min_three max_four min_four   -- for this text's walks alone
set_option linter.unusedVariables false
set_option linter.unusedSimpArgs false

/-! ### code_Frame: function 22 -/
def code_Frame.f (k : Nat) (a0 : ByteArray) : Option (ByteArray × Int) := if (a0.size : Int) > 65536 then (some ((⟨#[]⟩ : ByteArray), 2)) else ((code_low_uint32.f k ([] : List Int) (((a0.size : Int)) % 4294967296) 4).bind fun t325 => (if t325.length + a0.size < 141836999983104 then ((some (t325 ++ bytesOf a0 : List Int)).bind fun y328 => ((code_Sum.f k (strOfNums y328)).bind fun t331 => ((code_low_uint32.f k y328 t331 4).bind fun t332 => (some (strOfNums t332, 0))))) else (none)))
theorem code_Frame.mono : ∀ a0 k, LeO (code_Frame.f k a0) (code_Frame.f (k + 1) a0) := by
  intro a0 k
  unfold code_Frame.f
  repeat' first
      | (with_reducible exact code_Sum.mono _ _)
      | (with_reducible exact code_low_uint32.mono _ _ _ _)
      | (with_reducible exact LeO.refl _)
      | (with_reducible exact LeO.none _)
      | (with_reducible refine LeO.ite ?_ ?_)
      | (with_reducible refine LeO.bind ?_ (fun _ => ?_))
      | exact code_Sum.mono _ _
      | exact code_low_uint32.mono _ _ _ _
      | exact LeO.none _
      | refine LeO.ite ?_ ?_
      | refine LeO.bind ?_ (fun _ => ?_)
set_option maxHeartbeats 8000000 in
set_option maxRecDepth 100000 in
theorem code_Frame.calls (k : Nat) (a0 : ByteArray) (r1 : ByteArray) (r2 : Int) (w : World) (h : code_Frame.f k a0 = some (r1, r2)) :
    Calls Try.prog 22 #[.string a0] w fun e w' => e = .returned (.tuple #[.string r1, .int .i64 r2]) ∧ Below w.heap.size w w' := by
  have HB := Aside0.mk (Below.refl w.heap.size w)
  have H : (if (a0.size : Int) > 65536 then (some ((⟨#[]⟩ : ByteArray), 2)) else ((code_low_uint32.f k ([] : List Int) (((a0.size : Int)) % 4294967296) 4).bind fun t325 => (if t325.length + a0.size < 141836999983104 then ((some (t325 ++ bytesOf a0 : List Int)).bind fun y328 => ((code_Sum.f k (strOfNums y328)).bind fun t331 => ((code_low_uint32.f k y328 t331 4).bind fun t332 => (some (strOfNums t332, 0))))) else (none)))) = some (r1, r2) := h
  clear h
  by_cases c2 : (a0.size : Int) > 65536
  · rw [if_pos c2] at H
    have c2b0 : decide (65536 < (a0.size : Int)) = true := decide_eq_true c2
    have c2b1 : decide (65536 < a0.size) = true := decide_eq_true (by omega)
    clear c2
    simp only [Option.some.injEq, Prod.mk.injEq] at H
    obtain ⟨rfl, rfl⟩ := H
    go_enter Try.func22, Try.ntmps22
    go_wp2
    go_ret2
    exact ⟨by first | rfl | (simp [errW_none, errW_some] <;> rfl) | (simp [*, errW_none, errW_some] <;> rfl), by repeat (first | (with_reducible first | exact HB.out | apply below_alloc | apply pw_below_drewN | apply below_drew1) | exact HB.out)⟩
  · rw [if_neg c2] at H
    have c2b0 : decide (65536 < (a0.size : Int)) = false := decide_eq_false c2
    have c2b1 : decide (65536 < a0.size) = false := decide_eq_false (by omega)
    clear c2
    replace H := Option.bind_eq_some_iff.mp H
    obtain ⟨t325, A30, H⟩ := H
    replace H : (if t325.length + a0.size < 141836999983104 then ((some (t325 ++ bytesOf a0 : List Int)).bind fun y328 => ((code_Sum.f k (strOfNums y328)).bind fun t331 => ((code_low_uint32.f k y328 t331 4).bind fun t332 => (some (strOfNums t332, 0))))) else (none)) = some (r1, r2) := H
    have A3 := Aside0.mk A30
    clear A30
    by_cases c4 : t325.length + a0.size < 141836999983104
    · rw [if_pos c4] at H
      have LMc4 := Aside0.mk c4
      clear c4
      obtain ⟨y328, hy328⟩ : ∃ y_ : List Int, y_ = (t325 ++ bytesOf a0) := ⟨_, rfl⟩
      replace H : ((code_Sum.f k (strOfNums y328)).bind fun t331 => ((code_low_uint32.f k y328 t331 4).bind fun t332 => (some (strOfNums t332, 0)))) = some (r1, r2) := by first | (rw [hy328]; with_reducible exact H) | (have H2_ := (Option.bind_some _ _).symm.trans H; rw [hy328]; with_reducible exact H2_) | (have H2_ := (Option.bind_some _ _).symm.trans H; with_reducible exact H2_) | with_reducible exact H | (rw [hy328]; exact H) | exact H
      have Ny328 := Aside0.mk hy328
      clear hy328
      replace H := Option.bind_eq_some_iff.mp H
      obtain ⟨t331, A50, H⟩ := H
      replace H : ((code_low_uint32.f k y328 t331 4).bind fun t332 => (some (strOfNums t332, 0))) = some (r1, r2) := H
      have A5 := Aside0.mk A50
      clear A50
      replace H := Option.bind_eq_some_iff.mp H
      obtain ⟨t332, A60, H⟩ := H
      replace H : (some (strOfNums t332, 0)) = some (r1, r2) := H
      have A6 := Aside0.mk A60
      clear A60
      simp only [Option.some.injEq, Prod.mk.injEq] at H
      obtain ⟨rfl, rfl⟩ := H
      go_enter Try.func22, Try.ntmps22
      go_wp2_with (first | ((with_reducible refine gate_callee (f := 36) rfl ?_); refine goesL_ (some 11) rfl rfl Try.func36 (by kernel_rfl) rfl #[.slice none 0 0, .int .u32 (((a0.size : Int)) % 4294967296), .int .i64 4] rfl (by (try simp only [List.map_toArray, List.map_cons, List.map_nil]); first | done | rfl | (simp only [List.length_drop, List.length_take]; rfl)) ?_; (refine (code_low_uint32.calls k (fun k_ => some k_ = (.slice none 0 0 : Value).ownBlock) (.slice none 0 0) ([] : List Int) (((a0.size : Int)) % 4294967296) 4 t325 w _ ?side1 ?side2 A3.out).mono ?_); (case side1 => repeat (first | (with_reducible first | exact HB.out | apply below_alloc | apply pw_below_drewN | apply below_drew1) | exact HB.out)); (case side2 => exact Kd.R_nil _ _ _ _ _); rintro e w7 ⟨v326, rfl, ho0, hb, hkp⟩; refine ⟨_, rfl, ?_⟩; have n0_ := Aside0.mk (Kd.R_mono (ok' := fun k_ => True) ho0 (fun k_ hk_ => trivial)); have n1_ := Aside0.mk (hb); clear HB; have HO327 := n0_; have HB := n1_; clear n0_ n1_; (try clear hb); (try clear hkp); (try clear ho0)) | (at_builtin; refine print_append_str_w (w0 := w) w.heap.size rfl (.tmp 11) _ 42 9 5 rfl Try.underlying42 Try.underlying9 info5 v326 t325 a0 rfl rfl ?aO ?aB ?aS ?aL ?_; (case aB => exact (by repeat (first | (with_reducible first | exact HB.out | apply below_alloc | apply pw_below_drewN | apply below_drew1) | exact HB.out))); (case aO => exact (Kd.own_of_R (by (with_reducible repeat (first | apply Kd.R_alloc | apply Kd.R_drewN | apply Kd.R_drew)); exact HO327.out))); (case aS => exact (below_size (by repeat (first | (with_reducible first | exact HB.out | apply below_alloc | apply pw_below_drewN | apply below_drew1) | exact HB.out)))); (case aL => have := LMc4.out; omega); intro v329 w8 ho0 hb hg; have ho := Kd.R_of_own (h1 := fun _ => rfl) (ok := fun _ => True) ho0 (fun _ _ => trivial); clear ho0; have hat := True.intro; rw [← Ny328.out] at ho; change Kd.R (Kd.int .u8) 5 w8 w.heap.size (fun _ => True) v329 y328 at ho; have n0_ := Aside0.mk (hb); have n1_ := Aside0.mk (ho); clear HB; clear HO327; have HB := n0_; have HO330 := n1_; clear n0_ n1_; clear ho hb hg hat; have hcv9 := own_string (P := Try.prog) Try.underlying42 Try.underlying5 Try.underlying9 (Kd.own_of_R HO330.out)) | ((with_reducible refine gate_callee (f := 21) rfl ?_); refine goesL_ (some 17) rfl rfl Try.func21 (by kernel_rfl) rfl #[.string (strOfNums y328)] rfl (by (try simp only [List.map_toArray, List.map_cons, List.map_nil]); first | done | rfl | (simp only [List.length_drop, List.length_take]; rfl)) ?_; (with_reducible refine (code_Sum.calls k (strOfNums y328) t331 _ A5.out).mono ?_); rintro e w' ⟨rfl, ⟨nd, rfl⟩⟩; refine ⟨_, rfl, ?_⟩; obtain ⟨Ao10, co10, eo10⟩ := Kd.R_slice HO330.out; subst eo10) | ((with_reducible refine gate_callee (f := 36) rfl ?_); refine goesL_ (some 18) rfl rfl Try.func36 (by kernel_rfl) rfl #[.slice Ao10 y328.length co10, .int .u32 t331, .int .i64 4] rfl (by (try simp only [List.map_toArray, List.map_cons, List.map_nil]); first | done | rfl | (simp only [List.length_drop, List.length_take]; rfl)) ?_; (with_reducible refine (code_low_uint32.calls k (fun k_ => some k_ = (.slice Ao10 y328.length co10 : Value).ownBlock) (.slice Ao10 y328.length co10) y328 t331 4 t332 w _ ?side1 ?side2 A6.out).mono ?_); (case side1 => repeat (first | (with_reducible first | exact HB.out | apply below_alloc | apply pw_below_drewN | apply below_drew1) | exact HB.out)); (case side2 => exact Kd.R_tight rfl HO330.out); rintro e w11 ⟨v333, rfl, ho0, hb, hkp⟩; refine ⟨_, rfl, ?_⟩; have n0_ := Aside0.mk (Kd.R_mono (ok' := fun k_ => True) ho0 (fun k_ hk_ => trivial)); have n1_ := Aside0.mk (hb); clear HB; clear HO330; have HO334 := n0_; have HB := n1_; clear n0_ n1_; (try clear hb); (try clear hkp); (try clear ho0); have hcv12 := own_string (P := Try.prog) Try.underlying42 Try.underlying5 Try.underlying9 (Kd.own_of_R HO334.out)))
      go_ret2
      exact ⟨by first | rfl | (simp [errW_none, errW_some] <;> rfl) | (simp [*, errW_none, errW_some] <;> rfl), by repeat (first | (with_reducible first | exact HB.out | apply below_alloc | apply pw_below_drewN | apply below_drew1) | exact HB.out)⟩
    · rw [if_neg c4] at H
      exact absurd H (by simp)

/-! ### code_unlow_uint32: function 37 -/
def code_unlow_uint32.l0 : Nat → ByteArray → Int → Int → Option (Int)
  | 0, _, _, _ => none
  | k + 1, x0, x2, x3 => if x3 ≥ 0 then (if 0 ≤ x3 then (if x3 < (x0.size : Int) then (code_unlow_uint32.l0 k x0 (Go.bits .or .u32 ((x2 * 256) % 4294967296) ((bt x0 x3) % 4294967296)) (wrap64 (x3 - 1))) else (none)) else (none)) else (some x2)
def code_unlow_uint32.f (k : Nat) (a0 : ByteArray) : Option (Int) := code_unlow_uint32.l0 k a0 0 (wrap64 ((a0.size : Int) - 1))
theorem code_unlow_uint32.mono_l : ∀ k, (∀ y0 y1 y2, LeO (code_unlow_uint32.l0 k y0 y1 y2) (code_unlow_uint32.l0 (k + 1) y0 y1 y2))
  | 0 => fun _ _ _ r h => by simp [code_unlow_uint32.l0] at h
  | k + 1 => by
    have ih0 := code_unlow_uint32.mono_l k
    · intro y0 y1 y2
      unfold code_unlow_uint32.l0
      repeat' first
      | (with_reducible exact ih0 _ _ _)
      | (with_reducible exact LeO.refl _)
      | (with_reducible exact LeO.none _)
      | (with_reducible refine LeO.ite ?_ ?_)
      | (with_reducible refine LeO.bind ?_ (fun _ => ?_))
      | exact ih0 _ _ _
      | exact LeO.none _
      | refine LeO.ite ?_ ?_
      | refine LeO.bind ?_ (fun _ => ?_)
theorem code_unlow_uint32.mono : ∀ a0 k, LeO (code_unlow_uint32.f k a0) (code_unlow_uint32.f (k + 1) a0) := by
  intro a0 k
  have ih0 := code_unlow_uint32.mono_l k
  unfold code_unlow_uint32.f
  repeat' first
      | (with_reducible exact ih0 _ _ _)
      | (with_reducible exact LeO.refl _)
      | (with_reducible exact LeO.none _)
      | (with_reducible refine LeO.ite ?_ ?_)
      | (with_reducible refine LeO.bind ?_ (fun _ => ?_))
      | exact ih0 _ _ _
      | exact LeO.none _
      | refine LeO.ite ?_ ?_
      | refine LeO.bind ?_ (fun _ => ?_)
set_option maxHeartbeats 8000000 in
set_option maxRecDepth 100000 in
theorem code_unlow_uint32.calls (k : Nat) (a0 : ByteArray) (r : Int) (w : World) (h : code_unlow_uint32.f k a0 = some r) :
    Calls Try.prog 37 #[.string a0] w fun e w' => e = .returned (.int .u32 r) ∧ Drawn0 w w' := by
  have H : (code_unlow_uint32.l0 k a0 0 (wrap64 ((a0.size : Int) - 1))) = some r := h
  clear h
  have H' := Aside0.mk H
  clear H
  go_enter Try.func37, Try.ntmps37
  go_wp2
  go_loopg [2, 3] k (fun kq v2 v3 w' => ∃ (x2_1 : Int) (x3_1 : Int), v2 = .int .u32 x2_1 ∧ v3 = .int .i64 x3_1 ∧ Aside0 (code_unlow_uint32.l0 kq a0 x2_1 x3_1 = some r) ∧ Aside0 (kq ≤ k) ∧ Drawn0 w w')
  case atStart => exact ⟨(0), (wrap64 ((a0.size : Int) - 1)), (by first | rfl | (simp; done) | (simp [*]; done)), (by first | rfl | (simp; done) | (simp [*]; done)), H', ⟨Nat.le_refl _⟩, by repeat (first | exact Drawn0.refl _ | apply Drawn0.step)⟩
  case round =>
    clear H'
    obtain ⟨x2_1, x3_1, rfl, rfl, HA, HK1, ⟨m1, rfl⟩⟩ := hrel
    cases gk with
    | zero => exact absurd HA.out (by simp [code_unlow_uint32.l0])
    | succ k1 =>
      have H := HA.out
      clear HA
      simp only [code_unlow_uint32.l0] at H
      by_cases c2 : x3_1 ≥ 0
      · rw [if_pos c2] at H
        have c2b0 : decide (0 ≤ x3_1) = true := decide_eq_true c2
        clear c2
        by_cases c3 : 0 ≤ x3_1
        · rw [if_pos c3] at H
          have c3b0 : decide (0 ≤ x3_1) = true := decide_eq_true c3
          clear c3
          by_cases c4 : x3_1 < (a0.size : Int)
          · rw [if_pos c4] at H
            have c4b0 : decide (x3_1 < (a0.size : Int)) = true := decide_eq_true c4
            clear c4
            have H' := Aside0.mk H
            clear H
            have p5 : 0 ≤ (x3_1 : Int) := of_decide_eq_true (by first | (with_reducible assumption) | assumption)
            have q5 : x3_1 < (a0.size : Int) := of_decide_eq_true (by first | (with_reducible assumption) | assumption)
            have hx5 := bt_at a0 x3_1
            replace p5 := eq_true p5
            replace q5 := eq_true q5
            go_wp2
            go_roundg k1
            case measure => have := HK1.out; omega
            case rel => exact ⟨(Go.bits .or .u32 ((x2_1 * 256) % 4294967296) ((bt a0 x3_1) % 4294967296)), (wrap64 (x3_1 - 1)), (by first | rfl | (simp; done) | (simp [*]; done)), (by first | rfl | (simp; done) | (simp [*]; done)), H', ⟨by have := HK1.out; omega⟩, by repeat (first | exact Drawn0.refl _ | apply Drawn0.step)⟩
          · rw [if_neg c4] at H
            exact absurd H (by simp)
        · rw [if_neg c3] at H
          exact absurd H (by simp)
      · rw [if_neg c2] at H
        have c2b0 : decide (0 ≤ x3_1) = false := decide_eq_false c2
        clear c2
        obtain rfl := Option.some.inj H
        go_wp2
        go_ret
        exact ⟨by first | rfl | (simp; done) | (simp [*]; done), by repeat (first | exact Drawn0.refl _ | apply Drawn0.step)⟩

/-! ### code_Unframe: function 23 -/
def code_Unframe.r (at_ e : Int) : Option (ByteArray × Int × Int × Int) := some ((⟨#[]⟩ : ByteArray), 0, at_, e)
def code_Unframe.t (k : Nat) (a1 u : Int) (b : ByteArray) : Option (ByteArray × Int × Int × Int) :=
  if u < 0 then none
  else if u > 65536 then code_Unframe.r a1 2
  else if (b.size : Int) < 4 + u + 4 then code_Unframe.r a1 11
  else (code_Sum.f k (b.extract 0 (4 + u).toNat)).bind fun c => (code_unlow_uint32.f k (b.extract (4 + u).toNat (4 + u + 4).toNat)).bind fun d =>
    if c = d then some (b.extract 4 (4 + u).toNat, wrap64 (wrap64 (a1 + (4 + u)) + 4), 0, 0) else code_Unframe.r a1 10
def code_Unframe.f (k : Nat) (a0 : ByteArray) (a1 : Int) : Option (ByteArray × Int × Int × Int) :=
  if a1 < 0 then code_Unframe.r 0 1
  else if a1 > (a0.size : Int) then code_Unframe.r 0 1
  else if ((a0.extract a1.toNat a0.size).size : Int) < 4 then code_Unframe.r a1 11
  else (code_unlow_uint32.f k ((a0.extract a1.toNat a0.size).extract 0 4)).bind fun u => code_Unframe.t k a1 u (a0.extract a1.toNat a0.size)
theorem code_Unframe.mono : ∀ a0 a1 k, LeO (code_Unframe.f k a0 a1) (code_Unframe.f (k + 1) a0 a1) := by
  intro a0 a1 k
  unfold code_Unframe.f code_Unframe.t
  repeat' first
      | (with_reducible exact code_unlow_uint32.mono _ _)
      | (with_reducible exact code_Sum.mono _ _)
      | (with_reducible exact LeO.refl _)
      | (with_reducible refine LeO.ite ?_ ?_)
      | (with_reducible refine LeO.bind ?_ (fun _ => ?_))
      | exact code_unlow_uint32.mono _ _
      | exact code_Sum.mono _ _
theorem code_Unframe.quiet {P : Program} {f : FuncId} {args : Array Value} {w : World} {a n : Nat} {v : Value}
    (h : Calls P f args (w.drewN (a + n)) fun e w' => e = .returned v ∧ Drawn0 (w.drewN (a + n)) w') :
    Calls P f args (w.drewN (a + n)) fun e w'' => e = .returned v ∧ ∃ m, w'' = w.drewN (a + m) :=
  h.mono fun _ _ ⟨he, ⟨m, hm⟩⟩ => ⟨he, n + m, by rw [hm, World.drewN_drewN, Nat.add_assoc]⟩
set_option maxHeartbeats 8000000 in
set_option maxRecDepth 100000 in
theorem code_Unframe.calls (k : Nat) (a0 : ByteArray) (a1 : Int) (r1 : ByteArray) (r2 : Int) (r3 : Int) (r4 : Int) (w : World) (h : code_Unframe.f k a0 a1 = some (r1, r2, r3, r4)) :
    Calls Try.prog 23 #[.string a0, .int .i64 a1] w fun e w' => e = .returned (.tuple #[.string r1, .int .i64 r2, .agg #[.int .i64 r3, .int .i64 r4]]) ∧ Below w.heap.size w w' := by
  have hu28 := Try.underlying28
  have H := h
  clear h
  unfold code_Unframe.f at H
  by_cases h0 : a1 < 0
  · rw [if_pos h0] at H
    obtain ⟨⟩ := H
    go_enter Try.func23, Try.ntmps23
    go_wp2
    refine bodyPost_ret (v := .tuple #[.string (⟨#[]⟩ : ByteArray), .int .i64 0, .agg #[.int .i64 0, .int .i64 1]]) (by simp [results, Try.results23, go_sem]) rfl ⟨rfl, ?_⟩
    repeat (first | exact Below.refl _ _ | exact hbel.out _ _ | apply below_alloc | apply pw_below_drewN | apply below_drew1 | refine below_set ?_ (Nat.le_refl _))
  rw [if_neg h0] at H
  have h0' : 0 ≤ a1 := by omega
  clear h0
  by_cases h1 : a1 > (a0.size : Int)
  · rw [if_pos h1] at H
    obtain ⟨⟩ := H
    go_enter Try.func23, Try.ntmps23
    go_wp2
    refine bodyPost_ret (v := .tuple #[.string (⟨#[]⟩ : ByteArray), .int .i64 0, .agg #[.int .i64 0, .int .i64 1]]) (by simp [results, Try.results23, go_sem]) rfl ⟨rfl, ?_⟩
    repeat (first | exact Below.refl _ _ | exact hbel.out _ _ | apply below_alloc | apply pw_below_drewN | apply below_drew1 | refine below_set ?_ (Nat.le_refl _))
  rw [if_neg h1] at H
  have h1' : a1 ≤ (a0.size : Int) := by omega
  clear h1
  obtain ⟨b, eb⟩ : ∃ b : ByteArray, a0.extract a1.toNat a0.size = b := ⟨_, rfl⟩
  rw [eb] at H
  by_cases h2 : (b.size : Int) < 4
  · rw [if_pos h2] at H
    obtain ⟨⟩ := H
    go_enter Try.func23, Try.ntmps23
    go_wp2
    refine bodyPost_ret (v := .tuple #[.string (⟨#[]⟩ : ByteArray), .int .i64 0, .agg #[.int .i64 a1, .int .i64 11]]) (by simp [results, Try.results23, go_sem]) rfl ⟨rfl, ?_⟩
    repeat (first | exact Below.refl _ _ | exact hbel.out _ _ | apply below_alloc | apply pw_below_drewN | apply below_drew1 | refine below_set ?_ (Nat.le_refl _))
  rw [if_neg h2] at H
  have h2' : (4 : Int) ≤ (b.size : Int) := by omega
  clear h2
  obtain ⟨b1, eb1⟩ : ∃ x : ByteArray, b.extract 0 4 = x := ⟨_, rfl⟩
  rw [eb1] at H
  obtain ⟨u, hu, H⟩ := Option.bind_eq_some_iff.mp H
  have hu' := Aside0.mk hu
  clear hu
  unfold code_Unframe.t at H
  by_cases h3 : u < 0
  · rw [if_pos h3] at H
    cases H
  rw [if_neg h3] at H
  have h3' : 0 ≤ u := by omega
  clear h3
  have hbelow : ∀ (nq : Nat) (o : Obj), Below w.heap.size w ((w.alloc o).drewN nq) := fun nq o => pw_below_drewN ((Below.refl _ _).alloc (Nat.le_refl _) _) nq
  have hbel := Aside0.mk hbelow
  clear hbelow
  by_cases h4 : u > 65536
  · rw [if_pos h4] at H
    obtain ⟨⟩ := H
    go_enter Try.func23, Try.ntmps23
    go_wp2_with (go_at_call 37; refine (code_unlow_uint32.calls k b1 u _ hu'.out).mono ?_; rintro e w' ⟨rfl, hd⟩; obtain ⟨⟨nq, rfl⟩⟩ := hd)
    refine bodyPost_ret (v := .tuple #[.string (⟨#[]⟩ : ByteArray), .int .i64 0, .agg #[.int .i64 a1, .int .i64 2]]) (by simp [results, Try.results23, go_sem]) rfl ⟨rfl, ?_⟩
    repeat (first | exact Below.refl _ _ | exact hbel.out _ _ | apply below_alloc | apply pw_below_drewN | apply below_drew1 | refine below_set ?_ (Nat.le_refl _))
  rw [if_neg h4] at H
  have h4' : u ≤ 65536 := by omega
  clear h4
  by_cases h5 : (b.size : Int) < 4 + u + 4
  · rw [if_pos h5] at H
    obtain ⟨⟩ := H
    go_enter Try.func23, Try.ntmps23
    go_wp2_with (go_at_call 37; refine (code_unlow_uint32.calls k b1 u _ hu'.out).mono ?_; rintro e w' ⟨rfl, hd⟩; obtain ⟨⟨nq, rfl⟩⟩ := hd)
    refine bodyPost_ret (v := .tuple #[.string (⟨#[]⟩ : ByteArray), .int .i64 0, .agg #[.int .i64 a1, .int .i64 11]]) (by simp [results, Try.results23, go_sem]) rfl ⟨rfl, ?_⟩
    repeat (first | exact Below.refl _ _ | exact hbel.out _ _ | apply below_alloc | apply pw_below_drewN | apply below_drew1 | refine below_set ?_ (Nat.le_refl _))
  rw [if_neg h5] at H
  have h5' : 4 + u + 4 ≤ (b.size : Int) := by omega
  clear h5
  obtain ⟨n, hn⟩ : ∃ n : Nat, u = (n : Int) := ⟨u.toNat, by omega⟩
  subst hn
  have e1 : ((4 : Int) + (n : Int)).toNat = 4 + n := by omega
  have e2 : ((4 : Int) + (n : Int) + 4).toNat = 4 + n + 4 := by omega
  rw [e1, e2] at H
  obtain ⟨b2, eb2⟩ : ∃ x : ByteArray, b.extract 0 (4 + n) = x := ⟨_, rfl⟩
  obtain ⟨b3, eb3⟩ : ∃ x : ByteArray, b.extract (4 + n) (4 + n + 4) = x := ⟨_, rfl⟩
  obtain ⟨b4, eb4⟩ : ∃ x : ByteArray, b.extract 4 (4 + n) = x := ⟨_, rfl⟩
  rw [eb2, eb3, eb4] at H
  obtain ⟨c, hc, H⟩ := Option.bind_eq_some_iff.mp H
  obtain ⟨d, hd0, H⟩ := Option.bind_eq_some_iff.mp H
  have hc' := Aside0.mk hc
  have hd' := Aside0.mk hd0
  clear hc hd0 e1 e2
  by_cases h6 : c = d
  · rw [if_pos h6] at H
    have q6 : (c != d) = false := by simpa using h6
    clear h6
    obtain ⟨⟩ := H
    go_enter Try.func23, Try.ntmps23
    go_wp2_with (go_at_call 37; refine (code_unlow_uint32.calls k b1 n _ hu'.out).mono ?_; rintro e w' ⟨rfl, hd⟩; obtain ⟨⟨nq, rfl⟩⟩ := hd)
    have g1 : 0 ≤ 4 + (n : Int) := by omega
    have g2 : 4 + (n : Int) ≤ (b.size : Int) := by omega
    have g3 : IntKind.i64.wrap (4 + (n : Int) + 4) = 4 + (n : Int) + 4 := IntWalk.i64_in _ (by omega)
    have g4 : (4 + (n : Int)).toNat = 4 + n := by omega
    have g5 : (4 + (n : Int) + 4).toNat = 4 + n + 4 := by omega
    have g6 : 0 ≤ 4 + (n : Int) + 4 := by omega
    have g7 : 4 + (n : Int) ≤ 4 + (n : Int) + 4 := by omega
    go_quiet ((first | (go_at_call 21; exact code_Unframe.quiet (code_Sum.calls k b2 c _ hc'.out)) | (go_at_call 37; exact code_Unframe.quiet (code_unlow_uint32.calls k b3 d _ hd'.out))))
    clear g1 g2 g3 g4 g5 g6 g7
    have g8 : (4 : Int) ≤ 4 + (n : Int) := by omega
    have g2 : 4 + (n : Int) ≤ (b.size : Int) := by omega
    have g4 : (4 + (n : Int)).toNat = 4 + n := by omega
    go_wp2
    refine bodyPost_ret (v := .tuple #[.string r1, .int .i64 (wrap64 (wrap64 (a1 + (4 + (n : Int))) + 4)), .agg #[.int .i64 0, .int .i64 0]]) (by simp [results, Try.results23, go_sem]) rfl ⟨rfl, ?_⟩
    repeat (first | exact Below.refl _ _ | exact hbel.out _ _ | apply below_alloc | apply pw_below_drewN | apply below_drew1 | refine below_set ?_ (Nat.le_refl _))
  · rw [if_neg h6] at H
    have q6 : (c != d) = true := by simpa using h6
    clear h6
    obtain ⟨⟩ := H
    go_enter Try.func23, Try.ntmps23
    go_wp2_with (go_at_call 37; refine (code_unlow_uint32.calls k b1 n _ hu'.out).mono ?_; rintro e w' ⟨rfl, hd⟩; obtain ⟨⟨nq, rfl⟩⟩ := hd)
    have g1 : 0 ≤ 4 + (n : Int) := by omega
    have g2 : 4 + (n : Int) ≤ (b.size : Int) := by omega
    have g3 : IntKind.i64.wrap (4 + (n : Int) + 4) = 4 + (n : Int) + 4 := IntWalk.i64_in _ (by omega)
    have g4 : (4 + (n : Int)).toNat = 4 + n := by omega
    have g5 : (4 + (n : Int) + 4).toNat = 4 + n + 4 := by omega
    have g6 : 0 ≤ 4 + (n : Int) + 4 := by omega
    have g7 : 4 + (n : Int) ≤ 4 + (n : Int) + 4 := by omega
    go_quiet ((first | (go_at_call 21; exact code_Unframe.quiet (code_Sum.calls k b2 c _ hc'.out)) | (go_at_call 37; exact code_Unframe.quiet (code_unlow_uint32.calls k b3 d _ hd'.out))))
    clear g1 g2 g3 g4 g5 g6 g7
    go_wp2
    refine bodyPost_ret (v := .tuple #[.string (⟨#[]⟩ : ByteArray), .int .i64 0, .agg #[.int .i64 a1, .int .i64 10]]) (by simp [results, Try.results23, go_sem]) rfl ⟨rfl, ?_⟩
    repeat (first | exact Below.refl _ _ | exact hbel.out _ _ | apply below_alloc | apply pw_below_drewN | apply below_drew1 | refine below_set ?_ (Nat.le_refl _))


-- NOT PRINTED: function 9 (skylarklaw01_CodeTorn)

/-! ### skylarkref01_Sum: function 28 -/
def skylarkref01_Sum.l0 : Nat → ByteArray → Int → Int → Int → Option (Int)
  | 0, _, _, _, _ => none
  | k + 1, x0, x3, x4, x5 => if x5 < (x0.size : Int) then (if 0 ≤ x5 then (skylarkref01_Sum.l0 k x0 (((x3 + ((bt x0 x5) % 4294967296)) % 4294967296) % 65521) (((x4 + (((x3 + ((bt x0 x5) % 4294967296)) % 4294967296) % 65521)) % 4294967296) % 65521) (wrap64 (x5 + 1))) else (none)) else (some ((((65536 * x4) % 4294967296) + x3) % 4294967296))
def skylarkref01_Sum.f (k : Nat) (a0 : ByteArray) : Option (Int) := skylarkref01_Sum.l0 k a0 1 0 0
theorem skylarkref01_Sum.mono_l : ∀ k, (∀ y0 y1 y2 y3, LeO (skylarkref01_Sum.l0 k y0 y1 y2 y3) (skylarkref01_Sum.l0 (k + 1) y0 y1 y2 y3))
  | 0 => fun _ _ _ _ r h => by simp [skylarkref01_Sum.l0] at h
  | k + 1 => by
    have ih0 := skylarkref01_Sum.mono_l k
    · intro y0 y1 y2 y3
      unfold skylarkref01_Sum.l0
      repeat' first
      | (with_reducible exact ih0 _ _ _ _)
      | (with_reducible exact LeO.refl _)
      | (with_reducible exact LeO.none _)
      | (with_reducible refine LeO.ite ?_ ?_)
      | (with_reducible refine LeO.bind ?_ (fun _ => ?_))
      | exact ih0 _ _ _ _
      | exact LeO.none _
      | refine LeO.ite ?_ ?_
      | refine LeO.bind ?_ (fun _ => ?_)
theorem skylarkref01_Sum.mono : ∀ a0 k, LeO (skylarkref01_Sum.f k a0) (skylarkref01_Sum.f (k + 1) a0) := by
  intro a0 k
  have ih0 := skylarkref01_Sum.mono_l k
  unfold skylarkref01_Sum.f
  repeat' first
      | (with_reducible exact ih0 _ _ _ _)
      | (with_reducible exact LeO.refl _)
      | (with_reducible exact LeO.none _)
      | (with_reducible refine LeO.ite ?_ ?_)
      | (with_reducible refine LeO.bind ?_ (fun _ => ?_))
      | exact ih0 _ _ _ _
      | exact LeO.none _
      | refine LeO.ite ?_ ?_
      | refine LeO.bind ?_ (fun _ => ?_)
set_option maxHeartbeats 8000000 in
set_option maxRecDepth 100000 in
theorem skylarkref01_Sum.calls (k : Nat) (a0 : ByteArray) (r : Int) (w : World) (h : skylarkref01_Sum.f k a0 = some r) :
    Calls Try.prog 28 #[.string a0] w fun e w' => e = .returned (.int .u32 r) ∧ Drawn0 w w' := by
  have H : (skylarkref01_Sum.l0 k a0 1 0 0) = some r := h
  clear h
  have H' := Aside0.mk H
  clear H
  go_enter Try.func28, Try.ntmps28
  go_wp2
  go_loopg [3, 4, 5] k (fun kq v3 v4 v5 w' => ∃ (x3_1 : Int) (x4_1 : Int) (x5_1 : Int), v3 = .int .u32 x3_1 ∧ v4 = .int .u32 x4_1 ∧ v5 = .int .i64 x5_1 ∧ Aside0 (skylarkref01_Sum.l0 kq a0 x3_1 x4_1 x5_1 = some r) ∧ Aside0 (kq ≤ k) ∧ Drawn0 w w')
  case atStart => exact ⟨(1), (0), (0), (by first | rfl | (simp; done) | (simp [*]; done)), (by first | rfl | (simp; done) | (simp [*]; done)), (by first | rfl | (simp; done) | (simp [*]; done)), H', ⟨Nat.le_refl _⟩, by repeat (first | exact Drawn0.refl _ | apply Drawn0.step)⟩
  case round =>
    clear H'
    obtain ⟨x3_1, x4_1, x5_1, rfl, rfl, rfl, HA, HK1, ⟨m1, rfl⟩⟩ := hrel
    cases gk with
    | zero => exact absurd HA.out (by simp [skylarkref01_Sum.l0])
    | succ k1 =>
      have H := HA.out
      clear HA
      simp only [skylarkref01_Sum.l0] at H
      by_cases c2 : x5_1 < (a0.size : Int)
      · rw [if_pos c2] at H
        have c2b0 : decide (x5_1 < (a0.size : Int)) = true := decide_eq_true c2
        clear c2
        by_cases c3 : 0 ≤ x5_1
        · rw [if_pos c3] at H
          have c3b0 : decide (0 ≤ x5_1) = true := decide_eq_true c3
          clear c3
          have H' := Aside0.mk H
          clear H
          have p4 : 0 ≤ (x5_1 : Int) := of_decide_eq_true (by first | (with_reducible assumption) | assumption)
          have q4 : x5_1 < (a0.size : Int) := of_decide_eq_true (by first | (with_reducible assumption) | assumption)
          have hx4 := bt_at a0 x5_1
          replace p4 := eq_true p4
          replace q4 := eq_true q4
          go_wp2
          go_roundg k1
          case measure => have := HK1.out; omega
          case rel => exact ⟨(((x3_1 + ((bt a0 x5_1) % 4294967296)) % 4294967296) % 65521), (((x4_1 + (((x3_1 + ((bt a0 x5_1) % 4294967296)) % 4294967296) % 65521)) % 4294967296) % 65521), (wrap64 (x5_1 + 1)), (by first | rfl | (simp; done) | (simp [*]; done)), (by first | rfl | (simp; done) | (simp [*]; done)), (by first | rfl | (simp; done) | (simp [*]; done)), H', ⟨by have := HK1.out; omega⟩, by repeat (first | exact Drawn0.refl _ | apply Drawn0.step)⟩
        · rw [if_neg c3] at H
          exact absurd H (by simp)
      · rw [if_neg c2] at H
        have c2b0 : decide (x5_1 < (a0.size : Int)) = false := decide_eq_false c2
        clear c2
        obtain rfl := Option.some.inj H
        go_wp2
        go_ret
        exact ⟨by first | rfl | (simp; done) | (simp [*]; done), by repeat (first | exact Drawn0.refl _ | apply Drawn0.step)⟩

/-! ### skylarkref01_four: function 45 -/
def skylarkref01_four.f (a0 : Int) : Option (ByteArray) := some (strOfNums (([(a0) % 256, (a0 / 256) % 256, (a0 / 65536) % 256, (a0 / 16777216) % 256] : List Int)))
set_option maxHeartbeats 8000000 in
set_option maxRecDepth 100000 in
theorem skylarkref01_four.calls (a0 : Int) (r : ByteArray) (w : World) (h : skylarkref01_four.f a0 = some r) :
    Calls Try.prog 45 #[.int .u32 a0] w fun e w' => e = .returned (.string r) ∧ Below w.heap.size w w' := by
  have HB := Aside0.mk (Below.refl w.heap.size w)
  have H : (some (strOfNums (([(a0) % 256, (a0 / 256) % 256, (a0 / 65536) % 256, (a0 / 16777216) % 256] : List Int)))) = some r := h
  clear h
  obtain ⟨y347, hy347⟩ : ∃ y_ : List Int, y_ = (([(a0) % 256, (a0 / 256) % 256, (a0 / 65536) % 256, (a0 / 16777216) % 256] : List Int)) := ⟨_, rfl⟩
  replace H : (some (strOfNums y347)) = some r := by first | (rw [hy347]; with_reducible exact H) | (have H2_ := (Option.bind_some _ _).symm.trans H; rw [hy347]; with_reducible exact H2_) | (have H2_ := (Option.bind_some _ _).symm.trans H; with_reducible exact H2_) | with_reducible exact H | (rw [hy347]; exact H) | exact H
  have Ny347 := Aside0.mk hy347
  clear hy347
  obtain rfl := Option.some.inj H
  go_enter Try.func45, Try.ntmps45
  go_wp2_with (first | ((with_reducible refine gate_dst (N := 14) rfl ?_); refine Kd.R_lit (Kd.int .u8) _ 5 ?hg (N := 14) ?hd (xs := ([(a0) % 256, (a0 / 256) % 256, (a0 / 65536) % 256, (a0 / 16777216) % 256] : List Int)) (inner := [.int .u8 ((a0) % 256), .int .u8 ((a0 / 256) % 256), .int .u8 ((a0 / 65536) % 256), .int .u8 ((a0 / 16777216) % 256)]) (ok := fun _ => True) (okp := fun _ => True) ?hr ?hp (fun _ hk => hk) trivial (Below.refl _ _) (Nat.le_refl _) (by simp) ?_; (case hd => rfl); (case hg => rfl); (case hr => first | (go_simp; done) | (go_simp; rfl)); (case hp => exact (Reps.one (show Kd.M (Kd.int .u8) _ _ _ ((a0) % 256) [.int .u8 ((a0) % 256)] from rfl) (Reps.one (show Kd.M (Kd.int .u8) _ _ _ ((a0 / 256) % 256) [.int .u8 ((a0 / 256) % 256)] from rfl) (Reps.one (show Kd.M (Kd.int .u8) _ _ _ ((a0 / 65536) % 256) [.int .u8 ((a0 / 65536) % 256)] from rfl) (Reps.one (show Kd.M (Kd.int .u8) _ _ _ ((a0 / 16777216) % 256) [.int .u8 ((a0 / 16777216) % 256)] from rfl) (Reps.none _ _)))))); intro v348 w2 ho3 hb hg_ hnew_; clear hg_ hnew_; (first | rw [← Ny347.out] at ho3 | (simp only [Int.reduceToNat] at ho3; rw [← Ny347.out] at ho3)); have n0_ := Aside0.mk (Kd.R_lower ho3 (below_size (by repeat (first | (with_reducible first | exact HB.out | apply below_alloc | apply pw_below_drewN | apply below_drew1) | exact HB.out)))); have n1_ := Aside0.mk (below_step (by repeat (first | (with_reducible first | exact HB.out | apply below_alloc | apply pw_below_drewN | apply below_drew1) | exact HB.out)) hb); clear HB; have HO349 := n0_; have HB := n1_; clear n0_ n1_; clear hb ho3; have hcv4 := own_string (P := Try.prog) Try.underlying42 Try.underlying5 Try.underlying9 (Kd.own_of_R HO349.out)))
  go_ret
  exact ⟨by first | rfl | (simp [errW_none, errW_some] <;> rfl) | (simp [*, errW_none, errW_some] <;> rfl), by repeat (first | (with_reducible first | exact HB.out | apply below_alloc | apply pw_below_drewN | apply below_drew1) | exact HB.out)⟩

/-! ### skylarkref01_Of: function 38 -/
def skylarkref01_Of.f (k : Nat) (a0 : ByteArray) : Option (ByteArray) := (skylarkref01_four.f (((a0.size : Int)) % 4294967296)).bind fun t350 => (if t350.size + a0.size ≤ 9223372036854775807 then ((skylarkref01_Sum.f k (t350 ++ a0)).bind fun t351 => ((skylarkref01_four.f t351).bind fun t352 => (if (t350.size + a0.size) + t352.size ≤ 9223372036854775807 then (some ((t350 ++ a0) ++ t352)) else (none)))) else (none))
theorem skylarkref01_Of.mono : ∀ a0 k, LeO (skylarkref01_Of.f k a0) (skylarkref01_Of.f (k + 1) a0) := by
  intro a0 k
  unfold skylarkref01_Of.f
  repeat' first
      | (with_reducible exact skylarkref01_Sum.mono _ _)
      | (with_reducible exact LeO.refl _)
      | (with_reducible exact LeO.none _)
      | (with_reducible refine LeO.ite ?_ ?_)
      | (with_reducible refine LeO.bind ?_ (fun _ => ?_))
      | exact skylarkref01_Sum.mono _ _
      | exact LeO.none _
      | refine LeO.ite ?_ ?_
      | refine LeO.bind ?_ (fun _ => ?_)
set_option maxHeartbeats 8000000 in
set_option maxRecDepth 100000 in
theorem skylarkref01_Of.calls (k : Nat) (a0 : ByteArray) (r : ByteArray) (w : World) (h : skylarkref01_Of.f k a0 = some r) :
    Calls Try.prog 38 #[.string a0] w fun e w' => e = .returned (.string r) ∧ Below w.heap.size w w' := by
  have HB := Aside0.mk (Below.refl w.heap.size w)
  have H : ((skylarkref01_four.f (((a0.size : Int)) % 4294967296)).bind fun t350 => (if t350.size + a0.size ≤ 9223372036854775807 then ((skylarkref01_Sum.f k (t350 ++ a0)).bind fun t351 => ((skylarkref01_four.f t351).bind fun t352 => (if (t350.size + a0.size) + t352.size ≤ 9223372036854775807 then (some ((t350 ++ a0) ++ t352)) else (none)))) else (none))) = some r := h
  clear h
  replace H := Option.bind_eq_some_iff.mp H
  obtain ⟨t350, A20, H⟩ := H
  replace H : (if t350.size + a0.size ≤ 9223372036854775807 then ((skylarkref01_Sum.f k (t350 ++ a0)).bind fun t351 => ((skylarkref01_four.f t351).bind fun t352 => (if (t350.size + a0.size) + t352.size ≤ 9223372036854775807 then (some ((t350 ++ a0) ++ t352)) else (none)))) else (none)) = some r := H
  have A2 := Aside0.mk A20
  clear A20
  by_cases c3 : t350.size + a0.size ≤ 9223372036854775807
  · rw [if_pos c3] at H
    have c3b0 := eq_true c3
    have c3b1 : decide (t350.size + a0.size ≤ 9223372036854775807) = true := decide_eq_true c3
    try have c3b2 : (9223372036854775807 < t350.size + a0.size) = False := eq_false (Nat.not_lt.2 c3)
    replace H := Option.bind_eq_some_iff.mp H
    obtain ⟨t351, A40, H⟩ := H
    replace H : ((skylarkref01_four.f t351).bind fun t352 => (if (t350.size + a0.size) + t352.size ≤ 9223372036854775807 then (some ((t350 ++ a0) ++ t352)) else (none))) = some r := H
    have A4 := Aside0.mk A40
    clear A40
    replace H := Option.bind_eq_some_iff.mp H
    obtain ⟨t352, A50, H⟩ := H
    replace H : (if (t350.size + a0.size) + t352.size ≤ 9223372036854775807 then (some ((t350 ++ a0) ++ t352)) else (none)) = some r := H
    have A5 := Aside0.mk A50
    clear A50
    by_cases c6 : (t350.size + a0.size) + t352.size ≤ 9223372036854775807
    · rw [if_pos c6] at H
      have c6b0 := eq_true c6
      have c6b1 : decide ((t350.size + a0.size) + t352.size ≤ 9223372036854775807) = true := decide_eq_true c6
      try have c6b2 : (9223372036854775807 < (t350.size + a0.size) + t352.size) = False := eq_false (Nat.not_lt.2 c6)
      obtain rfl := Option.some.inj H
      go_enter Try.func38, Try.ntmps38
      go_wp2_with (first | ((with_reducible refine gate_callee (f := 45) rfl ?_); refine goesL_ (some 7) rfl rfl Try.func45 (by kernel_rfl) rfl #[.int .u32 (((a0.size : Int)) % 4294967296)] rfl (by (try simp only [List.map_toArray, List.map_cons, List.map_nil]); first | done | rfl | (simp only [List.length_drop, List.length_take]; rfl)) ?_; (with_reducible refine (skylarkref01_four.calls (((a0.size : Int)) % 4294967296) t350 _ A2.out).mono ?_); rintro e w7 ⟨rfl, hb⟩; refine ⟨_, rfl, ?_⟩; have n0_ := Aside0.mk (below_step (by repeat (first | (with_reducible first | exact HB.out | apply below_alloc | apply pw_below_drewN | apply below_drew1) | exact HB.out)) hb); clear HB; have HB := n0_; clear n0_; (try clear hb); (try clear hb2); (try clear hk); (try clear hi)) | ((with_reducible refine gate_callee (f := 28) rfl ?_); refine goesL_ (some 12) rfl rfl Try.func28 (by kernel_rfl) rfl #[.string (t350 ++ a0)] rfl (by (try simp only [List.map_toArray, List.map_cons, List.map_nil]); first | done | rfl | (simp only [List.length_drop, List.length_take]; rfl)) ?_; (with_reducible refine (skylarkref01_Sum.calls k (t350 ++ a0) t351 _ A4.out).mono ?_); rintro e w' ⟨rfl, ⟨nd, rfl⟩⟩; refine ⟨_, rfl, ?_⟩) | ((with_reducible refine gate_callee (f := 45) rfl ?_); refine goesL_ (some 13) rfl rfl Try.func45 (by kernel_rfl) rfl #[.int .u32 t351] rfl (by (try simp only [List.map_toArray, List.map_cons, List.map_nil]); first | done | rfl | (simp only [List.length_drop, List.length_take]; rfl)) ?_; (with_reducible refine (skylarkref01_four.calls t351 t352 _ A5.out).mono ?_); rintro e w8 ⟨rfl, hb⟩; refine ⟨_, rfl, ?_⟩; have n0_ := Aside0.mk (below_step (by repeat (first | (with_reducible first | exact HB.out | apply below_alloc | apply pw_below_drewN | apply below_drew1) | exact HB.out)) hb); clear HB; have HB := n0_; clear n0_; (try clear hb); (try clear hb2); (try clear hk); (try clear hi)))
      go_ret
      exact ⟨by first | rfl | (simp [errW_none, errW_some] <;> rfl) | (simp [*, errW_none, errW_some] <;> rfl), by repeat (first | (with_reducible first | exact HB.out | apply below_alloc | apply pw_below_drewN | apply below_drew1) | exact HB.out)⟩
    · rw [if_neg c6] at H
      exact absurd H (by simp)
  · rw [if_neg c3] at H
    exact absurd H (by simp)

end Go.Proofs.Ytkmbbipempbilaa.PAll
