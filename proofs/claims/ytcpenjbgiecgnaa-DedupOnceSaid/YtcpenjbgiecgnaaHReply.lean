-- written by a program of ours (wip/printx: the kit's print, changed in a few places)
import Derived.Test.YtcpenjbgiecgnaaHKey
import Derived.Test.YtcpenjbgiecgnaaPAllx0
import Derived.Test.YtcpenjbgiecgnaaPAllx1034
import Derived.Test.YtcpenjbgiecgnaaPAllx5036
import Derived.Test.YtcpenjbgiecgnaaHWriter
namespace Go.Proofs.Ytcpenjbgiecgnaa.PAll
open Go.RowKit Go.Proofs.Ytcpenjbgiecgnaa.Extra Go.Proofs.YtcpenjbgiecgnaaW.PrintWords Go.Proofs.YtcpenjbgiecgnaaW.PrintLast Go.Proofs.YtcpenjbgiecgnaaW.PrintMore
attribute [local go_sem] max2_int min2_int max_two min_two max_three min_three max_four min_four   -- for this text's walks alone
set_option linter.unusedVariables false
set_option linter.unusedSimpArgs false

/-- May a row, a result, a reply be? -/
def rowOk (y : S76) : Bool := (decide (1 ≤ y.f0.size ∧ y.f0.size ≤ 64) && decide (1 ≤ y.f1 ∧ y.f1 ≤ 1099511627776)) && decide (y.f2.size ≤ 8192)
def resOk (x : S59) : Bool := x.f3.all rowOk && (decide (0 ≤ x.f0 ∧ x.f0 ≤ 300) && (decide (0 ≤ x.f1 ∧ x.f1 ≤ 1099511627776) && (decide (x.f2.size ≤ 8192) && decide (x.f3.length ≤ 100))))
def repOk (cl sq : Int) (rs : List S59) (at_ co : Int) : Bool :=
  if 0 ≤ cl ∧ cl ≤ 1000 ∧ 1 ≤ sq ∧ sq ≤ 1048576 then
    if rs.length = 0 then decide (0 ≤ at_ ∧ at_ ≤ 32) && decide (1 ≤ co ∧ co ≤ 300)
    else decide (rs.length ≤ 32) && (decide (at_ = 0 ∧ co = 0) && rs.all resOk)
  else false
def op_reply.f (a0_0 : Int) (a0_1 : Int) (l0_2 : List (S59)) (a0_3 : Int) (a0_4 : Int) : Option Bool := some (repOk a0_0 a0_1 l0_2 a0_3 a0_4)
theorem op_key.f_eq (s : ByteArray) : op_key.f s = some (decide (1 ≤ s.size ∧ s.size ≤ 64)) := by
  unfold op_key.f
  rw [op_Check.in_f]
  simp only [Option.bind_some]
  congr 1
  simp only [decide_eq_decide]
  omega
theorem rd_row (l : List S76) (i : Nat) (h : i < l.length) : rd_T76 l (i : Int) = l[i] := by
  unfold rd_T76
  rw [Int.toNat_natCast, List.getD_eq_getElem?_getD, List.getElem?_eq_getElem h]
  rfl
theorem rd_res (l : List S59) (i : Nat) (h : i < l.length) : rd_T59 l (i : Int) = l[i] := by
  unfold rd_T59
  rw [Int.toNat_natCast, List.getD_eq_getElem?_getD, List.getElem?_eq_getElem h]
  rfl
theorem over_dec (m n : Nat) : decide ((m : Int) < (n : Int)) = !decide (n ≤ m) := by
  by_cases h : n ≤ m
  · rw [decide_eq_true h, decide_eq_false (by omega)]; rfl
  · rw [decide_eq_false h, decide_eq_true (by omega)]; rfl
theorem most_dec (m n : Nat) : decide ((n : Int) ≤ (m : Int)) = decide (n ≤ m) := by
  by_cases h : n ≤ m
  · rw [decide_eq_true h, decide_eq_true (by omega)]
  · rw [decide_eq_false h, decide_eq_false (by omega)]
set_option maxHeartbeats 4000000 in
theorem rowBad.calls (y : S76) (w : World) :
    Calls Try.prog 49 #[.agg #[.string y.f0, .int .i64 y.f1, .string y.f2]] w fun en w' => en = .returned (.bool (!rowOk y)) ∧ Below w.heap.size w w' := by
  have hu := Try.underlying76
  have h1 := op_key.f_eq y.f0
  have h2 := op_Check.in_f y.f1 1 1099511627776
  have hr : rowOk y = ((decide (1 ≤ y.f0.size ∧ y.f0.size ≤ 64) && decide (1 ≤ y.f1 ∧ y.f1 ≤ 1099511627776)) && decide (y.f2.size ≤ 8192)) := rfl
  generalize decide (1 ≤ y.f0.size ∧ y.f0.size ≤ 64) = b1 at *
  generalize decide (1 ≤ y.f1 ∧ y.f1 ≤ 1099511627776) = b2 at *
  have H1 := Aside0.mk h1
  have H2 := Aside0.mk h2
  have HR := Aside0.mk hr
  clear h1 h2 hr
  cases b1 <;> cases b2
  all_goals go_enter Try.func49, Try.ntmps49
  all_goals go_wp2_with (first | (go_at_call 50; refine (op_key.calls _ _ _ H1.out).mono ?_; rintro e wq ⟨rfl, hDq⟩; obtain ⟨nq, rfl⟩ := hDq.out; clear hDq) | (go_at_call 34; refine (op_in.calls _ _ _ _ _ H2.out).mono ?_; rintro e wq ⟨rfl, hDq⟩; obtain ⟨nq, rfl⟩ := hDq.out; clear hDq))
  all_goals go_ret
  all_goals
    refine ⟨?_, by repeat (first | exact Below.refl _ _ | apply below_alloc | apply pw_below_drewN | apply below_drew1)⟩
    rw [HR.out]
    simp only [Bool.false_and, Bool.and_false, Bool.true_and, Bool.not_false]
    try rfl
  all_goals
    show Ending.returned (.bool (decide ((8192 : Int) < (y.f2.size : Int)))) = .returned (.bool (!decide (y.f2.size ≤ 8192)))
    exact congrArg (fun b => Ending.returned (.bool b)) (over_dec 8192 _)
theorem rows_drop (l : List S76) (i : Nat) (hi : i < l.length) : (l.drop i).all rowOk = (rowOk l[i] && (l.drop (i + 1)).all rowOk) := by
  rw [List.drop_eq_getElem_cons hi, List.all_cons]
theorem ress_drop (l : List S59) (i : Nat) (hi : i < l.length) : (l.drop i).all resOk = (resOk l[i] && (l.drop (i + 1)).all resOk) := by
  rw [List.drop_eq_getElem_cons hi, List.all_cons]
set_option maxHeartbeats 4000000 in
theorem rowIndex.calls (A : Option Addr) (c : Nat) (l : List S76) (w : World) (hC : Kd.C k76 w A l.length l) (hc : l.length ≤ c) :
    Calls Try.prog 56 #[.slice A l.length c, .func (.func 49) #[] #[]] w fun en w' => ∃ i : Int, en = .returned (.int .i64 i) ∧ (l.all rowOk = false → 0 ≤ i) ∧ (l.all rowOk = true → i = -1) ∧ Below w.heap.size w w' := by
  have hm : l.length ≤ 9223372036854775807 := hC.2.1
  have HC := Aside0.mk hC
  clear hC
  go_enter Try.func56, Try.ntmps56
  go_wp2
  go_loopw [8] (fun v wr => ∃ i : Nat, i ≤ l.length ∧ v = .int .i64 i ∧ Aside0 (l.all rowOk = (l.drop i).all rowOk) ∧ Aside0 (Below w.heap.size w wr)) (fun v _ => l.length - (intOf v).toNat)
  case atStart => exact ⟨0, by omega, rfl, Aside0.mk (by rw [List.drop_zero]), Aside0.mk (Below.refl _ _)⟩
  case round =>
    obtain ⟨i, hi, rfl, HI, HB⟩ := hrel
    by_cases hlt : i < l.length
    · obtain ⟨ad, hA, c0, c1, c2⟩ := at_T76 (Kd.C_below HC.out HB.out) (i : Int) (by omega) (by omega)
      subst hA
      rw [rd_row l i hlt] at c0 c1 c2
      simp only [Int.toNat_natCast] at c0 c1 c2
      have hd := rows_drop l i hlt
      obtain ⟨x, hx⟩ : ∃ x, l[i] = x := ⟨_, rfl⟩
      rw [hx] at c0 c1 c2 hd
      have HD := Aside0.mk hd
      clear hd hx
      go_wp2_with (fail)
      refine (rowBad.calls x _).mono ?_
      rintro en w' ⟨rfl, hB⟩
      have HB2 := Aside0.mk (Below.trans HB.out (hB.mono HB.out.size))
      clear hB
      obtain ⟨b, hb⟩ : ∃ b, rowOk x = b := ⟨_, rfl⟩
      rw [hb]
      have HX := Aside0.mk hb
      clear hb
      cases b
      · go_wp2
        go_ret
        exact ⟨i, rfl, fun _ => by omega, fun h => absurd h (by rw [HI.out, HD.out, HX.out, Bool.false_and]; exact Bool.false_ne_true), HB2.out⟩
      · go_wp2
        go_roundw
        case rel => exact ⟨i + 1, by omega, by go_num, Aside0.mk (by rw [HI.out, HD.out, HX.out, Bool.true_and]), HB2⟩
        case measure => simp [intOf]; omega
    · have hil : i = l.length := by omega
      have hT := HI.out
      rw [hil, List.drop_length, List.all_nil] at hT
      have HT := Aside0.mk hT
      clear hT
      go_wp2
      go_ret
      exact ⟨-1, rfl, fun h => absurd (h.symm.trans HT.out) (by decide), fun _ => rfl, HB.out⟩
theorem rowContains.calls (A : Option Addr) (c : Nat) (l : List S76) (w : World) (hC : Kd.C k76 w A l.length l) (hc : l.length ≤ c) :
    Calls Try.prog 48 #[.slice A l.length c, .func (.func 49) #[] #[]] w fun en w' => en = .returned (.bool (!l.all rowOk)) ∧ Below w.heap.size w w' := by
  have HP := Aside0.mk (rowIndex.calls A c l w hC hc)
  clear hC
  go_enter Try.func48, Try.ntmps48
  go_wp2_with (fail)
  refine HP.out.mono ?_
  rintro en w' ⟨i, rfl, h1, h2, hB⟩
  have HB := Aside0.mk hB
  clear hB
  obtain ⟨b, hb⟩ : ∃ b, l.all rowOk = b := ⟨_, rfl⟩
  rw [hb] at h1 h2
  have HX := Aside0.mk hb
  clear hb
  cases b
  · have hi := h1 rfl
    clear h1 h2
    go_wp2
    go_ret
    exact ⟨by rw [HX.out]; simp [hi], HB.out⟩
  · obtain rfl := h2 rfl
    clear h1 h2
    go_wp2
    go_ret
    exact ⟨by rw [HX.out]; rfl, HB.out⟩
set_option maxHeartbeats 8000000 in
set_option maxRecDepth 100000 in
theorem op_result.calls (x : S59) (A : Option Addr) (c : Nat) (w : World) (hC : Kd.C k76 w A x.f3.length x.f3) (hc : x.f3.length ≤ c) :
    Calls Try.prog 37 #[.agg #[.int .i64 x.f0, .int .i64 x.f1, .string x.f2, .slice A x.f3.length c]] w fun en w' => en = .returned (.bool (resOk x)) ∧ Below w.heap.size w w' := by
  have hu := Try.underlying59
  have h1 := op_Check.in_f x.f0 0 300
  have h2 := op_Check.in_f x.f1 0 1099511627776
  have hm : x.f3.length ≤ 9223372036854775807 := hC.2.1
  have hr : resOk x = (x.f3.all rowOk && (decide (0 ≤ x.f0 ∧ x.f0 ≤ 300) && (decide (0 ≤ x.f1 ∧ x.f1 ≤ 1099511627776) && (decide (x.f2.size ≤ 8192) && decide (x.f3.length ≤ 100))))) := rfl
  rw [← most_dec 8192, ← most_dec 100] at hr
  have hP := rowContains.calls A c x.f3 (w.alloc (.cells #[.int .i64 x.f0, .int .i64 x.f1, .string x.f2, .slice A x.f3.length c] 59)) (Kd.C_alloc hC _) hc
  generalize x.f3.all rowOk = b0 at *
  have HP := Aside0.mk hP
  have HR := Aside0.mk hr
  clear h1 h2 hr hP hC
  have HA := Aside0.mk ((Below.refl w.heap.size w).alloc (Nat.le_refl _) (.cells #[.int .i64 x.f0, .int .i64 x.f1, .string x.f2, .slice A x.f3.length c] 59))
  go_enter Try.func37, Try.ntmps37
  go_wp2_with (fail)
  refine HP.out.mono ?_
  rintro en w1 ⟨rfl, hB⟩
  have hblk : w1.heap[w.heap.size]? = some (.cells #[.int .i64 x.f0, .int .i64 x.f1, .string x.f2, .slice A x.f3.length c] 59 (0, 0)) := (hB.block _ (by simp)).trans (alloc_at rfl)
  have HB := Aside0.mk (Below.trans HA.out (hB.mono (by simp)))
  have c0 : w1.cell? ⟨w.heap.size, 0, none⟩ = some (.int .i64 x.f0) := blk_cell hblk 0
  have c1 : w1.cell? ⟨w.heap.size, 1, none⟩ = some (.int .i64 x.f1) := blk_cell hblk 1
  have c2 : w1.cell? ⟨w.heap.size, 2, none⟩ = some (.string x.f2) := blk_cell hblk 2
  have c3 : w1.cell? ⟨w.heap.size, 3, none⟩ = some (.slice A x.f3.length c) := blk_cell hblk 3
  clear hblk hB HP HA
  cases b0 <;> cases q1 : decide (0 ≤ x.f0 ∧ x.f0 ≤ 300) <;> cases q2 : decide (0 ≤ x.f1 ∧ x.f1 ≤ 1099511627776)
  all_goals rw [q1, q2] at HR
  all_goals go_wp2_with (go_at_call 34; refine (op_in.calls _ _ _ _ _ (op_Check.in_f _ _ _)).mono ?_; rintro e wq ⟨rfl, hDq⟩; obtain ⟨nq, rfl⟩ := hDq.out; clear hDq)
  all_goals go_ret
  all_goals
    refine ⟨?_, by first | exact HB.out | (repeat (first | exact HB.out | apply pw_below_drewN | apply below_drew1))⟩
    rw [HR.out]
  all_goals first
    | rfl
    | (rw [decide_eq_false (p := ((x.f2.size : Int) ≤ ((8192 : Nat) : Int))) (by omega)]; rfl)
    | (rw [decide_eq_true (p := ((x.f2.size : Int) ≤ ((8192 : Nat) : Int))) (by omega)]; rfl)
theorem resBad.calls (x : S59) (A : Option Addr) (c : Nat) (w : World) (hC : Kd.C k76 w A x.f3.length x.f3) (hc : x.f3.length ≤ c) :
    Calls Try.prog 36 #[.agg #[.int .i64 x.f0, .int .i64 x.f1, .string x.f2, .slice A x.f3.length c]] w fun en w' => en = .returned (.bool (!resOk x)) ∧ Below w.heap.size w w' := by
  have hu := Try.underlying59
  have HC := Aside0.mk hC
  have HA := Aside0.mk ((Below.refl w.heap.size w).alloc (Nat.le_refl _) (.cells #[.int .i64 x.f0, .int .i64 x.f1, .string x.f2, .slice A x.f3.length c] 59))
  clear hC
  go_enter Try.func36, Try.ntmps36
  go_wp2_with (fail)
  refine (op_result.calls x A c _ (Kd.C_alloc HC.out _) hc).mono ?_
  rintro en w1 ⟨rfl, hB⟩
  have HB := Aside0.mk (Below.trans HA.out (hB.mono (by simp)))
  clear hB
  go_wp2
  go_ret
  exact ⟨rfl, HB.out⟩
set_option maxHeartbeats 4000000 in
theorem resIndex.calls (A : Option Addr) (c : Nat) (l : List S59) (w : World) (hC : Kd.C k59 w A l.length l) (hc : l.length ≤ c) :
    Calls Try.prog 47 #[.slice A l.length c, .func (.func 36) #[] #[]] w fun en w' => ∃ i : Int, en = .returned (.int .i64 i) ∧ (l.all resOk = false → 0 ≤ i) ∧ (l.all resOk = true → i = -1) ∧ Below w.heap.size w w' := by
  have hm : l.length ≤ 9223372036854775807 := hC.2.1
  have HC := Aside0.mk hC
  clear hC
  go_enter Try.func47, Try.ntmps47
  go_wp2
  go_loopw [8] (fun v wr => ∃ i : Nat, i ≤ l.length ∧ v = .int .i64 i ∧ Aside0 (l.all resOk = (l.drop i).all resOk) ∧ Aside0 (Below w.heap.size w wr)) (fun v _ => l.length - (intOf v).toNat)
  case atStart => exact ⟨0, by omega, rfl, Aside0.mk (by rw [List.drop_zero]), Aside0.mk (Below.refl _ _)⟩
  case round =>
    obtain ⟨i, hi, rfl, HI, HB⟩ := hrel
    by_cases hlt : i < l.length
    · obtain ⟨ad, A3, c3, hA, c0, c1, c2, d3, l3, g3⟩ := at_T59 (Kd.C_below HC.out HB.out) (i : Int) (by omega) (by omega)
      subst hA
      rw [rd_res l i hlt] at c0 c1 c2 d3 l3 g3
      simp only [Int.toNat_natCast] at c0 c1 c2 d3
      have hd := ress_drop l i hlt
      obtain ⟨x, hx⟩ : ∃ x, l[i] = x := ⟨_, rfl⟩
      rw [hx] at c0 c1 c2 d3 l3 g3 hd
      have HD := Aside0.mk hd
      have HG3 := Aside0.mk g3
      clear hd hx g3
      go_wp2_with (fail)
      refine (resBad.calls x A3 c3 _ HG3.out l3).mono ?_
      rintro en w' ⟨rfl, hB⟩
      have HB2 := Aside0.mk (Below.trans HB.out (hB.mono HB.out.size))
      clear hB
      obtain ⟨b, hb⟩ : ∃ b, resOk x = b := ⟨_, rfl⟩
      rw [hb]
      have HX := Aside0.mk hb
      clear hb
      cases b
      · go_wp2
        go_ret
        exact ⟨i, rfl, fun _ => by omega, fun h => absurd h (by rw [HI.out, HD.out, HX.out, Bool.false_and]; exact Bool.false_ne_true), HB2.out⟩
      · go_wp2
        go_roundw
        case rel => exact ⟨i + 1, by omega, by go_num, Aside0.mk (by rw [HI.out, HD.out, HX.out, Bool.true_and]), HB2⟩
        case measure => simp [intOf]; omega
    · have hil : i = l.length := by omega
      have hT := HI.out
      rw [hil, List.drop_length, List.all_nil] at hT
      have HT := Aside0.mk hT
      clear hT
      go_wp2
      go_ret
      exact ⟨-1, rfl, fun h => absurd (h.symm.trans HT.out) (by decide), fun _ => rfl, HB.out⟩
theorem resContains.calls (A : Option Addr) (c : Nat) (l : List S59) (w : World) (hC : Kd.C k59 w A l.length l) (hc : l.length ≤ c) :
    Calls Try.prog 35 #[.slice A l.length c, .func (.func 36) #[] #[]] w fun en w' => en = .returned (.bool (!l.all resOk)) ∧ Below w.heap.size w w' := by
  have HP := Aside0.mk (resIndex.calls A c l w hC hc)
  clear hC
  go_enter Try.func35, Try.ntmps35
  go_wp2_with (fail)
  refine HP.out.mono ?_
  rintro en w' ⟨i, rfl, h1, h2, hB⟩
  have HB := Aside0.mk hB
  clear hB
  obtain ⟨b, hb⟩ : ∃ b, l.all resOk = b := ⟨_, rfl⟩
  rw [hb] at h1 h2
  have HX := Aside0.mk hb
  clear hb
  cases b
  · have hi := h1 rfl
    clear h1 h2
    go_wp2
    go_ret
    exact ⟨by rw [HX.out]; simp [hi], HB.out⟩
  · obtain rfl := h2 rfl
    clear h1 h2
    go_wp2
    go_ret
    exact ⟨by rw [HX.out]; rfl, HB.out⟩
attribute [local go_sem high] eqA36 in
set_option maxHeartbeats 8000000 in
set_option maxRecDepth 100000 in
theorem op_reply.calls (a0_0 : Int) (a0_1 : Int) (A0_2 : Option Addr) (c0_2 : Nat) (l0_2 : List (S59)) (a0_3 : Int) (a0_4 : Int) (r : Bool) (w : World) (hr0_2 : Kd.C k59 w A0_2 l0_2.length l0_2) (hc0_2 : l0_2.length ≤ c0_2) (h : op_reply.f a0_0 a0_1 l0_2 a0_3 a0_4 = some r) :
    Calls Try.prog 23 #[.agg #[.int .i64 a0_0, .int .i64 a0_1, .slice A0_2 l0_2.length c0_2, .int .i64 a0_3, .int .i64 a0_4]] w fun e w' => e = .returned (.bool r) ∧ Below w.heap.size w w' := by
  have hu47 := Try.underlying38
  have hu45 := Try.underlying36
  have hm : l0_2.length ≤ 9223372036854775807 := hr0_2.2.1
  have H : repOk a0_0 a0_1 l0_2 a0_3 a0_4 = r := Option.some.inj h
  have HR := Aside0.mk H
  have HC := Aside0.mk hr0_2
  clear h H hr0_2
  have HA := Aside0.mk ((Below.refl w.heap.size w).alloc (Nat.le_refl _) (.cells #[.int .i64 a0_0, .int .i64 a0_1, .slice A0_2 l0_2.length c0_2, .int .i64 a0_3, .int .i64 a0_4] 38))
  by_cases k1 : 0 ≤ a0_0 ∧ a0_0 ≤ 1000 ∧ 1 ≤ a0_1 ∧ a0_1 ≤ 1048576
  · have q1 : decide (0 ≤ a0_0 ∧ a0_0 ≤ 1000) = true := decide_eq_true ⟨k1.1, k1.2.1⟩
    have q2 : decide (1 ≤ a0_1 ∧ a0_1 ≤ 1048576) = true := decide_eq_true k1.2.2
    have HR2 := HR.out
    unfold repOk at HR2
    rw [if_pos k1] at HR2
    replace HR := Aside0.mk HR2
    clear HR2 k1
    by_cases k2 : l0_2.length = 0
    · have q3 : ((l0_2.length : Int) == 0) = true := by simp [k2]
      have HR2 := HR.out
      rw [if_pos k2] at HR2
      replace HR := Aside0.mk HR2
      clear HR2 k2
      cases q4 : decide (0 ≤ a0_3 ∧ a0_3 ≤ 32) <;> cases q5 : decide (1 ≤ a0_4 ∧ a0_4 ≤ 300)
      all_goals
        rw [q4, q5] at HR
        have hr := HR.out
        obtain rfl := hr
        go_enter Try.func23, Try.ntmps23
        go_wp2_with (go_at_call 34; refine (op_in.calls _ _ _ _ _ (op_Check.in_f _ _ _)).mono ?_; rintro e wq ⟨rfl, hDq⟩; obtain ⟨nq, rfl⟩ := hDq.out; clear hDq)
        go_ret
        exact ⟨rfl, by repeat (first | exact HA.out | apply pw_below_drewN | apply below_drew1)⟩
    · have q3 : ((l0_2.length : Int) == 0) = false := beq_eq_false_iff_ne.2 (by omega)
      have HR2 := HR.out
      rw [if_neg k2, ← most_dec 32] at HR2
      replace HR := Aside0.mk HR2
      clear HR2 k2
      cases q4 : decide ((l0_2.length : Int) ≤ ((32 : Nat) : Int))
      · rw [q4] at HR
        have q4 : decide ((l0_2.length : Int) ≤ 32) = false := q4
        have hr := HR.out
        obtain rfl := hr
        go_enter Try.func23, Try.ntmps23
        go_wp2_with (go_at_call 34; refine (op_in.calls _ _ _ _ _ (op_Check.in_f _ _ _)).mono ?_; rintro e wq ⟨rfl, hDq⟩; obtain ⟨nq, rfl⟩ := hDq.out; clear hDq)
        go_ret
        exact ⟨rfl, by repeat (first | exact HA.out | apply pw_below_drewN | apply below_drew1)⟩
      · rw [q4] at HR
        have q4 : (l0_2.length : Int) ≤ 32 := of_decide_eq_true q4
        cases q5 : decide (a0_3 = 0 ∧ a0_4 = 0)
        · rw [q5] at HR
          have hr := HR.out
          obtain rfl := hr
          have q6 : (a0_3 == 0 && (a0_4 == 0)) = false := by rw [← q5, Bool.eq_iff_iff]; simp
          clear q5
          go_enter Try.func23, Try.ntmps23
          go_wp2_with (go_at_call 34; refine (op_in.calls _ _ _ _ _ (op_Check.in_f _ _ _)).mono ?_; rintro e wq ⟨rfl, hDq⟩; obtain ⟨nq, rfl⟩ := hDq.out; clear hDq)
          go_ret
          exact ⟨rfl, by repeat (first | exact HA.out | apply pw_below_drewN | apply below_drew1)⟩
        · rw [q5] at HR
          obtain ⟨rfl, rfl⟩ := of_decide_eq_true q5
          clear q5
          have hr := HR.out
          simp only [Bool.true_and] at hr
          replace HR := Aside0.mk hr
          clear hr
          go_enter Try.func23, Try.ntmps23
          go_wp2_with (go_at_call 34; refine (op_in.calls _ _ _ _ _ (op_Check.in_f _ _ _)).mono ?_; rintro e wq ⟨rfl, hDq⟩; obtain ⟨nq, rfl⟩ := hDq.out; clear hDq)
          refine (resContains.calls A0_2 c0_2 l0_2 _ (Kd.C_below HC.out (by repeat (first | exact HA.out | apply pw_below_drewN | apply below_drew1))) hc0_2).mono ?_
          rintro en w1 ⟨rfl, hB⟩
          have HB := Aside0.mk (Below.trans (B := w.heap.size) (by repeat (first | exact HA.out | apply pw_below_drewN | apply below_drew1)) (hB.mono (by simp)))
          clear hB
          obtain ⟨b, hb⟩ : ∃ b, l0_2.all resOk = b := ⟨_, rfl⟩
          rw [hb]
          rw [hb] at HR
          clear hb
          have hr := HR.out
          obtain rfl := hr
          cases b
          all_goals
            go_wp2
            go_ret
            exact ⟨rfl, HB.out⟩
  · have HR2 := HR.out
    unfold repOk at HR2
    rw [if_neg k1] at HR2
    obtain rfl := HR2
    have HK := Aside0.mk k1
    clear k1
    cases q1 : decide (0 ≤ a0_0 ∧ a0_0 ≤ 1000) <;> cases q2 : decide (1 ≤ a0_1 ∧ a0_1 ≤ 1048576)
    · go_enter Try.func23, Try.ntmps23
      go_wp2_with (go_at_call 34; refine (op_in.calls _ _ _ _ _ (op_Check.in_f _ _ _)).mono ?_; rintro e wq ⟨rfl, hDq⟩; obtain ⟨nq, rfl⟩ := hDq.out; clear hDq)
      go_ret
      exact ⟨rfl, by repeat (first | exact HA.out | apply pw_below_drewN | apply below_drew1)⟩
    · go_enter Try.func23, Try.ntmps23
      go_wp2_with (go_at_call 34; refine (op_in.calls _ _ _ _ _ (op_Check.in_f _ _ _)).mono ?_; rintro e wq ⟨rfl, hDq⟩; obtain ⟨nq, rfl⟩ := hDq.out; clear hDq)
      go_ret
      exact ⟨rfl, by repeat (first | exact HA.out | apply pw_below_drewN | apply below_drew1)⟩
    · go_enter Try.func23, Try.ntmps23
      go_wp2_with (go_at_call 34; refine (op_in.calls _ _ _ _ _ (op_Check.in_f _ _ _)).mono ?_; rintro e wq ⟨rfl, hDq⟩; obtain ⟨nq, rfl⟩ := hDq.out; clear hDq)
      go_ret
      exact ⟨rfl, by repeat (first | exact HA.out | apply pw_below_drewN | apply below_drew1)⟩
    · exact absurd ⟨(of_decide_eq_true q1).1, (of_decide_eq_true q1).2, of_decide_eq_true q2⟩ HK.out

end Go.Proofs.Ytcpenjbgiecgnaa.PAll
