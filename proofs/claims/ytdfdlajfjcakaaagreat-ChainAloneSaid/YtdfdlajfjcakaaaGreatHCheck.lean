-- written by a program of ours (wip/printx: the kit's print, changed in a few places)
import Derived.Test.YtdfdlajfjcakaaaGreatHKey
import Derived.Test.YtdfdlajfjcakaaaGreatPAllx0
import Derived.Test.YtdfdlajfjcakaaaGreatPAllx1040
namespace Go.Proofs.YtdfdlajfjcakaaaGreat.PAll
open Go.RowKit Go.Proofs.YtdfdlajfjcakaaaGreat.Extra Go.Proofs.YtdfdlajfjcakaaaGreatW.PrintWords Go.Proofs.YtdfdlajfjcakaaaGreatW.PrintLast Go.Proofs.YtdfdlajfjcakaaaGreatW.PrintMore
attribute [local go_sem] max2_int min2_int max_two min_two max_three min_three max_four min_four   -- for this text's walks alone
set_option linter.unusedVariables false
set_option linter.unusedSimpArgs false

/-- May the operation be? -/
def op_Check.ok (kd : Int) (key val : ByteArray) (st ts mo : Int) : Bool :=
  decide (((kd = 1 ∨ kd = 2 ∨ kd = 3) ∧ 1 ≤ key.size ∧ key.size ≤ 64 ∧ 0 ≤ ts ∧ ts ≤ 1099511627776 ∧ val.size ≤ 8192 ∧ 1 ≤ st ∧ st ≤ 1099511627776 ∧ mo = 0 ∧ (kd ≠ 1 ∨ ts = 0)) ∨
    ((kd = 4 ∨ kd = 5) ∧ 1 ≤ key.size ∧ key.size ≤ 64 ∧ 0 ≤ ts ∧ ts ≤ 1099511627776 ∧ val.size = 0 ∧ st = 0 ∧ mo = 0) ∨
    (kd = 6 ∧ key.size ≤ 64 ∧ 1 ≤ mo ∧ mo ≤ 100 ∧ val.size = 0 ∧ st = 0 ∧ ts = 0))
def op_Check.f (k : Nat) (a0_0 : Int) (a0_1 : ByteArray) (a0_2 : ByteArray) (a0_3 : Int) (a0_4 : Int) (a0_5 : Int) : Option (Int) := some (if op_Check.ok a0_0 a0_1 a0_2 a0_3 a0_4 a0_5 = true then 0 else 80)
theorem op_Check.mono : ∀ a0 a1 a2 a3 a4 a5 k, LeO (op_Check.f k a0 a1 a2 a3 a4 a5) (op_Check.f (k + 1) a0 a1 a2 a3 a4 a5) := fun _ _ _ _ _ _ _ => LeO.refl _
theorem op_Check.in_f (a m n : Int) : op_in.f a m n = some (decide (m ≤ a ∧ a ≤ n)) := by
  unfold op_in.f
  by_cases h : a ≥ m
  · rw [if_pos h]; congr 1; simp; omega
  · rw [if_neg h]; congr 1; simp; omega
theorem op_Check.toList_loop (s : ByteArray) (n : Nat) : ∀ (i : Nat) (r : List UInt8), s.size - i = n → ByteArray.toList.loop s i r = r.reverse ++ s.data.toList.drop i := by
  have hl : s.data.toList.length = s.size := Array.length_toList
  induction n with
  | zero =>
    intro i r h
    rw [ByteArray.toList.loop, if_neg (by omega), List.drop_of_length_le (by omega), List.append_nil]
  | succ n ih =>
    intro i r h
    have hi : i < s.size := by omega
    rw [ByteArray.toList.loop, if_pos hi, ih (i + 1) _ (by omega), List.drop_eq_getElem_cons (i := i) (by omega)]
    have : s.get! i = s.data.toList[i]'(by omega) := by
      cases s with
      | mk a =>
        have hi' : i < a.size := hi
        simp only [ByteArray.get!, Array.getElem_toList]
        exact getElem!_pos a i hi'
    rw [this]
    simp
theorem op_Check.toList_nil (s : ByteArray) : s.toList = [] ↔ s.size = 0 := by
  have hl : s.data.toList.length = s.size := Array.length_toList
  rw [ByteArray.toList, op_Check.toList_loop s s.size 0 [] (by omega)]
  simp only [List.reverse_nil, List.nil_append, List.drop_zero]
  rw [← List.length_eq_zero_iff, hl]
set_option maxHeartbeats 8000000 in
set_option maxRecDepth 100000 in
theorem op_Check.calls (k : Nat) (a0_0 : Int) (a0_1 : ByteArray) (a0_2 : ByteArray) (a0_3 : Int) (a0_4 : Int) (a0_5 : Int) (r : Int) (w : World) (h : op_Check.f k a0_0 a0_1 a0_2 a0_3 a0_4 a0_5 = some r) :
    Calls Tryz.prog 42 #[.agg #[.int .i64 a0_0, .string a0_1, .string a0_2, .int .i64 a0_3, .int .i64 a0_4, .int .i64 a0_5]] w fun e w' => e = .returned (.int .i64 r) ∧ Below w.heap.size w w' := by
  have hu85 := Tryz.underlying85
  have H : (if op_Check.ok a0_0 a0_1 a0_2 a0_3 a0_4 a0_5 = true then 0 else 80) = r := Option.some.inj h
  have HR := Aside0.mk H
  clear h H
  have hkey : op_key.f a0_1 = some (decide (1 ≤ (a0_1.size : Int) ∧ (a0_1.size : Int) ≤ 64)) := by
    unfold op_key.f
    rw [op_Check.in_f]
    rfl
  have HK := Aside0.mk hkey
  clear hkey
  go_enter Tryz.func42, Tryz.ntmps42
  go_wp2_with (fail)
  refine (op_key.calls a0_1 _ _ HK.out).mono ?_
  rintro e wa ⟨rfl, hD⟩
  obtain ⟨n1, rfl⟩ := hD.out
  clear hD
  have q1 : decide (1 ≤ (a0_1.size : Int) ∧ (a0_1.size : Int) ≤ 64) = decide (1 ≤ a0_1.size ∧ a0_1.size ≤ 64) := by congr 1; simp; omega
  rw [q1]
  clear q1
  obtain ⟨b1, hb1⟩ : ∃ b, decide (1 ≤ a0_1.size ∧ a0_1.size ≤ 64) = b := ⟨_, rfl⟩
  rw [hb1]
  have HB1 := Aside0.mk hb1
  clear hb1
  have HV : Aside0 (a0_2.size = 0 ∨ 0 < a0_2.size) := Aside0.mk (by omega)
  by_cases k1 : a0_0 = 1 ∨ a0_0 = 2 ∨ a0_0 = 3
  · obtain rfl | rfl | rfl := k1
    all_goals cases b1
    all_goals go_wp2_with (first | (go_at_call 40; refine (op_in.calls _ _ _ _ _ (op_Check.in_f _ _ _)).mono ?_; rintro e wq ⟨rfl, hDq⟩; obtain ⟨nq, rfl⟩ := hDq.out; clear hDq))
    all_goals go_ret
    all_goals
      refine ⟨?_, by repeat (first | exact Below.refl _ _ | apply below_alloc | apply pw_below_drewN | apply below_drew1 | refine below_set ?_ (by simp))⟩
      have hr := HR.out
      have hb := HB1.out
      have hv := HV.out
      simp only [decide_eq_true_eq, decide_eq_false_iff_not] at hb
      unfold op_Check.ok at hr
      first
      | (rw [decide_eq_true (by omega), if_pos rfl] at hr; subst hr; rfl)
      | (rw [decide_eq_false (by omega), if_neg (by decide)] at hr; subst hr; rfl)
  by_cases hz : a0_2.size = 0
  · have hl : a0_2.toList = [] := (op_Check.toList_nil a0_2).2 hz
    have HZ := Aside0.mk hz
    clear hz
    by_cases k2 : a0_0 = 4 ∨ a0_0 = 5 ∨ a0_0 = 6
    · obtain rfl | rfl | rfl := k2
      all_goals cases b1
      all_goals go_wp2_with (first | (go_at_call 40; refine (op_in.calls _ _ _ _ _ (op_Check.in_f _ _ _)).mono ?_; rintro e wq ⟨rfl, hDq⟩; obtain ⟨nq, rfl⟩ := hDq.out; clear hDq))
      all_goals go_ret
      all_goals have hz := HZ.out
      all_goals
        refine ⟨?_, by repeat (first | exact Below.refl _ _ | apply below_alloc | apply pw_below_drewN | apply below_drew1 | refine below_set ?_ (by simp))⟩
        have hr := HR.out
        have hb := HB1.out
        have hv := HV.out
        simp only [decide_eq_true_eq, decide_eq_false_iff_not] at hb
        unfold op_Check.ok at hr
        first
        | (rw [decide_eq_true (by omega), if_pos rfl] at hr; subst hr; rfl)
        | (rw [decide_eq_false (by omega), if_neg (by decide)] at hr; subst hr; rfl)
    · have n1 : (a0_0 == 1) = false := by simp; omega
      have n2 : (a0_0 == 2) = false := by simp; omega
      have n3 : (a0_0 == 3) = false := by simp; omega
      have n4 : (a0_0 == 4) = false := by simp; omega
      have n5 : (a0_0 == 5) = false := by simp; omega
      have n6 : (a0_0 == 6) = false := by simp; omega
      have HK1 := Aside0.mk k1
      have HK2 := Aside0.mk k2
      clear k1 k2
      cases b1
      all_goals go_wp2_with (first | (go_at_call 40; refine (op_in.calls _ _ _ _ _ (op_Check.in_f _ _ _)).mono ?_; rintro e wq ⟨rfl, hDq⟩; obtain ⟨nq, rfl⟩ := hDq.out; clear hDq))
      all_goals go_ret
      all_goals have hk1 := HK1.out
      all_goals have hk2 := HK2.out
      all_goals
        refine ⟨?_, by repeat (first | exact Below.refl _ _ | apply below_alloc | apply pw_below_drewN | apply below_drew1 | refine below_set ?_ (by simp))⟩
        have hr := HR.out
        have hb := HB1.out
        have hv := HV.out
        simp only [decide_eq_true_eq, decide_eq_false_iff_not] at hb
        unfold op_Check.ok at hr
        first
        | (rw [decide_eq_true (by omega), if_pos rfl] at hr; subst hr; rfl)
        | (rw [decide_eq_false (by omega), if_neg (by decide)] at hr; subst hr; rfl)
  · have hl : ¬ a0_2.toList = [] := fun h => hz ((op_Check.toList_nil a0_2).1 h)
    have HZ := Aside0.mk hz
    clear hz
    by_cases k2 : a0_0 = 4 ∨ a0_0 = 5 ∨ a0_0 = 6
    · obtain rfl | rfl | rfl := k2
      all_goals cases b1
      all_goals go_wp2_with (first | (go_at_call 40; refine (op_in.calls _ _ _ _ _ (op_Check.in_f _ _ _)).mono ?_; rintro e wq ⟨rfl, hDq⟩; obtain ⟨nq, rfl⟩ := hDq.out; clear hDq))
      all_goals go_ret
      all_goals have hz := HZ.out
      all_goals
        refine ⟨?_, by repeat (first | exact Below.refl _ _ | apply below_alloc | apply pw_below_drewN | apply below_drew1 | refine below_set ?_ (by simp))⟩
        have hr := HR.out
        have hb := HB1.out
        have hv := HV.out
        simp only [decide_eq_true_eq, decide_eq_false_iff_not] at hb
        unfold op_Check.ok at hr
        first
        | (rw [decide_eq_true (by omega), if_pos rfl] at hr; subst hr; rfl)
        | (rw [decide_eq_false (by omega), if_neg (by decide)] at hr; subst hr; rfl)
    · have n1 : (a0_0 == 1) = false := by simp; omega
      have n2 : (a0_0 == 2) = false := by simp; omega
      have n3 : (a0_0 == 3) = false := by simp; omega
      have n4 : (a0_0 == 4) = false := by simp; omega
      have n5 : (a0_0 == 5) = false := by simp; omega
      have n6 : (a0_0 == 6) = false := by simp; omega
      have HK1 := Aside0.mk k1
      have HK2 := Aside0.mk k2
      clear k1 k2
      cases b1
      all_goals go_wp2_with (first | (go_at_call 40; refine (op_in.calls _ _ _ _ _ (op_Check.in_f _ _ _)).mono ?_; rintro e wq ⟨rfl, hDq⟩; obtain ⟨nq, rfl⟩ := hDq.out; clear hDq))
      all_goals go_ret
      all_goals have hk1 := HK1.out
      all_goals have hk2 := HK2.out
      all_goals
        refine ⟨?_, by repeat (first | exact Below.refl _ _ | apply below_alloc | apply pw_below_drewN | apply below_drew1 | refine below_set ?_ (by simp))⟩
        have hr := HR.out
        have hb := HB1.out
        have hv := HV.out
        simp only [decide_eq_true_eq, decide_eq_false_iff_not] at hb
        unfold op_Check.ok at hr
        first
        | (rw [decide_eq_true (by omega), if_pos rfl] at hr; subst hr; rfl)
        | (rw [decide_eq_false (by omega), if_neg (by decide)] at hr; subst hr; rfl)

end Go.Proofs.YtdfdlajfjcakaaaGreat.PAll
