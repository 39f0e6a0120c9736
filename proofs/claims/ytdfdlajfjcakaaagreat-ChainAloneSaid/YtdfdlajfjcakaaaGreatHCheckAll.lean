-- written by a program of ours (wip/printx: the kit's print, changed in a few places)
import Derived.Test.YtdfdlajfjcakaaaGreatPAllx0
import Derived.Test.YtdfdlajfjcakaaaGreatPAllx1040
import Derived.Test.YtdfdlajfjcakaaaGreatHCheck
namespace Go.Proofs.YtdfdlajfjcakaaaGreat.PAll
open Go.RowKit Go.Proofs.YtdfdlajfjcakaaaGreat.Extra Go.Proofs.YtdfdlajfjcakaaaGreatW.PrintWords Go.Proofs.YtdfdlajfjcakaaaGreatW.PrintLast Go.Proofs.YtdfdlajfjcakaaaGreatW.PrintMore
attribute [local go_sem] max2_int min2_int max_two min_two max_three min_three max_four min_four   -- for this text's walks alone
set_option linter.unusedVariables false
set_option linter.unusedSimpArgs false

def op_CheckAll.any (k : Nat) : List (S85) → Option Bool
  | [] => some false
  | x :: l => (op_Check.f k x.f0 x.f1 x.f2 x.f3 x.f4 x.f5).bind fun e => if e = 0 then op_CheckAll.any k l else some true
def op_CheckAll.f (k : Nat) (a0_0 : Int) (a0_1 : Int) (l0_2 : List (S85)) : Option (Int) :=
  if 0 ≤ a0_0 ∧ a0_0 ≤ 1000 ∧ 1 ≤ a0_1 ∧ a0_1 ≤ 1048576 ∧ 1 ≤ l0_2.length ∧ l0_2.length ≤ 32 then (op_CheckAll.any k l0_2).bind fun t => some (if t = true then 80 else 0) else some 80
theorem op_CheckAll.mono_any (k : Nat) : ∀ l, LeO (op_CheckAll.any k l) (op_CheckAll.any (k + 1) l)
  | [] => LeO.refl _
  | x :: l => by
    unfold op_CheckAll.any
    exact LeO.bind (op_Check.mono _ _ _ _ _ _ _) (fun _ => LeO.ite (op_CheckAll.mono_any k l) (LeO.refl _))
theorem op_CheckAll.mono : ∀ a0 a1 a2 k, LeO (op_CheckAll.f k a0 a1 a2) (op_CheckAll.f (k + 1) a0 a1 a2) := by
  intro a0 a1 a2 k
  unfold op_CheckAll.f
  exact LeO.ite (LeO.bind (op_CheckAll.mono_any k _) (fun _ => LeO.refl _)) (LeO.refl _)
/-- The function that is handed on: is the operation none? -/
theorem op_CheckAll.part (k : Nat) (x : S85) (e : Int) (w : World) (h : op_Check.f k x.f0 x.f1 x.f2 x.f3 x.f4 x.f5 = some e) :
    Calls Tryz.prog 41 #[.agg #[.int .i64 x.f0, .string x.f1, .string x.f2, .int .i64 x.f3, .int .i64 x.f4, .int .i64 x.f5]] w fun en w' => en = .returned (.bool (e != 0)) ∧ Below w.heap.size w w' := by
  have hu85 := Tryz.underlying85
  have H := Aside0.mk h
  clear h
  go_enter Tryz.func41, Tryz.ntmps41
  go_wp2_with (fail)
  refine (op_Check.calls k x.f0 x.f1 x.f2 x.f3 x.f4 x.f5 e _ H.out).mono ?_
  rintro en w' ⟨rfl, hB⟩
  have hA := (Below.refl w.heap.size w).alloc (Nat.le_refl _) (.cells #[.int .i64 x.f0, .string x.f1, .string x.f2, .int .i64 x.f3, .int .i64 x.f4, .int .i64 x.f5] 85)
  go_wp2
  go_ret
  exact ⟨rfl, Below.trans hA (hB.mono hA.size)⟩
theorem op_CheckAll.any_drop (k : Nat) (l : List S85) (i : Nat) (hi : i < l.length) (t : Bool) (h : op_CheckAll.any k (l.drop i) = some t) :
    ∃ e, op_Check.f k (rd_T85 l (i : Int)).f0 (rd_T85 l (i : Int)).f1 (rd_T85 l (i : Int)).f2 (rd_T85 l (i : Int)).f3 (rd_T85 l (i : Int)).f4 (rd_T85 l (i : Int)).f5 = some e ∧ (e = 0 → op_CheckAll.any k (l.drop (i + 1)) = some t) ∧ (e ≠ 0 → t = true) := by
  have hr : rd_T85 l (i : Int) = l[i] := by
    unfold rd_T85
    rw [Int.toNat_natCast, List.getD_eq_getElem?_getD, List.getElem?_eq_getElem hi]
    rfl
  rw [List.drop_eq_getElem_cons hi] at h
  unfold op_CheckAll.any at h
  obtain ⟨e, h1, h2⟩ := Option.bind_eq_some_iff.1 h
  refine ⟨e, by rw [hr]; exact h1, fun h0 => by rw [if_pos h0] at h2; exact h2, fun h0 => by rw [if_neg h0] at h2; injection h2 with h2; exact h2.symm⟩
set_option maxHeartbeats 2000000 in
theorem op_CheckAll.index (k : Nat) (A : Option Addr) (c : Nat) (l : List (S85)) (t : Bool) (w : World) (hC : Kd.C k85 w A l.length l) (hc : l.length ≤ c) (hl : l.length ≤ 32) (h : op_CheckAll.any k l = some t) :
    Calls Tryz.prog 43 #[.slice A l.length c, .func (.func 41) #[] #[]] w fun en w' => ∃ i : Int, en = .returned (.int .i64 i) ∧ (t = true → 0 ≤ i) ∧ (t = false → i = -1) ∧ Below w.heap.size w w' := by
  have HC := Aside0.mk hC
  have HT := Aside0.mk h
  clear hC h
  go_enter Tryz.func43, Tryz.ntmps43
  go_wp2
  go_loopw [8] (fun v wr => ∃ i : Nat, i ≤ l.length ∧ v = .int .i64 i ∧ Aside0 (op_CheckAll.any k (l.drop i) = some t) ∧ Aside0 (Below w.heap.size w wr)) (fun v _ => l.length - (intOf v).toNat)
  case atStart => exact ⟨0, by omega, rfl, HT, Aside0.mk (Below.refl _ _)⟩
  case round =>
    obtain ⟨i, hi, rfl, HI, HB⟩ := hrel
    by_cases hlt : i < l.length
    · obtain ⟨e, h1, h2, h3⟩ := op_CheckAll.any_drop k l i hlt t HI.out
      obtain ⟨ad, hA, c0, c1, c2, c3, c4, c5⟩ := at_T85 (Kd.C_below HC.out HB.out) (i : Int) (by omega) (by omega)
      subst hA
      simp only [Int.toNat_natCast] at c0 c1 c2 c3 c4 c5
      have HP := Aside0.mk (op_CheckAll.part k (rd_T85 l (i : Int)) e)
      have H2 := Aside0.mk h2
      have H3 := Aside0.mk h3
      have H1 := Aside0.mk h1
      clear h1 h2 h3
      go_wp2_with (fail)
      refine (HP.out _ H1.out).mono ?_
      rintro en w' ⟨rfl, hB⟩
      have HB2 := Aside0.mk (Below.trans HB.out (hB.mono HB.out.size))
      clear hB
      by_cases he : e = 0
      · have q : (e != 0) = false := by simp [he]
        have HI2 := Aside0.mk (H2.out he)
        rw [q]
        clear q he
        go_wp2
        go_roundw
        case rel => exact ⟨i + 1, by omega, by go_num, HI2, HB2⟩
        case measure => simp [intOf]; omega
      · have q : (e != 0) = true := by simp [he]
        have ht := H3.out he
        rw [q]
        clear q he
        go_wp2
        go_ret
        exact ⟨i, rfl, fun _ => by omega, (fun h => absurd (ht.symm.trans h) (by decide)), HB2.out⟩
    · have hil : i = l.length := by omega
      have hT := HI.out
      rw [hil, List.drop_length] at hT
      have ht : t = false := by unfold op_CheckAll.any at hT; injection hT with hT; exact hT.symm
      clear hT
      go_wp2
      go_ret
      exact ⟨-1, rfl, (fun h => absurd (ht.symm.trans h) (by decide)), fun _ => rfl, HB.out⟩
theorem op_CheckAll.contains (k : Nat) (A : Option Addr) (c : Nat) (l : List (S85)) (t : Bool) (w : World) (hC : Kd.C k85 w A l.length l) (hc : l.length ≤ c) (hl : l.length ≤ 32) (h : op_CheckAll.any k l = some t) :
    Calls Tryz.prog 33 #[.slice A l.length c, .func (.func 41) #[] #[]] w fun en w' => en = .returned (.bool t) ∧ Below w.heap.size w w' := by
  have HP := Aside0.mk (op_CheckAll.index k A c l t w hC hc hl h)
  clear hC h
  go_enter Tryz.func33, Tryz.ntmps33
  go_wp2_with (fail)
  refine HP.out.mono ?_
  rintro en w' ⟨i, rfl, h1, h2, hB⟩
  have HB := Aside0.mk hB
  clear hB
  cases t
  · obtain rfl := h2 rfl
    clear h1 h2
    go_wp2
    go_ret
    exact ⟨rfl, HB.out⟩
  · have hi := h1 rfl
    clear h1 h2
    go_wp2
    go_ret
    exact ⟨by simp [hi], HB.out⟩
set_option maxHeartbeats 4000000 in
set_option maxRecDepth 100000 in
theorem op_CheckAll.calls (k : Nat) (a0_0 : Int) (a0_1 : Int) (A0_2 : Option Addr) (c0_2 : Nat) (l0_2 : List (S85)) (r : Int) (w : World) (hr0_2 : Kd.C k85 w A0_2 l0_2.length l0_2) (hc0_2 : l0_2.length ≤ c0_2) (h : op_CheckAll.f k a0_0 a0_1 l0_2 = some r) :
    Calls Tryz.prog 18 #[.agg #[.int .i64 a0_0, .int .i64 a0_1, .slice A0_2 l0_2.length c0_2]] w fun e w' => e = .returned (.int .i64 r) ∧ Below w.heap.size w w' := by
  have hu39 := Tryz.underlying39
  have HC := Aside0.mk hr0_2
  have hlen : l0_2.length ≤ 9223372036854775807 := hr0_2.2.1
  have H := Aside0.mk h
  clear hr0_2 h
  by_cases hL : 1 ≤ l0_2.length ∧ l0_2.length ≤ 32
  · have p1 : (1 : Int) ≤ (l0_2.length : Int) := by omega
    have p2 : (l0_2.length : Int) ≤ 32 := by omega
    clear hL
    go_enter Tryz.func18, Tryz.ntmps18
    go_wp2_with (first | (go_at_call 40; refine (op_in.calls _ _ _ _ _ (op_Check.in_f _ _ _)).mono ?_; rintro e wq ⟨rfl, hDq⟩; obtain ⟨nq, rfl⟩ := hDq.out; clear hDq))
    all_goals have hr := H.out
    all_goals unfold op_CheckAll.f at hr
    all_goals first
    | (rw [if_neg (by omega)] at hr; injection hr with hr; subst hr; go_ret; exact ⟨rfl, by repeat (first | exact Below.refl _ _ | apply below_alloc | apply pw_below_drewN | apply below_drew1)⟩)
    | skip
    rw [if_pos (by omega)] at hr
    obtain ⟨t, ht, h2⟩ := Option.bind_eq_some_iff.1 hr
    have H2 := Aside0.mk h2
    clear h2 hr H
    have hbel : Below w.heap.size w ((w.alloc (.cells #[.int .i64 a0_0, .int .i64 a0_1, .slice A0_2 l0_2.length c0_2] 39))) := (Below.refl _ _).alloc (Nat.le_refl _) _
    refine (op_CheckAll.contains k A0_2 c0_2 l0_2 t _ (Kd.C_below HC.out (by repeat (first | exact Below.refl _ _ | apply below_alloc | apply pw_below_drewN | apply below_drew1))) hc0_2 (by omega) ht).mono ?_
    rintro e w' ⟨rfl, hB⟩
    have hfin : Below w.heap.size w w' := Below.trans (by repeat (first | exact Below.refl _ _ | apply below_alloc | apply pw_below_drewN | apply below_drew1)) (hB.mono (by simp))
    clear hB
    cases t
    · go_wp2
      go_ret
      have h2 := H2.out
      simp only [Bool.false_eq_true, if_false] at h2
      injection h2 with h2
      subst h2
      exact ⟨rfl, hfin⟩
    · go_wp2
      go_ret
      have h2 := H2.out
      simp only [if_true] at h2
      injection h2 with h2
      subst h2
      exact ⟨rfl, hfin⟩
  by_cases h0 : l0_2.length < 1
  · have p1 : decide ((1 : Int) ≤ (l0_2.length : Int)) = false := by simp; omega
    have HBIG := Aside0.mk h0
    clear h0
    go_enter Tryz.func18, Tryz.ntmps18
    go_wp2_with (first | (go_at_call 40; refine (op_in.calls _ _ _ _ _ (op_Check.in_f _ _ _)).mono ?_; rintro e wq ⟨rfl, hDq⟩; obtain ⟨nq, rfl⟩ := hDq.out; clear hDq))
    all_goals have hr := H.out
    all_goals have hbig := HBIG.out
    all_goals unfold op_CheckAll.f at hr
    all_goals
      rw [if_neg (by omega)] at hr
      injection hr with hr
      subst hr
      go_ret
      exact ⟨rfl, by repeat (first | exact Below.refl _ _ | apply below_alloc | apply pw_below_drewN | apply below_drew1)⟩
  · have p1 : decide ((l0_2.length : Int) ≤ 32) = false := by simp; omega
    have hbig : 32 < l0_2.length := by omega
    have HBIG := Aside0.mk hbig
    clear hbig
    have p2 : (1 : Int) ≤ (l0_2.length : Int) := by omega
    clear h0
    go_enter Tryz.func18, Tryz.ntmps18
    go_wp2_with (first | (go_at_call 40; refine (op_in.calls _ _ _ _ _ (op_Check.in_f _ _ _)).mono ?_; rintro e wq ⟨rfl, hDq⟩; obtain ⟨nq, rfl⟩ := hDq.out; clear hDq))
    all_goals have hr := H.out
    all_goals have hbig := HBIG.out
    all_goals unfold op_CheckAll.f at hr
    all_goals
      rw [if_neg (by omega)] at hr
      injection hr with hr
      subst hr
      go_ret
      exact ⟨rfl, by repeat (first | exact Below.refl _ _ | apply below_alloc | apply pw_below_drewN | apply below_drew1)⟩

end Go.Proofs.YtdfdlajfjcakaaaGreat.PAll
