-- written by a program of ours (wip/printx: the kit's print, changed in a few places)
import Derived.Test.YtdfdlajfjcakaaaGreatPAllx0
import Derived.Test.YtdfdlajfjcakaaaGreatPAllx1101
namespace Go.Proofs.YtdfdlajfjcakaaaGreat.PAll
open Go.RowKit Go.Proofs.YtdfdlajfjcakaaaGreat.Extra Go.Proofs.YtdfdlajfjcakaaaGreatW.PrintWords Go.Proofs.YtdfdlajfjcakaaaGreatW.PrintLast Go.Proofs.YtdfdlajfjcakaaaGreatW.PrintMore
attribute [local go_sem] max2_int min2_int max_two min_two max_three min_three max_four min_four   -- for this text's walks alone
set_option linter.unusedVariables false
set_option linter.unusedSimpArgs false

def code_field.r : Int → Option (Bool × Int × ByteArray × ByteArray × Int) := fun e => some (false, 0, (⟨#[]⟩ : ByteArray), (⟨#[]⟩ : ByteArray), e)
def code_field.t (c u : Int) (b : ByteArray) : Option (Bool × Int × ByteArray × ByteArray × Int) :=
  if c = 78 then some (false, wrap64 u, (⟨#[]⟩ : ByteArray), b, 0)
  else if wrap64 u < 0 then code_field.r 3
  else if wrap64 u > 262144 then code_field.r 3
  else if (b.size : Int) < wrap64 u then code_field.r 11
  else some (true, 0, b.extract 0 (wrap64 u).toNat, b.extract (wrap64 u).toNat b.size, 0)
def code_field.s (k : Nat) (c m : Int) (b : ByteArray) : Option (Bool × Int × ByteArray × ByteArray × Int) :=
  if m > 8 then code_field.r 3
  else if (b.size : Int) < m then code_field.r 11
  else if m > 0 ∧ bt b (m - 1) = 0 then code_field.r 3
  else (code_unlow_uint64.f k (b.extract 0 m.toNat)).bind fun u => code_field.t c u (b.extract m.toNat b.size)
def code_field.f (k : Nat) (a0 : ByteArray) : Option (Bool × Int × ByteArray × ByteArray × Int) :=
  if a0.size = 0 then none
  else if bt a0 0 ≠ 78 ∧ bt a0 0 ≠ 84 then code_field.r 3
  else if a0.size < 2 then code_field.r 11
  else code_field.s k (bt a0 0) (bt a0 1) (a0.extract 2 a0.size)
theorem code_field.mono : ∀ a0 k, LeO (code_field.f k a0) (code_field.f (k + 1) a0) := by
  intro a0 k
  unfold code_field.f code_field.s
  repeat' first
      | (with_reducible exact code_unlow_uint64.mono _ _)
      | (with_reducible exact LeO.refl _)
      | (with_reducible refine LeO.ite ?_ ?_)
      | (with_reducible refine LeO.bind ?_ (fun _ => ?_))
      | exact code_unlow_uint64.mono _ _
theorem code_field.sizes (s : ByteArray) (a b : Nat) (h : b ≤ s.size) : (s.extract a b).size = b - a := by rw [ByteArray.size_extract]; omega
set_option maxHeartbeats 8000000 in
set_option maxRecDepth 100000 in
theorem code_field.calls (k : Nat) (a0 : ByteArray) (r1 : Bool) (r2 : Int) (r3 : ByteArray) (r4 : ByteArray) (r5 : Int) (w : World) (h : code_field.f k a0 = some (r1, r2, r3, r4, r5)) :
    Calls Tryz.prog 90 #[.string a0] w fun e w' => e = .returned (.tuple #[.agg #[.bool r1, .int .i64 r2, .string r3], .string r4, .int .i64 r5]) ∧ Below w.heap.size w w' := by
  have hu136 := Tryz.underlying136
  have H := h
  clear h
  unfold code_field.f at H
  by_cases h0 : a0.size = 0
  · rw [if_pos h0] at H
    cases H
  rw [if_neg h0] at H
  have hpos : (0 : Int) < (a0.size : Int) := by omega
  have hpos' : 0 < a0.size := by omega
  obtain ⟨c0, e0⟩ : ∃ c : Int, bt a0 0 = c := ⟨_, rfl⟩
  have hx0 : ((a0[0]'hpos').toNat : Int) = c0 := e0 ▸ bt_at a0 0 hpos'
  rw [e0] at H
  clear e0 h0
  by_cases h1 : c0 ≠ 78 ∧ c0 ≠ 84
  · rw [if_pos h1] at H
    obtain ⟨⟩ := H
    have b1 : (c0 != 78) = true := bne_iff_ne.mpr h1.1
    have b2 : (c0 != 84) = true := bne_iff_ne.mpr h1.2
    clear h1
    go_enter Tryz.func90, Tryz.ntmps90
    go_wp2
    refine bodyPost_ret (v := .tuple #[.agg #[.bool false, .int .i64 0, .string (⟨#[]⟩ : ByteArray)], .string (⟨#[]⟩ : ByteArray), .int .i64 3]) (by simp [results, Tryz.results90, go_sem]) rfl ⟨rfl, (Below.refl _ _).alloc (Nat.le_refl _) _⟩
  rw [if_neg h1] at H
  by_cases h2 : a0.size < 2
  · rw [if_pos h2] at H
    obtain ⟨⟩ := H
    have q2 : decide ((a0.size : Int) < 2) = true := by simp; omega
    clear h2
    by_cases h3 : c0 = 78
    · subst h3
      clear h1
      go_enter Tryz.func90, Tryz.ntmps90
      go_wp2
      refine bodyPost_ret (v := .tuple #[.agg #[.bool false, .int .i64 0, .string (⟨#[]⟩ : ByteArray)], .string (⟨#[]⟩ : ByteArray), .int .i64 11]) (by simp [results, Tryz.results90, go_sem]) rfl ⟨rfl, (Below.refl _ _).alloc (Nat.le_refl _) _⟩
    · obtain rfl : c0 = 84 := by omega
      clear h1 h3
      go_enter Tryz.func90, Tryz.ntmps90
      go_wp2
      refine bodyPost_ret (v := .tuple #[.agg #[.bool false, .int .i64 0, .string (⟨#[]⟩ : ByteArray)], .string (⟨#[]⟩ : ByteArray), .int .i64 11]) (by simp [results, Tryz.results90, go_sem]) rfl ⟨rfl, (Below.refl _ _).alloc (Nat.le_refl _) _⟩
  rw [if_neg h2] at H
  have q2 : decide ((a0.size : Int) < 2) = false := by simp; omega
  have hs2 : (2 : Int) ≤ (a0.size : Int) := by omega
  have hs2' : 1 < a0.size := by omega
  obtain ⟨m, e1⟩ : ∃ m : Nat, bt a0 1 = (m : Int) := ⟨(bt a0 1).toNat, by have := (bt_range a0 1).1; omega⟩
  have hx1 : ((a0[1]'hs2').toNat : Int) = (m : Int) := e1 ▸ bt_at a0 1 hs2'
  have hm : (m : Int) ≤ 255 := e1 ▸ (bt_range a0 1).2
  rw [e1] at H
  clear e1 h2
  obtain ⟨b, eb⟩ : ∃ b : ByteArray, a0.extract 2 a0.size = b := ⟨_, rfl⟩
  rw [eb] at H
  unfold code_field.s at H
  have hk : (c0 = 78 ∨ c0 = 84) := by omega
  clear h1
  by_cases h4 : (m : Int) > 8
  · rw [if_pos h4] at H
    obtain ⟨⟩ := H
    rcases hk with rfl | rfl
    all_goals
      go_enter Tryz.func90, Tryz.ntmps90
      go_wp2
      refine bodyPost_ret (v := .tuple #[.agg #[.bool false, .int .i64 0, .string (⟨#[]⟩ : ByteArray)], .string (⟨#[]⟩ : ByteArray), .int .i64 3]) (by simp [results, Tryz.results90, go_sem]) rfl ⟨rfl, (Below.refl _ _).alloc (Nat.le_refl _) _⟩
  rw [if_neg h4] at H
  have h4' : (m : Int) ≤ 8 := by omega
  clear h4
  by_cases h5 : (b.size : Int) < (m : Int)
  · rw [if_pos h5] at H
    obtain ⟨⟩ := H
    rcases hk with rfl | rfl
    all_goals
      go_enter Tryz.func90, Tryz.ntmps90
      go_wp2
      refine bodyPost_ret (v := .tuple #[.agg #[.bool false, .int .i64 0, .string (⟨#[]⟩ : ByteArray)], .string (⟨#[]⟩ : ByteArray), .int .i64 11]) (by simp [results, Tryz.results90, go_sem]) rfl ⟨rfl, (Below.refl _ _).alloc (Nat.le_refl _) _⟩
  rw [if_neg h5] at H
  have h5' : (m : Int) ≤ (b.size : Int) := by omega
  have q5 : decide ((b.size : Int) < (m : Int)) = false := by simp; omega
  clear h5
  by_cases h6 : (m : Int) > 0 ∧ bt b ((m : Int) - 1) = 0
  · rw [if_pos h6] at H
    obtain ⟨⟩ := H
    have q6 : (0 : Int) < (m : Int) := h6.1
    have hlt : m - 1 < b.size := by omega
    have hx6 : ((b[m - 1]'hlt).toNat : Int) = 0 := by
      have := bt_at b ((m : Int) - 1) (by omega)
      rw [h6.2] at this
      simp only [show ((m : Int) - 1).toNat = m - 1 by omega] at this
      exact this
    clear h6
    rcases hk with rfl | rfl
    all_goals
      go_enter Tryz.func90, Tryz.ntmps90
      go_wp2
      refine bodyPost_ret (v := .tuple #[.agg #[.bool false, .int .i64 0, .string (⟨#[]⟩ : ByteArray)], .string (⟨#[]⟩ : ByteArray), .int .i64 3]) (by simp [results, Tryz.results90, go_sem]) rfl ⟨rfl, (Below.refl _ _).alloc (Nat.le_refl _) _⟩
  rw [if_neg h6] at H
  obtain ⟨u, hu, H⟩ := Option.bind_eq_some_iff.mp H
  have hu' := Aside0.mk hu
  clear hu
  obtain ⟨b1, eb1⟩ : ∃ x : ByteArray, b.extract 0 m = x := ⟨_, rfl⟩
  obtain ⟨b2, eb2⟩ : ∃ x : ByteArray, b.extract m b.size = x := ⟨_, rfl⟩
  simp only [Int.toNat_natCast, eb1, eb2] at hu' H
  -- the last byte that follows is none, or not 0
  have hw6 : m = 0 ∨ (0 < m ∧ ∃ c6 : Int, c6 ≠ 0 ∧ ∀ hlt : m - 1 < b.size, ((b[m - 1]'hlt).toNat : Int) = c6) := by
    rcases Nat.eq_zero_or_pos m with h | h
    · exact .inl h
    · refine .inr ⟨h, bt b ((m : Int) - 1), fun hh => h6 ⟨by omega, hh⟩, fun hlt => ?_⟩
      have := bt_at b ((m : Int) - 1) (by omega)
      simp only [show ((m : Int) - 1).toNat = m - 1 by omega] at this
      exact this
  clear h6
  obtain ⟨n, en⟩ : ∃ n : Int, wrap64 u = n := ⟨_, rfl⟩
  unfold code_field.t at H
  rw [en] at H
  have hcase : ∀ (P : Prop), ((m : Int) ≤ 0 → P) → (∀ c6 : Int, (0 : Int) < (m : Int) → (c6 == 0) = false → (∀ hlt : m - 1 < b.size, ((b[m - 1]'hlt).toNat : Int) = c6) → P) → P := fun P f g => hw6.elim (fun h => f (by omega)) (fun ⟨h, c6, hc, hb⟩ => g c6 (by omega) (by simpa using hc) hb)
  clear hw6
  have hbelow : ∀ (nq : Nat) (o : Obj), Below w.heap.size w ((w.alloc o).drewN nq) := fun nq o => pw_below_drewN ((Below.refl _ _).alloc (Nat.le_refl _) _) nq
  by_cases h7 : c0 = 78
  · obtain rfl := h7
    rw [if_pos rfl] at H
    obtain ⟨⟩ := H
    have hbel := Aside0.mk hbelow
    clear hbelow hk
    refine hcase _ (fun hm0 => ?_) (fun c6 hm0 hc6 hx6 => ?_)
    all_goals
      clear hcase
      go_enter Tryz.func90, Tryz.ntmps90
      go_wp2_with (go_at_call 101; refine (code_unlow_uint64.calls k b1 u _ hu'.out).mono ?_; rintro e w' ⟨rfl, hd⟩; obtain ⟨⟨nq, rfl⟩⟩ := hd)
      refine bodyPost_ret (v := .tuple #[.agg #[.bool false, .int .i64 r2, .string (⟨#[]⟩ : ByteArray)], .string r4, .int .i64 0]) (by simp [results, Tryz.results90, go_sem]) rfl ⟨rfl, ?_⟩
      repeat (first | exact Below.refl _ _ | exact hbel.out _ _ | apply below_alloc | apply pw_below_drewN | apply below_drew1 | refine below_set ?_ (Nat.le_refl _))
  obtain rfl : c0 = 84 := by omega
  rw [if_neg h7] at H
  clear h7 hk
  have hbel := Aside0.mk hbelow
  clear hbelow
  by_cases h8 : n < 0
  · rw [if_pos h8] at H
    obtain ⟨⟩ := H
    refine hcase _ (fun hm0 => ?_) (fun c6 hm0 hc6 hx6 => ?_)
    all_goals
      clear hcase
      go_enter Tryz.func90, Tryz.ntmps90
      go_wp2_with (go_at_call 101; refine (code_unlow_uint64.calls k b1 u _ hu'.out).mono ?_; rintro e w' ⟨rfl, hd⟩; obtain ⟨⟨nq, rfl⟩⟩ := hd)
      refine bodyPost_ret (v := .tuple #[.agg #[.bool false, .int .i64 0, .string (⟨#[]⟩ : ByteArray)], .string (⟨#[]⟩ : ByteArray), .int .i64 3]) (by simp [results, Tryz.results90, go_sem]) rfl ⟨rfl, ?_⟩
      repeat (first | exact Below.refl _ _ | exact hbel.out _ _ | apply below_alloc | apply pw_below_drewN | apply below_drew1 | refine below_set ?_ (Nat.le_refl _))
  rw [if_neg h8] at H
  have q8 : (0 : Int) ≤ n := by omega
  clear h8
  by_cases h9 : n > 262144
  · rw [if_pos h9] at H
    obtain ⟨⟩ := H
    refine hcase _ (fun hm0 => ?_) (fun c6 hm0 hc6 hx6 => ?_)
    all_goals
      clear hcase
      go_enter Tryz.func90, Tryz.ntmps90
      go_wp2_with (go_at_call 101; refine (code_unlow_uint64.calls k b1 u _ hu'.out).mono ?_; rintro e w' ⟨rfl, hd⟩; obtain ⟨⟨nq, rfl⟩⟩ := hd)
      refine bodyPost_ret (v := .tuple #[.agg #[.bool false, .int .i64 0, .string (⟨#[]⟩ : ByteArray)], .string (⟨#[]⟩ : ByteArray), .int .i64 3]) (by simp [results, Tryz.results90, go_sem]) rfl ⟨rfl, ?_⟩
      repeat (first | exact Below.refl _ _ | exact hbel.out _ _ | apply below_alloc | apply pw_below_drewN | apply below_drew1 | refine below_set ?_ (Nat.le_refl _))
  rw [if_neg h9] at H
  have q9 : n ≤ (262144 : Int) := by omega
  clear h9
  by_cases h10 : (b2.size : Int) < n
  · rw [if_pos h10] at H
    obtain ⟨⟩ := H
    refine hcase _ (fun hm0 => ?_) (fun c6 hm0 hc6 hx6 => ?_)
    all_goals
      clear hcase
      go_enter Tryz.func90, Tryz.ntmps90
      go_wp2_with (go_at_call 101; refine (code_unlow_uint64.calls k b1 u _ hu'.out).mono ?_; rintro e w' ⟨rfl, hd⟩; obtain ⟨⟨nq, rfl⟩⟩ := hd)
      refine bodyPost_ret (v := .tuple #[.agg #[.bool false, .int .i64 0, .string (⟨#[]⟩ : ByteArray)], .string (⟨#[]⟩ : ByteArray), .int .i64 11]) (by simp [results, Tryz.results90, go_sem]) rfl ⟨rfl, ?_⟩
      repeat (first | exact Below.refl _ _ | exact hbel.out _ _ | apply below_alloc | apply pw_below_drewN | apply below_drew1 | refine below_set ?_ (Nat.le_refl _))
  rw [if_neg h10] at H
  have q10 : n ≤ (b2.size : Int) := by omega
  clear h10
  obtain ⟨b3, eb3⟩ : ∃ x : ByteArray, b2.extract 0 n.toNat = x := ⟨_, rfl⟩
  obtain ⟨b4, eb4⟩ : ∃ x : ByteArray, b2.extract n.toNat b2.size = x := ⟨_, rfl⟩
  rw [eb3, eb4] at H
  obtain ⟨⟩ := H
  refine hcase _ (fun hm0 => ?_) (fun c6 hm0 hc6 hx6 => ?_)
  all_goals
    clear hcase
    go_enter Tryz.func90, Tryz.ntmps90
    go_wp2_with (go_at_call 101; refine (code_unlow_uint64.calls k b1 u _ hu'.out).mono ?_; rintro e w' ⟨rfl, hd⟩; obtain ⟨⟨nq, rfl⟩⟩ := hd)
    go_region
    all_goals
      go_wp2
      refine bodyPost_ret (v := .tuple #[.agg #[.bool true, .int .i64 0, .string r3], .string r4, .int .i64 0]) (by simp [results, Tryz.results90, go_sem]) rfl ⟨rfl, ?_⟩
      repeat (first | exact Below.refl _ _ | exact hbel.out _ _ | apply below_alloc | apply pw_below_drewN | apply below_drew1 | refine below_set ?_ (Nat.le_refl _))

end Go.Proofs.YtdfdlajfjcakaaaGreat.PAll
