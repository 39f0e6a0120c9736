import Derived.Test.YtdfdlajfjcakaaaGreatCnD
namespace Go.Proofs.YtdfdlajfjcakaaaGreat
open Go Go.RowKit
open Go.Proofs.YtdfdlajfjcakaaaGreatW.PrintLast
set_option linter.unusedVariables false
set_option linter.unusedSimpArgs false
set_option maxRecDepth 100000

/-! What reads of a member: place, neighbour, tail, last, State. -/
def idxI : List Int → Int → Nat → Int
  | [], _, _ => -1
  | y :: l, x, i => if x = y then (i : Int) else idxI l x (i + 1)
theorem idxI_range : ∀ (l : List Int) (x : Int) (i : Nat), idxI l x i = -1 ∨ ((i : Int) ≤ idxI l x i ∧ idxI l x i < (i : Int) + l.length)
  | [], _, _ => .inl rfl
  | y :: l, x, i => by
    unfold idxI
    split
    · right; simp only [List.length_cons]; omega
    · have := idxI_range l x (i + 1)
      simp only [List.length_cons]
      omega
def Mem.place (m : Mem) : Int := idxI m.order m.id 0
def Mem.nb (m : Mem) (b : Int) : Int := if m.place < 0 ∨ m.place + b < 0 ∨ (m.order.length : Int) ≤ m.place + b then -1 else (m.order[(m.place + b).toNat]?).getD 0
def Mem.tail (m : Mem) : Bool := decide (0 ≤ m.place ∧ m.nb 1 = -1)
def Mem.done (m : Mem) : Int := m.behind + (m.way.length : Int)
theorem Mem.place_range (m : Mem) : m.place = -1 ∨ (0 ≤ m.place ∧ m.place < (m.order.length : Int)) := by
  have := idxI_range m.order m.id 0
  unfold Mem.place
  simpa using this
theorem icell_at {w : World} {A : Option Addr} {n c i : Nat} {l : List Int} (h : SegG w icell (.slice A n c) l) (hi : i < l.length) : ∃ ad, A = some ad ∧ w.cell? (ad.add i) = some (.int .i64 l[i]) := by
  obtain ⟨ad, c', hv', hc', hm'⟩ := h.form (by omega)
  injection hv' with hA _ hcc
  subst hA
  have := h.cell (sz := 1) (fun _ => rfl) i 0 hi (by omega)
  rw [Nat.mul_one] at this
  exact ⟨ad, rfl, this⟩
set_option maxHeartbeats 2000000 in
theorem idx_calls (v : Value) (l : List Int) (x : Int) (w : World) (h : SegG w icell v l) (hl : l.length ≤ 1000000) :
    Calls Tryz.prog 59 #[v, .int .i64 x] w fun e w' => e = .returned (.int .i64 (idxI l x 0)) ∧ Below w.heap.size w w' := by
  obtain ⟨A, c, rfl, hc, hmx⟩ := h.shape
  have HH := Lib.hid h
  obtain ⟨R, HR⟩ : ∃ R, Hid (idxI l x 0 = R) := ⟨_, Lib.hid rfl⟩
  rw [HR.out]
  obtain ⟨n, HN⟩ : ∃ n, Hid (l.length = n) := ⟨_, Lib.hid rfl⟩
  have hn : n ≤ 1000000 := by rw [← HN.out]; exact hl
  rw [HN.out] at HH ⊢
  clear h hl hc hmx
  go_enter Tryz.func59, Tryz.ntmps59
  go_wp2_with (fail)
  go_loopg [5, 8] n (fun gg _ s8 wr => ∃ (i : Nat), i ≤ n ∧ n - i ≤ gg ∧ s8 = .int .i64 i ∧ Hid (Below w.heap.size w wr) ∧ Hid (idxI (l.drop i) x i = R))
  case atStart => exact ⟨0, by omega, by omega, rfl, Lib.hid (Below.refl _ _), HR⟩
  case round =>
    obtain ⟨i, hi, hgg, rfl, HB, HI⟩ := hrel
    by_cases hlt : i < n
    · have hz : (i : Int) < (n : Int) := by omega
      have hi0 : (0 : Int) ≤ (i : Int) := by omega
      have hil : i < l.length := by have := HN.out; omega
      have hw5 : IntKind.i64.wrap ((i : Int) + 1) = ((i + 1 : Nat) : Int) := by rw [IntKind.wrap_i64]; omega
      have HI2 := HI.out
      rw [List.drop_eq_getElem_cons hil] at HI2
      unfold idxI at HI2
      obtain ⟨ad, rfl, x0⟩ := icell_at (HH.out.below HB.out) hil
      generalize l[i] = y at x0 HI2
      by_cases hxy : x = y
      · rw [if_pos hxy] at HI2
        subst hxy
        have HI3 := Lib.hid HI2
        clear HI2
        go_wp2
        go_ret
        exact ⟨by rw [HI3.out]; rfl, HB.out⟩
      · rw [if_neg hxy] at HI2
        have HI3 := Lib.hid HI2
        have q : (x == y) = false := by simpa using hxy
        clear HI2 hxy
        go_wp2
        go_roundg (n - (i + 1))
        case measure => omega
        case rel => exact ⟨i + 1, by omega, Nat.le_refl _, by go_num, HB, HI3⟩
    · have hz : ¬ (i : Int) < (n : Int) := by omega
      have HI2 := HI.out
      rw [List.drop_of_length_le (by have := HN.out; omega)] at HI2
      have HI3 := Lib.hid (show (-1 : Int) = R from HI2)
      clear HI2
      go_wp2
      go_ret
      exact ⟨by rw [← HI3.out]; rfl, HB.out⟩
section
variable {w : World} {F : Nat → Prop} {g : Nat} {m : Mem}
set_option maxHeartbeats 2000000 in
theorem place_calls (h : MemAt w F g m) (ho : m.order.length ≤ 1000) :
    Calls Tryz.prog 35 #[.pointer (some ⟨g, 0, none⟩)] w fun e w' => e = .returned (.int .i64 m.place) ∧ Below w.heap.size w w' := by
  obtain ⟨tb, vo, vw, vl, vt, rw_, rt, h, rfl⟩ := h
  have c0 := h.b.cell 0
  have c2 := h.b.cell 2
  have hidx := idx_calls vo m.order m.id w.drew (SegG.of_row h.o) (by omega)
  obtain ⟨A, n, c, rfl⟩ := h.o.some_slice
  obtain ⟨i, HI⟩ : ∃ i, Hid (m.id = i) := ⟨_, Lib.hid rfl⟩
  obtain ⟨p, HP⟩ : ∃ i, Hid (m.place = i) := ⟨_, Lib.hid rfl⟩
  rw [show idxI m.order m.id 0 = m.place from rfl, HP.out, HI.out] at hidx
  rw [HI.out] at c0
  rw [HP.out]
  clear h ho
  go_enter Tryz.func35, Tryz.ntmps35
  go_wp2_with (fail)
  refine start_ (n := 10) (S := fun w' => w'.cell? ⟨g, 2, none⟩ = some (.slice A n c) ∧ w'.cell? ⟨g, 0, none⟩ = some (.int .i64 i)) (ds := []) #[false, false, false, false, false, false, false, false, false, false] (by kernel_rfl) rfl rfl ⟨c2, c0⟩ (fun hHeld => ?_)
  refine pure_ (i := 0) (N := some 3) (v := ?_) (a' := ?_) #[true, false, false, false, false, false, false, false, false, false] rfl rfl (by kernel_rfl) (fun _ _ _ h => h) (Or.inl ⟨by rfl, ?_⟩) ?_ ?_
  rotate_left
  · intro w'
    go_simp
    with_reducible rfl
  rotate_left
  · simp only [Act.put, List.setIfInBounds_toArray, List.set_cons_zero, List.set_cons_succ, i64_w, i32_w]
    rfl
  refine pure_ (i := 1) (N := some 4) (v := ?_) (a' := ?_) #[true, true, false, false, false, false, false, false, false, false] rfl rfl (by kernel_rfl) (fun _ _ _ h => h) (Or.inl ⟨by rfl, ?_⟩) ?_ ?_
  rotate_left
  · intro w'
    go_simp
    with_reducible rfl
  rotate_left
  · simp only [Act.put, List.setIfInBounds_toArray, List.set_cons_zero, List.set_cons_succ, i64_w, i32_w]
    rfl
  refine pure_ (i := 2) (N := some 5) (v := ?_) (a' := ?_) #[true, true, true, false, false, false, false, false, false, false] rfl rfl (by kernel_rfl) (fun _ _ _ h => h) (Or.inl ⟨by rfl, ?_⟩) ?_ ?_
  rotate_left
  · intro w'
    go_simp
    with_reducible rfl
  rotate_left
  · simp only [Act.put, List.setIfInBounds_toArray, List.set_cons_zero, List.set_cons_succ, i64_w, i32_w]
    rfl
  refine pure_ (i := 4) (N := some 7) (v := ?_) (a' := ?_) #[true, true, true, false, true, false, false, false, false, false] rfl rfl (by kernel_rfl) (fun _ _ _ h => h) (Or.inl ⟨by rfl, ?_⟩) ?_ ?_
  rotate_left
  · intro w'
    go_simp
    with_reducible rfl
  rotate_left
  · simp only [Act.put, List.setIfInBounds_toArray, List.set_cons_zero, List.set_cons_succ, i64_w, i32_w]
    rfl
  refine pure_ (i := 5) (N := some 8) (v := ?_) (a' := ?_) #[true, true, true, false, true, true, false, false, false, false] rfl rfl (by kernel_rfl) (fun _ _ _ h => h) (Or.inl ⟨by rfl, ?_⟩) ?_ ?_
  rotate_left
  · intro w'
    go_simp
    with_reducible rfl
  rotate_left
  · simp only [Act.put, List.setIfInBounds_toArray, List.set_cons_zero, List.set_cons_succ, i64_w, i32_w]
    rfl
  refine pure_ (i := 6) (N := some 9) (v := ?_) (a' := ?_) #[true, true, true, false, true, true, true, false, false, false] rfl rfl (by kernel_rfl) (fun _ _ _ h => h) (Or.inl ⟨by rfl, ?_⟩) ?_ ?_
  rotate_left
  · intro w'
    go_simp
    with_reducible rfl
  rotate_left
  · simp only [Act.put, List.setIfInBounds_toArray, List.set_cons_zero, List.set_cons_succ, i64_w, i32_w]
    rfl
  refine take_ (i := 3) (N := some 6) (v := ?_) (a' := ?_) #[true, true, true, true, true, true, true, false, false, false] rfl rfl (by kernel_rfl) (fun _ _ _ h => h) (Or.inl ⟨by rfl, ?_⟩) hHeld ?_ ?_
  rotate_left
  · rintro w' ⟨s0, s1⟩
    go_simp
    with_reducible rfl
  rotate_left
  · simp only [Act.put, List.setIfInBounds_toArray, List.set_cons_zero, List.set_cons_succ, i64_w, i32_w]
    rfl
  refine take_ (i := 7) (N := some 10) (v := ?_) (a' := ?_) #[true, true, true, true, true, true, true, true, false, false] rfl rfl (by kernel_rfl) (fun _ _ _ h => h) (Or.inl ⟨by rfl, ?_⟩) hHeld ?_ ?_
  rotate_left
  · rintro w' ⟨s0, s1⟩
    go_simp
    with_reducible rfl
  rotate_left
  · simp only [Act.put, List.setIfInBounds_toArray, List.set_cons_zero, List.set_cons_succ, i64_w, i32_w]
    rfl
  refine one_ (i := 8) (N := some 11) #[true, true, true, true, true, true, true, true, true, false] rfl rfl (by kernel_rfl) (by decide) (fun K hK => ?_)
  refine goes_ Tryz.func59 (by kernel_rfl) rfl #[.slice A n c, .int .i64 i] (by rfl) rfl rfl (by simp only [List.map_toArray, List.map_cons, List.map_nil]; rfl) ?_
  with_reducible refine (hidx).mono ?_
  rintro e w3 ⟨rfl, hb3⟩
  have HB3 := Lib.hid (show Below w.heap.size w w3 from (Below.refl _ _).drew.trans hb3)
  have hgl : g < w.heap.size := World.block_lt_of_cell? w _ c0
  have c2' := (HB3.out.cell (p := ⟨g, 2, none⟩) hgl).trans c2
  have c0' := (HB3.out.cell (p := ⟨g, 0, none⟩) hgl).trans c0
  clear hb3
  refine ⟨_, rfl, ?_⟩
  refine hK.out _ _ ⟨c2', c0'⟩ (fun hHeld => ?_)
  clear hK K
  refine norm_ (a' := ?_) ?_ ?_
  rotate_left
  · show Act.put _ (some 11) _ = _
    simp only [Act.put, List.setIfInBounds_toArray, List.set_cons_zero, List.set_cons_succ, i64_w, i32_w]
    rfl
  refine pure_ (i := 9) (N := some 2) (v := ?_) (a' := ?_) #[true, true, true, true, true, true, true, true, true, true] rfl rfl (by kernel_rfl) (fun _ _ _ h => h) (Or.inl ⟨by rfl, ?_⟩) ?_ ?_
  rotate_left
  · intro w'
    go_simp
    with_reducible rfl
  rotate_left
  · simp only [Act.put, List.setIfInBounds_toArray, List.set_cons_zero, List.set_cons_succ, i64_w, i32_w]
    rfl
  refine done_ (by kernel_rfl) ?_
  go_wp2
  go_ret
  exact ⟨rfl, HB3.out⟩
set_option maxHeartbeats 2000000 in
theorem nb_calls (b : Int) (hb : b = 1 ∨ b = -1) (h : MemAt w F g m) (ho : m.order.length ≤ 1000) :
    Calls Tryz.prog 48 #[.pointer (some ⟨g, 0, none⟩), .int .i64 b] w fun e w' => e = .returned (.int .i64 (m.nb b)) ∧ Below w.heap.size w w' := by
  have hpl := place_calls h ho
  have hpr := m.place_range
  have HM := Lib.hid h
  obtain ⟨p, HP⟩ : ∃ i, Hid (m.place = i) := ⟨_, Lib.hid rfl⟩
  obtain ⟨n, HN⟩ : ∃ i, Hid (m.order.length = i) := ⟨_, Lib.hid rfl⟩
  rw [HP.out] at hpl hpr
  rw [HN.out] at hpr ho
  have HE := Lib.hid (show m.nb b = if p < 0 ∨ p + b < 0 ∨ (n : Int) ≤ p + b then -1 else (m.order[(p + b).toNat]?).getD 0 by unfold Mem.nb; rw [HP.out, HN.out])
  have hw : IntKind.i64.wrap (p + b) = p + b := by rw [IntKind.wrap_i64]; omega
  clear h
  go_enter Tryz.func48, Tryz.ntmps48
  go_wp2_with (fail)
  refine hpl.mono ?_
  rintro e w2 ⟨rfl, hb2⟩
  have HB2 := Lib.hid hb2
  have hM2 := HM.out.below hb2
  obtain ⟨tb, vo, vw, vl, vt, rw_, rt, hM2, rfl⟩ := hM2
  have c2 := hM2.b.cell 2
  have HO := Lib.hid (SegG.of_row hM2.o)
  obtain ⟨A, c, hv⟩ := hM2.o.shape
  rw [HN.out] at hv
  subst hv
  clear hpl hb2 hM2
  rcases (show p < 0 ∨ (¬ p < 0 ∧ p + b < 0) ∨ (¬ p < 0 ∧ ¬ p + b < 0 ∧ (n : Int) ≤ p + b) ∨ (¬ p < 0 ∧ ¬ p + b < 0 ∧ ¬ (n : Int) ≤ p + b) by omega) with q | q | q | q
  · have HE2 := Lib.hid (show m.nb b = -1 by rw [HE.out, if_pos (.inl q)])
    have q1 : decide (p < 0) = true := decide_eq_true q
    clear q
    go_wp2
    go_ret
    exact ⟨by rw [HE2.out]; rfl, HB2.out⟩
  · have HE2 := Lib.hid (show m.nb b = -1 by rw [HE.out, if_pos (.inr (.inl q.2))])
    have q1 : decide (p < 0) = false := decide_eq_false q.1
    have q2 : decide (p + b < 0) = true := decide_eq_true q.2
    clear q
    go_wp2
    go_ret
    exact ⟨by rw [HE2.out]; rfl, HB2.out⟩
  · have HE2 := Lib.hid (show m.nb b = -1 by rw [HE.out, if_pos (.inr (.inr q.2.2))])
    have q1 : decide (p < 0) = false := decide_eq_false q.1
    have q2 : decide (p + b < 0) = false := decide_eq_false q.2.1
    have q3 : decide ((n : Int) ≤ p + b) = true := decide_eq_true q.2.2
    clear q
    go_wp2
    go_ret
    exact ⟨by rw [HE2.out]; rfl, HB2.out⟩
  · obtain ⟨i, hi⟩ : ∃ i : Nat, p + b = (i : Int) := ⟨(p + b).toNat, by omega⟩
    have hil : i < m.order.length := by have := HN.out; omega
    have HE2 := Lib.hid (show m.nb b = m.order[i] by rw [HE.out, if_neg (by omega), hi, Int.toNat_natCast, List.getElem?_eq_getElem hil]; rfl)
    have q1 : decide (p < 0) = false := decide_eq_false q.1
    have q2 : decide (p + b < 0) = false := decide_eq_false q.2.1
    have q3 : decide ((n : Int) ≤ p + b) = false := decide_eq_false q.2.2
    have q4 : (0 : Int) ≤ (i : Int) := by omega
    have q5 : (i : Int) < (n : Int) := by omega
    have HO2 := HO.out
    rw [show SegG w2 icell (.slice A n c) m.order = SegG w2 icell (.slice A n c) m.order from rfl] at HO2
    obtain ⟨ad, rfl, x0⟩ := icell_at HO2 hil
    rw [hi] at hw q2 q3
    have hw2 : IntKind.i64.wrap (p + b) = (i : Int) := by rw [hi]; exact hw
    have q2' : decide (p + b < 0) = false := by rw [hi]; exact q2
    have q3' : decide ((n : Int) ≤ p + b) = false := by rw [hi]; exact q3
    obtain ⟨y, HY⟩ : ∃ y, Hid (m.order[i] = y) := ⟨_, Lib.hid rfl⟩
    rw [HY.out] at x0 HE2
    clear q hi HO2
    go_wp2
    go_ret
    exact ⟨by rw [HE2.out]; rfl, HB2.out⟩
set_option maxHeartbeats 2000000 in
theorem tail_calls (h : MemAt w F g m) (ho : m.order.length ≤ 1000) :
    Calls Tryz.prog 31 #[.pointer (some ⟨g, 0, none⟩)] w fun e w' => e = .returned (.bool m.tail) ∧ Below w.heap.size w w' := by
  have hpl := place_calls h ho
  have HM := Lib.hid h
  have hnb := fun W (hb : Below w.heap.size w W) => nb_calls 1 (.inl rfl) (h.below hb) ho
  obtain ⟨p, HP⟩ : ∃ i, Hid (m.place = i) := ⟨_, Lib.hid rfl⟩
  obtain ⟨q, HQ⟩ : ∃ i, Hid (m.nb 1 = i) := ⟨_, Lib.hid rfl⟩
  rw [HP.out] at hpl
  rw [HQ.out] at hnb
  have HE := Lib.hid (show m.tail = decide (0 ≤ p ∧ q = -1) by unfold Mem.tail; rw [HP.out, HQ.out])
  rw [HE.out]
  clear h ho
  go_enter Tryz.func31, Tryz.ntmps31
  go_wp2_with (fail)
  refine hpl.mono ?_
  rintro e w2 ⟨rfl, hb2⟩
  have HB2 := Lib.hid hb2
  have hn2 := hnb w2 hb2
  clear hpl hb2 hnb
  by_cases h0 : 0 ≤ p
  · have q1 : decide (0 ≤ p) = true := decide_eq_true h0
    go_wp2_with (fail)
    refine hn2.mono ?_
    rintro e w3 ⟨rfl, hb3⟩
    go_wp2
    go_ret
    refine ⟨?_, HB2.out.trans (hb3.mono HB2.out.size)⟩
    by_cases hq : q = -1 <;> simp [hq, h0]
  · have q1 : decide (0 ≤ p) = false := decide_eq_false h0
    go_wp2
    go_ret
    refine ⟨?_, HB2.out⟩
    simp
    omega
set_option maxHeartbeats 2000000 in
theorem last_calls (h : MemAt w F g m) (hb : 0 ≤ m.behind ∧ m.behind ≤ 1099511627776) (hwl : m.way.length ≤ 1000000) :
    Calls Tryz.prog 37 #[.pointer (some ⟨g, 4, none⟩)] w fun e w' => e = .returned (.int .i64 m.done) ∧ Below w.heap.size w w' := by
  obtain ⟨tb, vo, vw, vl, vt, rw_, rt, h, rfl⟩ := h
  have c4 := h.b.cell 4
  have c5 := h.b.cell 5
  obtain ⟨A, c, hv⟩ := h.r.shape
  subst hv
  obtain ⟨i, HI⟩ : ∃ i, Hid (m.behind = i) := ⟨_, Lib.hid rfl⟩
  obtain ⟨n, HN⟩ : ∃ i, Hid (rw_.length = i) := ⟨_, Lib.hid rfl⟩
  have HE := Lib.hid (show m.done = i + (n : Int) by unfold Mem.done; rw [HI.out, ← h.ri.1, HN.out])
  have hcap := h.r.cap
  rw [HI.out] at c4 hb
  rw [HN.out] at c5 hcap
  have hnl : n ≤ 1000000 := by rw [← HN.out, h.ri.1]; exact hwl
  have hw : IntKind.i64.wrap (i + (n : Int)) = i + (n : Int) := by rw [IntKind.wrap_i64]; omega
  clear h hcap
  rw [HE.out]
  go_enter Tryz.func37, Tryz.ntmps37
  go_wp2_with (fail)
  go_quiet (fail)
  go_wp2
  go_ret
  exact ⟨rfl, below_drewN (Below.refl _ _) _⟩
end
theorem number_calls (n : Int) (w : World) :
    Calls Tryz.prog 73 #[.int .i64 n] w fun e w' => e = .returned (.agg #[.bool false, .int .i64 n, .string ⟨#[]⟩]) ∧ Below w.heap.size w w' := by
  go_enter Tryz.func73, Tryz.ntmps73
  go_wp2
  have h4 := Blk.new w 136 #[.bool false, .int .i64 n, .string ⟨#[]⟩]
  have g0 := h4.cell 0
  have g1 := h4.cell 1
  have g2 := h4.cell 2
  refine bodyPost_ret (v := .agg #[.bool false, .int .i64 n, .string ⟨#[]⟩]) ?_ rfl ⟨rfl, (Below.refl _ _).alloc (Nat.le_refl _) _⟩
  simp [results, Tryz.results73, go_sem, g0, g1, g2]
end Go.Proofs.YtdfdlajfjcakaaaGreat
