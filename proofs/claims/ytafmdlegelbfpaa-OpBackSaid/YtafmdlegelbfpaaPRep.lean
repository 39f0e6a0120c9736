-- written by a program of ours (a template of wip/pure, filled for this seat)
import Derived.Test.YtafmdlegelbfpaaHDecodeReply
import Derived.Test.YtafmdlegelbfpaaHEncodeReply
import Derived.Test.YtafmdlegelbfpaaHReader
import Derived.Test.YtafmdlegelbfpaaHWriter
import Derived.Test.YtafmdlegelbfpaaPAllx0
import Derived.Test.YtafmdlegelbfpaaPRead
/-! Requests and replies there and back: plain. -/
namespace Go.Proofs.Ytafmdlegelbfpaa.Pure
set_option linter.unusedVariables false
set_option linter.unusedSimpArgs false
open Go Go.RowKit Go.Proofs.Ytafmdlegelbfpaa.PAll Go.Proofs.YtafmdlegelbfpaaW.PrintWords Go.Proofs.YtafmdlegelbfpaaW.PrintLast Go.Proofs.Ytafmdlegelbfpaa.Bytes Go.Proofs.Ytafmdlegelbfpaa.Fn

theorem rnum_mark {s : List S110 × Bool} (h : (rnum s).2.2 = true) : s.2 = true := by
  obtain ⟨l, k⟩ := s
  cases l with
  | nil => rw [rnum_nil] at h; cases h
  | cons x l =>
    rw [rnum_cons] at h
    split at h
    · exact h
    · cases h
theorem rtxt_mark {s : List S110 × Bool} (h : (rtxt s).2.2 = true) : s.2 = true := by
  obtain ⟨l, k⟩ := s
  cases l with
  | nil => rw [rtxt_nil] at h; cases h
  | cons x l =>
    rw [rtxt_cons] at h
    split at h
    · exact h
    · cases h
theorem rnum_sub (s : List S110 × Bool) : (rnum s).2.1.length ≤ s.1.length ∧ (Canon s.1 → Canon (rnum s).2.1) := by
  obtain ⟨l, k⟩ := s
  cases l with
  | nil => exact ⟨Nat.le_refl _, fun h => h⟩
  | cons x l =>
    rw [rnum_cons]
    split
    · exact ⟨by simp, fun h y hy => h y (List.mem_cons_of_mem _ hy)⟩
    · exact ⟨by simp, fun h y hy => by cases hy⟩
theorem rtxt_sub (s : List S110 × Bool) : (rtxt s).2.1.length ≤ s.1.length ∧ (Canon s.1 → Canon (rtxt s).2.1) := by
  obtain ⟨l, k⟩ := s
  cases l with
  | nil => exact ⟨Nat.le_refl _, fun h => h⟩
  | cons x l =>
    rw [rtxt_cons]
    split
    · exact ⟨by simp, fun h y hy => h y (List.mem_cons_of_mem _ hy)⟩
    · exact ⟨by simp, fun h y hy => by cases hy⟩
def RowR (y : S101) : Prop := NumR y.f1
theorem rrow_fwd (y : S101) (h : RowR y) (l : List S110) : rrow (rowF y ++ l, true) = (y, (l, true)) := by
  show rrow (fT y.f0 :: fN y.f1 :: fT y.f2 :: l, true) = _
  unfold rrow
  simp only [rtxt_fT, rnum_fN (show NumR y.f1 from h)]
theorem rrow_back {s : List S110 × Bool} (hc : Canon s.1) (h : (rrow s).2.2 = true) : s.1 = rowF (rrow s).1 ++ (rrow s).2.1 ∧ s.2 = true ∧ Canon (rrow s).2.1 ∧ RowR (rrow s).1 := by
  have h' : (rtxt (rnum (rtxt s).2).2).2.2 = true := h
  obtain ⟨a, ea⟩ : ∃ a, rtxt s = a := ⟨_, rfl⟩
  obtain ⟨b, eb⟩ : ∃ b, rnum a.2 = b := ⟨_, rfl⟩
  obtain ⟨c, ec⟩ : ∃ c, rtxt b.2 = c := ⟨_, rfl⟩
  have hr : rrow s = (⟨a.1, b.1, c.1⟩, c.2) := by unfold rrow; rw [ea, eb, ec]
  rw [ea, eb, ec] at h'
  have e2 : (rtxt b.2).2.2 = true := by rw [ec]; exact h'
  have e1 : (rnum a.2).2.2 = true := by rw [eb]; exact rtxt_mark e2
  have e0 : (rtxt s).2.2 = true := by rw [ea]; exact rnum_mark e1
  obtain ⟨g0, k0, c0⟩ := rtxt_back hc e0
  rw [ea] at g0 c0
  obtain ⟨g1, _, c1, n1⟩ := rnum_back c0 e1
  rw [eb] at g1 c1 n1
  obtain ⟨g2, _, c2⟩ := rtxt_back c1 e2
  rw [ec] at g2 c2
  rw [hr]
  refine ⟨?_, k0, c2, n1⟩
  rw [g0, g1, g2]
  rfl
theorem rows_fwd (rest : List S110) : ∀ (l : List S101) (i : Nat) (acc : List S101), (∀ x ∈ l, RowR x) → acc.length + l.length < 2199023255552 →
    Ev (fun k => op_DecodeReply.l1 k ((i + l.length : Nat) : Int) (i : Int) (l.flatMap rowF ++ rest, true) acc) (acc ++ l, (rest, true))
  | [], i, acc, _, _ => by
    refine Ev.step (f := fun _ => some (acc ++ [], (rest, true))) (fun k => ?_) (Ev.now _)
    rw [op_DecodeReply.l1, if_neg (by simp), List.append_nil]
    rfl
  | x :: l, i, acc, h, hl => by
    have ih := rows_fwd rest l (i + 1) (acc ++ [x]) (fun y hy => h y (List.mem_cons_of_mem _ hy)) (by simp only [List.length_append, List.length_cons, List.length_nil] at hl ⊢; omega)
    have e : acc ++ (x :: l) = (acc ++ [x]) ++ l := by simp
    rw [e]
    refine Ev.step (fun k => ?_) ih
    rw [op_DecodeReply.l1, if_pos (by simp only [List.length_cons]; omega), if_pos rfl, if_pos (by simp only [List.length_cons] at hl; omega)]
    rw [List.flatMap_cons, List.append_assoc, rrow_fwd x (h x List.mem_cons_self)]
    simp only [List.length_cons]
    rw [show i + (l.length + 1) = i + 1 + l.length by omega]
    rfl
theorem rows_ex (n : Int) : ∀ (m : Nat) (s : List S110 × Bool) (i : Int) (acc : List S101), s.1.length ≤ m → Canon s.1 → acc.length + m + 2 < 2199023255552 →
    ∃ (xs : List S101) (s' : List S110 × Bool), Ev (fun k => op_DecodeReply.l1 k n i s acc) (acc ++ xs, s') ∧ (s'.2 = true → s.2 = true ∧ s.1 = xs.flatMap rowF ++ s'.1 ∧ (xs.length : Int) = max 0 (n - i)) := by
  intro m
  induction m with
  | zero =>
    intro s i acc hm hc ha
    obtain ⟨l, k⟩ := s
    obtain rfl : l = [] := List.eq_nil_of_length_eq_zero (by simpa using hm)
    by_cases hi : i < n
    · cases k
      · refine ⟨[], ([], false), Ev.step (f := fun _ => some (acc ++ [], ([], false))) (fun k => ?_) (Ev.now _), fun h => by cases h⟩
        rw [op_DecodeReply.l1, if_pos hi, if_neg (by decide), List.append_nil]
      · refine ⟨[(rrow ([], true)).1], ([], false), Ev.step (f := fun k => op_DecodeReply.l1 k n (i + 1) ([], false) (acc ++ [(rrow ([], true)).1])) (fun k => ?_) (Ev.step (f := fun _ => some (acc ++ [(rrow ([], true)).1], ([], false))) (fun k => ?_) (Ev.now _)), fun h => by cases h⟩
        · rw [op_DecodeReply.l1, if_pos hi, if_pos rfl, if_pos (by omega)]
          rfl
        · rw [op_DecodeReply.l1]
          by_cases h2 : i + 1 < n
          · rw [if_pos h2, if_neg (by decide)]
          · rw [if_neg h2]
    · refine ⟨[], ([], k), Ev.step (f := fun _ => some (acc ++ [], ([], k))) (fun k => ?_) (Ev.now _), fun h => ⟨h, rfl, by simp only [List.length_nil]; omega⟩⟩
      rw [op_DecodeReply.l1, if_neg hi, List.append_nil]
  | succ m ih =>
    intro s i acc hm hc ha
    by_cases hi : i < n
    · cases hk : s.2
      · refine ⟨[], s, Ev.step (f := fun _ => some (acc ++ [], s)) (fun k => ?_) (Ev.now _), fun h => by rw [hk] at h; cases h⟩
        rw [op_DecodeReply.l1, if_pos hi, if_neg (by rw [hk]; decide), List.append_nil]
      · cases hr : (rrow s).2.2
        · refine ⟨[(rrow s).1], (rrow s).2, Ev.step (f := fun k => op_DecodeReply.l1 k n (i + 1) (rrow s).2 (acc ++ [(rrow s).1])) (fun k => ?_) (Ev.step (f := fun _ => some (acc ++ [(rrow s).1], (rrow s).2)) (fun k => ?_) (Ev.now _)), fun h => by rw [hr] at h; cases h⟩
          · rw [op_DecodeReply.l1, if_pos hi, if_pos hk, if_pos (by omega)]
          · rw [op_DecodeReply.l1]
            by_cases h2 : i + 1 < n
            · rw [if_pos h2, if_neg (by rw [hr]; decide)]
            · rw [if_neg h2]
        · obtain ⟨g, _, c', _⟩ := rrow_back hc hr
          have hlen : (rrow s).2.1.length ≤ m := by
            have := congrArg List.length g
            simp only [List.length_append, rowF, List.length_cons, List.length_nil] at this
            omega
          obtain ⟨xs, s', h1, h2⟩ := ih (rrow s).2 (i + 1) (acc ++ [(rrow s).1]) hlen c' (by simp only [List.length_append, List.length_cons, List.length_nil]; omega)
          refine ⟨(rrow s).1 :: xs, s', ?_, fun h => ?_⟩
          · rw [show acc ++ (rrow s).1 :: xs = (acc ++ [(rrow s).1]) ++ xs by simp]
            refine Ev.step (fun k => ?_) h1
            rw [op_DecodeReply.l1, if_pos hi, if_pos hk, if_pos (by omega)]
          · obtain ⟨_, g2, g3⟩ := h2 h
            refine ⟨rfl, ?_, ?_⟩
            · rw [g, g2, List.flatMap_cons, List.append_assoc]
            · simp only [List.length_cons]; omega
    · refine ⟨[], s, Ev.step (f := fun _ => some (acc ++ [], s)) (fun k => ?_) (Ev.now _), fun h => ⟨h, rfl, by simp only [List.length_nil]; omega⟩⟩
      rw [op_DecodeReply.l1, if_neg hi, List.append_nil]
def ResR (x : S99) : Prop := NumR x.f0 ∧ NumR x.f1 ∧ (∀ y ∈ x.f3, RowR y) ∧ x.f3.length ≤ 1048576
/-- A result's head: three values and how many rows. -/
def rhead (s : List S110 × Bool) : (Int × Int × ByteArray × Int) × (List S110 × Bool) :=
  (((rnum s).1, (rnum (rnum s).2).1, (rtxt (rnum (rnum s).2).2).1, (rnum (rtxt (rnum (rnum s).2).2).2).1), (rnum (rtxt (rnum (rnum s).2).2).2).2)
theorem rhead_fwd (x : S99) (h : ResR x) (l : List S110) : rhead (resF x ++ l, true) = ((x.f0, x.f1, x.f2, (x.f3.length : Int)), (x.f3.flatMap rowF ++ l, true)) := by
  obtain ⟨h0, h1, _, h3⟩ := h
  show rhead (fN x.f0 :: fN x.f1 :: fT x.f2 :: fN (x.f3.length : Int) :: (x.f3.flatMap rowF ++ l), true) = _
  unfold rhead
  have h4 : NumR (x.f3.length : Int) := ⟨by omega, by omega⟩
  simp only [rnum_fN h0, rtxt_fT, rnum_fN h1, rnum_fN h4]
theorem rhead_back {s : List S110 × Bool} (hc : Canon s.1) (h : (rhead s).2.2 = true) : s.1 = [fN (rhead s).1.1, fN (rhead s).1.2.1, fT (rhead s).1.2.2.1, fN (rhead s).1.2.2.2] ++ (rhead s).2.1 ∧ s.2 = true ∧ Canon (rhead s).2.1 ∧ NumR (rhead s).1.2.2.2 := by
  have h' : (rnum (rtxt (rnum (rnum s).2).2).2).2.2 = true := h
  obtain ⟨a, ea⟩ : ∃ a, rnum s = a := ⟨_, rfl⟩
  obtain ⟨b, eb⟩ : ∃ b, rnum a.2 = b := ⟨_, rfl⟩
  obtain ⟨c, ec⟩ : ∃ c, rtxt b.2 = c := ⟨_, rfl⟩
  obtain ⟨d, ed⟩ : ∃ d, rnum c.2 = d := ⟨_, rfl⟩
  have hr : rhead s = ((a.1, b.1, c.1, d.1), d.2) := by unfold rhead; rw [ea, eb, ec, ed]
  rw [ea, eb, ec, ed] at h'
  have e3 : (rnum c.2).2.2 = true := by rw [ed]; exact h'
  have e2 : (rtxt b.2).2.2 = true := by rw [ec]; exact rnum_mark e3
  have e1 : (rnum a.2).2.2 = true := by rw [eb]; exact rtxt_mark e2
  have e0 : (rnum s).2.2 = true := by rw [ea]; exact rnum_mark e1
  obtain ⟨g0, k0, c0, n0⟩ := rnum_back hc e0
  rw [ea] at g0 c0 n0
  obtain ⟨g1, _, c1, n1⟩ := rnum_back c0 e1
  rw [eb] at g1 c1 n1
  obtain ⟨g2, _, c2⟩ := rtxt_back c1 e2
  rw [ec] at g2 c2
  obtain ⟨g3, _, c3, n3⟩ := rnum_back c2 e3
  rw [ed] at g3 c3 n3
  rw [hr]
  refine ⟨?_, k0, c3, n3⟩
  rw [g0, g1, g2, g3]
  rfl
theorem rhead_sub (s : List S110 × Bool) : (rhead s).2.1.length ≤ s.1.length ∧ (Canon s.1 → Canon (rhead s).2.1) := by
  have h1 := rnum_sub s
  have h2 := rnum_sub (rnum s).2
  have h3 := rtxt_sub (rnum (rnum s).2).2
  have h4 := rnum_sub (rtxt (rnum (rnum s).2).2).2
  exact ⟨Nat.le_trans h4.1 (Nat.le_trans h3.1 (Nat.le_trans h2.1 h1.1)), fun h => h4.2 (h3.2 (h2.2 (h1.2 h)))⟩
theorem l0_one (k : Nat) (n i : Int) (s : List S110 × Bool) (acc : List S99) : op_DecodeReply.l0 (k + 1) n i s acc = if i < n then (if s.2 = true then ((op_DecodeReply.l1 k (rhead s).1.2.2.2 0 (rhead s).2 []).bind fun r =>
      if acc.length < 2199023255552 then op_DecodeReply.l0 k n (i + 1) r.2 (acc ++ [⟨(rhead s).1.1, (rhead s).1.2.1, (rhead s).1.2.2.1, r.1⟩]) else none) else some (acc, s)) else some (acc, s) := rfl
theorem ress_fwd (rest : List S110) : ∀ (l : List S99) (i : Nat) (acc : List S99), (∀ x ∈ l, ResR x) → acc.length + l.length < 2199023255552 →
    Ev (fun k => op_DecodeReply.l0 k ((i + l.length : Nat) : Int) (i : Int) (l.flatMap resF ++ rest, true) acc) (acc ++ l, (rest, true))
  | [], i, acc, _, _ => by
    refine Ev.step (f := fun _ => some (acc ++ [], (rest, true))) (fun k => ?_) (Ev.now _)
    rw [l0_one, if_neg (by simp), List.append_nil]
    rfl
  | x :: l, i, acc, h, hl => by
    have hx := h x List.mem_cons_self
    have ih := ress_fwd rest l (i + 1) (acc ++ [x]) (fun y hy => h y (List.mem_cons_of_mem _ hy)) (by simp only [List.length_append, List.length_cons, List.length_nil] at hl ⊢; omega)
    have hr := rows_fwd (l.flatMap resF ++ rest) x.f3 0 [] hx.2.2.1 (by have := hx.2.2.2; simp only [List.length_nil]; omega)
    have e : acc ++ (x :: l) = (acc ++ [x]) ++ l := by simp
    rw [e]
    refine Ev.step (f := fun k => (op_DecodeReply.l1 k (x.f3.length : Int) 0 (x.f3.flatMap rowF ++ (l.flatMap resF ++ rest), true) []).bind fun r => if acc.length < 2199023255552 then op_DecodeReply.l0 k ((i + (x :: l).length : Nat) : Int) ((i : Int) + 1) r.2 (acc ++ [⟨x.f0, x.f1, x.f2, r.1⟩]) else none) (fun k => ?_) ?_
    · rw [l0_one, if_pos (by simp only [List.length_cons]; omega), if_pos rfl, List.flatMap_cons, List.append_assoc, rhead_fwd x hx]
    · simp only [Nat.zero_add, List.nil_append] at hr
      refine Ev.bind hr ?_
      refine Ev.congr (fun k => ?_) ih
      rw [if_pos (by simp only [List.length_cons] at hl; omega)]
      simp only [List.length_cons]
      rw [show i + (l.length + 1) = i + 1 + l.length by omega]
      rfl
theorem ress_ex (n : Int) : ∀ (m : Nat) (s : List S110 × Bool) (i : Int) (acc : List S99), s.1.length ≤ m → Canon s.1 → acc.length + m + 2 < 2199023255552 →
    ∃ (xs : List S99) (s' : List S110 × Bool), Ev (fun k => op_DecodeReply.l0 k n i s acc) (acc ++ xs, s') ∧ (s'.2 = true → s.2 = true ∧ s.1 = xs.flatMap resF ++ s'.1 ∧ (xs.length : Int) = max 0 (n - i)) := by
  intro m
  induction m with
  | zero =>
    intro s i acc hm hc ha
    obtain ⟨l, k⟩ := s
    obtain rfl : l = [] := List.eq_nil_of_length_eq_zero (by simpa using hm)
    by_cases hi : i < n
    · cases k
      · refine ⟨[], ([], false), Ev.step (f := fun _ => some (acc ++ [], ([], false))) (fun k => ?_) (Ev.now _), fun h => by cases h⟩
        rw [l0_one, if_pos hi, if_neg (by decide), List.append_nil]
      · have eh : rhead ([], true) = ((0, 0, ⟨#[]⟩, 0), ([], false)) := rfl
        refine ⟨[⟨0, 0, ⟨#[]⟩, []⟩], ([], false), Ev.step (f := fun k => (op_DecodeReply.l1 k 0 0 ([], false) []).bind fun r => if acc.length < 2199023255552 then op_DecodeReply.l0 k n (i + 1) r.2 (acc ++ [⟨0, 0, ⟨#[]⟩, r.1⟩]) else none) (fun k => ?_) (Ev.bind (a := ([], ([], false))) (Ev.step (f := fun _ => some ([], ([], false))) (fun k => ?_) (Ev.now _)) (Ev.step (f := fun _ => some (acc ++ [⟨0, 0, ⟨#[]⟩, []⟩], ([], false))) (fun k => ?_) (Ev.now _))), fun h => by cases h⟩
        · rw [l0_one, if_pos hi, if_pos rfl, eh]
        · rw [op_DecodeReply.l1, if_neg (by decide)]
        · rw [if_pos (by omega), l0_one]
          by_cases h2 : i + 1 < n
          · rw [if_pos h2, if_neg (by decide)]
          · rw [if_neg h2]
    · refine ⟨[], ([], k), Ev.step (f := fun _ => some (acc ++ [], ([], k))) (fun k => ?_) (Ev.now _), fun h => ⟨h, rfl, by simp only [List.length_nil]; omega⟩⟩
      rw [l0_one, if_neg hi, List.append_nil]
  | succ m ih =>
    intro s i acc hm hc ha
    by_cases hi : i < n
    · cases hk : s.2
      · refine ⟨[], s, Ev.step (f := fun _ => some (acc ++ [], s)) (fun k => ?_) (Ev.now _), fun h => by rw [hk] at h; cases h⟩
        rw [l0_one, if_pos hi, if_neg (by rw [hk]; decide), List.append_nil]
      · have hsub := rhead_sub s
        obtain ⟨rows, s8, q1, q2⟩ := rows_ex (rhead s).1.2.2.2 (rhead s).2.1.length (rhead s).2 0 [] (Nat.le_refl _) (hsub.2 hc) (by have := hsub.1; simp only [List.length_nil]; omega)
        cases hr : s8.2
        · refine ⟨[⟨(rhead s).1.1, (rhead s).1.2.1, (rhead s).1.2.2.1, rows⟩], s8, Ev.step (f := fun k => (op_DecodeReply.l1 k (rhead s).1.2.2.2 0 (rhead s).2 []).bind fun r => if acc.length < 2199023255552 then op_DecodeReply.l0 k n (i + 1) r.2 (acc ++ [⟨(rhead s).1.1, (rhead s).1.2.1, (rhead s).1.2.2.1, r.1⟩]) else none) (fun k => ?_) (Ev.bind q1 (f := fun k r => if acc.length < 2199023255552 then op_DecodeReply.l0 k n (i + 1) r.2 (acc ++ [⟨(rhead s).1.1, (rhead s).1.2.1, (rhead s).1.2.2.1, r.1⟩]) else none) (Ev.step (f := fun _ => some (acc ++ [⟨(rhead s).1.1, (rhead s).1.2.1, (rhead s).1.2.2.1, rows⟩], s8)) (fun k => ?_) (Ev.now _))), fun h => by rw [hr] at h; cases h⟩
          · rw [l0_one, if_pos hi, if_pos hk]
          · rw [if_pos (by omega), l0_one, List.nil_append]
            by_cases h2 : i + 1 < n
            · rw [if_pos h2, if_neg (by rw [hr]; decide)]
            · rw [if_neg h2]
        · obtain ⟨q3, q4, q5⟩ := q2 hr
          obtain ⟨g, _, c', n3⟩ := rhead_back hc q3
          have hlen : s8.1.length ≤ m := by
            have h1 := congrArg List.length g
            have h2 := congrArg List.length q4
            simp only [List.length_append, List.length_cons, List.length_nil] at h1 h2
            omega
          have c8 : Canon s8.1 := by
            rw [q4] at c'
            exact fun y hy => c' y (List.mem_append_right _ hy)
          obtain ⟨xs, s', h1, h2⟩ := ih s8 (i + 1) (acc ++ [⟨(rhead s).1.1, (rhead s).1.2.1, (rhead s).1.2.2.1, rows⟩]) hlen c8 (by simp only [List.length_append, List.length_cons, List.length_nil]; omega)
          refine ⟨⟨(rhead s).1.1, (rhead s).1.2.1, (rhead s).1.2.2.1, rows⟩ :: xs, s', ?_, fun h => ?_⟩
          · rw [show acc ++ (⟨(rhead s).1.1, (rhead s).1.2.1, (rhead s).1.2.2.1, rows⟩ : S99) :: xs = (acc ++ [⟨(rhead s).1.1, (rhead s).1.2.1, (rhead s).1.2.2.1, rows⟩]) ++ xs by simp]
            refine Ev.step (fun k => ?_) (Ev.bind q1 (f := fun k r => if acc.length < 2199023255552 then op_DecodeReply.l0 k n (i + 1) r.2 (acc ++ [⟨(rhead s).1.1, (rhead s).1.2.1, (rhead s).1.2.2.1, r.1⟩]) else none) (Ev.congr (fun k => ?_) h1))
            · rw [l0_one, if_pos hi, if_pos hk]
            · rw [if_pos (by omega), List.nil_append]
          · obtain ⟨_, g2, g3⟩ := h2 h
            refine ⟨rfl, ?_, ?_⟩
            · have hm : (rows.length : Int) = (rhead s).1.2.2.2 := by have := n3.1; omega
              rw [g, q4, g2, List.flatMap_cons]
              unfold resF
              dsimp only
              rw [hm]
              simp only [List.append_assoc]
            · simp only [List.length_cons]; omega
    · refine ⟨[], s, Ev.step (f := fun _ => some (acc ++ [], s)) (fun k => ?_) (Ev.now _), fun h => ⟨h, rfl, by simp only [List.length_nil]; omega⟩⟩
      rw [l0_one, if_neg hi, List.append_nil]
end Go.Proofs.Ytafmdlegelbfpaa.Pure
