-- written by a program of ours (a template of wip/pure, filled for this seat)
import Derived.Test.YtafmdlegelbfpaaHDecode
import Derived.Test.YtafmdlegelbfpaaHEncode
import Derived.Test.YtafmdlegelbfpaaHReader
import Derived.Test.YtafmdlegelbfpaaHWriter
import Derived.Test.YtafmdlegelbfpaaPAllx0
import Derived.Test.YtafmdlegelbfpaaPOp
/-! Fields that are read. -/
namespace Go.Proofs.Ytafmdlegelbfpaa.Pure
set_option linter.unusedVariables false
set_option linter.unusedSimpArgs false
open Go Go.RowKit Go.Proofs.Ytafmdlegelbfpaa.PAll Go.Proofs.YtafmdlegelbfpaaW.PrintWords Go.Proofs.YtafmdlegelbfpaaW.PrintLast Go.Proofs.Ytafmdlegelbfpaa.Bytes Go.Proofs.Ytafmdlegelbfpaa.Fn

/-- Numbers as a reader takes them. -/
def NumR (n : Int) : Prop := 0 ≤ n ∧ n ≤ 1099511627776
theorem fldOk_fN {n : Int} (h : NumR n) : fldOk false (fN n) = true := by
  unfold fldOk fN
  rw [decide_eq_true (show 0 ≤ n ∧ n ≤ 1099511627776 from h)]
  rfl
theorem fldOk_fT (s : ByteArray) : fldOk true (fT s) = true := by
  unfold fldOk fT
  rw [decide_eq_true (by show (0 : Int) ≤ 0 ∧ (0 : Int) ≤ 1099511627776; omega)]
  rfl
theorem fldOk_TN (n : Int) : fldOk true (fN n) = false := rfl
theorem fldOk_NT (s : ByteArray) : fldOk false (fT s) = false := rfl
theorem rnum_cons (x : S110) (l : List S110) (ok : Bool) : rnum (x :: l, ok) = if fldOk false x = true then (x.f1, (l, ok)) else (0, ([], false)) := by
  unfold rnum rdX rdL rdO
  by_cases h : fldOk false x = true
  · simp only [h, if_true]
  · simp only [h, if_false]; rfl
theorem rtxt_cons (x : S110) (l : List S110) (ok : Bool) : rtxt (x :: l, ok) = if fldOk true x = true then (x.f2, (l, ok)) else (⟨#[]⟩, ([], false)) := by
  unfold rtxt rdX rdL rdO
  by_cases h : fldOk true x = true
  · simp only [h, if_true]
  · simp only [h, if_false]; rfl
theorem rnum_nil (ok : Bool) : rnum ([], ok) = (0, ([], false)) := rfl
theorem rtxt_nil (ok : Bool) : rtxt ([], ok) = (⟨#[]⟩, ([], false)) := rfl
theorem rnum_fN {n : Int} (h : NumR n) (l : List S110) (ok : Bool) : rnum (fN n :: l, ok) = (n, (l, ok)) := by rw [rnum_cons, if_pos (fldOk_fN h)]; rfl
theorem rtxt_fT (s : ByteArray) (l : List S110) (ok : Bool) : rtxt (fT s :: l, ok) = (s, (l, ok)) := by rw [rtxt_cons, if_pos (fldOk_fT s)]; rfl
theorem rnum_fT (s : ByteArray) (l : List S110) (ok : Bool) : rnum (fT s :: l, ok) = (0, ([], false)) := by rw [rnum_cons, fldOk_NT]; rfl
theorem rtxt_fN (n : Int) (l : List S110) (ok : Bool) : rtxt (fN n :: l, ok) = (⟨#[]⟩, ([], false)) := by rw [rtxt_cons, fldOk_TN]; rfl
/-- Fields as they are decoded: a number has no text, a text no number. -/
def Canon (l : List S110) : Prop := ∀ x ∈ l, (x.f0 = false → x.f2 = ⟨#[]⟩) ∧ (x.f0 = true → x.f1 = 0)
theorem canon_fit {l : List S110} (h : fit l) : Canon l := by
  intro x hx
  obtain ⟨_, ho, _⟩ := h x hx
  unfold ok at ho
  constructor
  · intro h0
    rw [h0] at ho
    have : L x.f2 = [] := by simpa using ho
    exact L_inj this
  · intro h0
    rw [h0] at ho
    simpa using ho
theorem rnum_back {s : List S110 × Bool} (hc : Canon s.1) (h : (rnum s).2.2 = true) : s.1 = fN (rnum s).1 :: (rnum s).2.1 ∧ s.2 = true ∧ Canon (rnum s).2.1 ∧ NumR (rnum s).1 := by
  obtain ⟨l, k⟩ := s
  cases l with
  | nil => rw [rnum_nil] at h; cases h
  | cons x l =>
    rw [rnum_cons] at h ⊢
    by_cases hx : fldOk false x = true
    · rw [if_pos hx] at h ⊢
      unfold fldOk at hx
      rw [Bool.and_eq_true] at hx
      have h0 : x.f0 = false := by simpa using hx.1
      have h2 := (hc x List.mem_cons_self).1 h0
      refine ⟨?_, h, fun y hy => hc y (List.mem_cons_of_mem _ hy), show 0 ≤ x.f1 ∧ x.f1 ≤ 1099511627776 from of_decide_eq_true hx.2⟩
      obtain ⟨a, b, c⟩ := x
      simp only at h0 h2
      subst h0 h2
      rfl
    · rw [if_neg hx] at h; cases h
theorem rtxt_back {s : List S110 × Bool} (hc : Canon s.1) (h : (rtxt s).2.2 = true) : s.1 = fT (rtxt s).1 :: (rtxt s).2.1 ∧ s.2 = true ∧ Canon (rtxt s).2.1 := by
  obtain ⟨l, k⟩ := s
  cases l with
  | nil => rw [rtxt_nil] at h; cases h
  | cons x l =>
    rw [rtxt_cons] at h ⊢
    by_cases hx : fldOk true x = true
    · rw [if_pos hx] at h ⊢
      unfold fldOk at hx
      rw [Bool.and_eq_true] at hx
      have h0 : x.f0 = true := by simpa using hx.1
      have h2 := (hc x List.mem_cons_self).2 h0
      refine ⟨?_, h, fun y hy => hc y (List.mem_cons_of_mem _ hy)⟩
      obtain ⟨a, b, c⟩ := x
      simp only at h0 h2
      subst h0 h2
      rfl
    · rw [if_neg hx] at h; cases h
def OpR (x : S27) : Prop := NumR x.f0 ∧ NumR x.f3 ∧ NumR x.f4 ∧ NumR x.f5
theorem rop_fwd (x : S27) (h : OpR x) (l : List S110) : rop (opF x ++ l, true) = (x, (l, true)) := by
  obtain ⟨h0, h3, h4, h5⟩ := h
  show rop (fN x.f0 :: fT x.f1 :: fT x.f2 :: fN x.f3 :: fN x.f4 :: fN x.f5 :: l, true) = _
  unfold rop
  simp only [rnum_fN h0, rtxt_fT, rnum_fN h3, rnum_fN h4, rnum_fN h5]
theorem rop_back {s : List S110 × Bool} (hc : Canon s.1) (h : (rop s).2.2 = true) : s.1 = opF (rop s).1 ++ (rop s).2.1 ∧ s.2 = true ∧ Canon (rop s).2.1 ∧ OpR (rop s).1 := by
  have h' : (rnum (rnum (rnum (rtxt (rtxt (rnum s).2).2).2).2).2).2.2 = true := h
  obtain ⟨a, ea⟩ : ∃ a, rnum s = a := ⟨_, rfl⟩
  obtain ⟨b, eb⟩ : ∃ b, rtxt a.2 = b := ⟨_, rfl⟩
  obtain ⟨c, ec⟩ : ∃ c, rtxt b.2 = c := ⟨_, rfl⟩
  obtain ⟨d, ed⟩ : ∃ d, rnum c.2 = d := ⟨_, rfl⟩
  obtain ⟨e, ee⟩ : ∃ e, rnum d.2 = e := ⟨_, rfl⟩
  obtain ⟨f, ef⟩ : ∃ f, rnum e.2 = f := ⟨_, rfl⟩
  have hr : rop s = (⟨a.1, b.1, c.1, d.1, e.1, f.1⟩, f.2) := by unfold rop; rw [ea, eb, ec, ed, ee, ef]
  rw [ea, eb, ec, ed, ee, ef] at h'
  -- marks: from the last one to the first
  have mk : ∀ {s : List S110 × Bool}, (rnum s).2.2 = true → s.2 = true := fun {s} h => by
    obtain ⟨l, k⟩ := s
    cases l with
    | nil => rw [rnum_nil] at h; cases h
    | cons x l =>
      rw [rnum_cons] at h
      split at h
      · exact h
      · cases h
  have mt : ∀ {s : List S110 × Bool}, (rtxt s).2.2 = true → s.2 = true := fun {s} h => by
    obtain ⟨l, k⟩ := s
    cases l with
    | nil => rw [rtxt_nil] at h; cases h
    | cons x l =>
      rw [rtxt_cons] at h
      split at h
      · exact h
      · cases h
  have e5 : (rnum e.2).2.2 = true := by rw [ef]; exact h'
  have e4 : (rnum d.2).2.2 = true := by rw [ee]; exact mk e5
  have e3 : (rnum c.2).2.2 = true := by rw [ed]; exact mk e4
  have e2 : (rtxt b.2).2.2 = true := by rw [ec]; exact mk e3
  have e1 : (rtxt a.2).2.2 = true := by rw [eb]; exact mt e2
  have e0 : (rnum s).2.2 = true := by rw [ea]; exact mt e1
  obtain ⟨g0, k0, c0, n0⟩ := rnum_back hc e0
  rw [ea] at g0 c0 n0
  obtain ⟨g1, _, c1⟩ := rtxt_back c0 e1
  rw [eb] at g1 c1
  obtain ⟨g2, _, c2⟩ := rtxt_back c1 e2
  rw [ec] at g2 c2
  obtain ⟨g3, _, c3, n3⟩ := rnum_back c2 e3
  rw [ed] at g3 c3 n3
  obtain ⟨g4, _, c4, n4⟩ := rnum_back c3 e4
  rw [ee] at g4 c4 n4
  obtain ⟨g5, _, c5, n5⟩ := rnum_back c4 e5
  rw [ef] at g5 c5 n5
  rw [hr]
  refine ⟨?_, k0, c5, n0, n3, n4, n5⟩
  rw [g0, g1, g2, g3, g4, g5]
  rfl
theorem ops_fwd (rest : List S110) : ∀ (l : List S27) (i : Nat) (acc : List S27), (∀ x ∈ l, OpR x) → acc.length + l.length < 2199023255552 →
    Ev (fun k => op_Decode.l0 k ((i + l.length : Nat) : Int) (i : Int) (l.flatMap opF ++ rest, true) acc) (acc ++ l, (rest, true))
  | [], i, acc, _, _ => by
    refine Ev.step (f := fun _ => some (acc ++ [], (rest, true))) (fun k => ?_) (Ev.now _)
    rw [op_Decode.l0, if_neg (by simp), List.append_nil]
    rfl
  | x :: l, i, acc, h, hl => by
    have ih := ops_fwd rest l (i + 1) (acc ++ [x]) (fun y hy => h y (List.mem_cons_of_mem _ hy)) (by simp only [List.length_append, List.length_cons, List.length_nil] at hl ⊢; omega)
    have e : acc ++ (x :: l) = (acc ++ [x]) ++ l := by simp
    rw [e]
    refine Ev.step (fun k => ?_) ih
    rw [op_Decode.l0, if_pos (by simp only [List.length_cons]; omega), if_pos rfl, if_pos (by simp only [List.length_cons] at hl; omega)]
    rw [List.flatMap_cons, List.append_assoc, rop_fwd x (h x List.mem_cons_self)]
    simp only [List.length_cons]
    rw [show i + (l.length + 1) = i + 1 + l.length by omega]
    rfl
theorem ops_ex (n : Int) : ∀ (m : Nat) (s : List S110 × Bool) (i : Int) (acc : List S27), s.1.length ≤ m → Canon s.1 → acc.length + m + 2 < 2199023255552 →
    ∃ (xs : List S27) (s' : List S110 × Bool), Ev (fun k => op_Decode.l0 k n i s acc) (acc ++ xs, s') ∧ (s'.2 = true → s.2 = true ∧ s.1 = xs.flatMap opF ++ s'.1 ∧ (xs.length : Int) = max 0 (n - i)) := by
  intro m
  induction m with
  | zero =>
    intro s i acc hm hc ha
    obtain ⟨l, k⟩ := s
    obtain rfl : l = [] := List.eq_nil_of_length_eq_zero (by simpa using hm)
    by_cases hi : i < n
    · cases k
      · refine ⟨[], ([], false), Ev.step (f := fun _ => some (acc ++ [], ([], false))) (fun k => ?_) (Ev.now _), fun h => by cases h⟩
        rw [op_Decode.l0, if_pos hi, if_neg (by decide), List.append_nil]
      · refine ⟨[(rop ([], true)).1], ([], false), Ev.step (f := fun k => op_Decode.l0 k n (i + 1) ([], false) (acc ++ [(rop ([], true)).1])) (fun k => ?_) (Ev.step (f := fun _ => some (acc ++ [(rop ([], true)).1], ([], false))) (fun k => ?_) (Ev.now _)), fun h => by cases h⟩
        · rw [op_Decode.l0, if_pos hi, if_pos rfl, if_pos (by omega)]
          rfl
        · rw [op_Decode.l0]
          by_cases h2 : i + 1 < n
          · rw [if_pos h2, if_neg (by decide)]
          · rw [if_neg h2]
    · refine ⟨[], ([], k), Ev.step (f := fun _ => some (acc ++ [], ([], k))) (fun k => ?_) (Ev.now _), fun h => ⟨h, rfl, by simp only [List.length_nil]; omega⟩⟩
      rw [op_Decode.l0, if_neg hi, List.append_nil]
  | succ m ih =>
    intro s i acc hm hc ha
    by_cases hi : i < n
    · cases hk : s.2
      · refine ⟨[], s, Ev.step (f := fun _ => some (acc ++ [], s)) (fun k => ?_) (Ev.now _), fun h => by rw [hk] at h; cases h⟩
        rw [op_Decode.l0, if_pos hi, if_neg (by rw [hk]; decide), List.append_nil]
      · cases hr : (rop s).2.2
        · refine ⟨[(rop s).1], (rop s).2, Ev.step (f := fun k => op_Decode.l0 k n (i + 1) (rop s).2 (acc ++ [(rop s).1])) (fun k => ?_) (Ev.step (f := fun _ => some (acc ++ [(rop s).1], (rop s).2)) (fun k => ?_) (Ev.now _)), fun h => by rw [hr] at h; cases h⟩
          · rw [op_Decode.l0, if_pos hi, if_pos hk, if_pos (by omega)]
          · rw [op_Decode.l0]
            by_cases h2 : i + 1 < n
            · rw [if_pos h2, if_neg (by rw [hr]; decide)]
            · rw [if_neg h2]
        · obtain ⟨g, _, c', _⟩ := rop_back hc hr
          have hlen : (rop s).2.1.length ≤ m := by
            have := congrArg List.length g
            simp only [List.length_append, opF, List.length_cons, List.length_nil] at this
            omega
          obtain ⟨xs, s', h1, h2⟩ := ih (rop s).2 (i + 1) (acc ++ [(rop s).1]) hlen c' (by simp only [List.length_append, List.length_cons, List.length_nil]; omega)
          refine ⟨(rop s).1 :: xs, s', ?_, fun h => ?_⟩
          · rw [show acc ++ (rop s).1 :: xs = (acc ++ [(rop s).1]) ++ xs by simp]
            refine Ev.step (fun k => ?_) h1
            rw [op_Decode.l0, if_pos hi, if_pos hk, if_pos (by omega)]
          · obtain ⟨_, g2, g3⟩ := h2 h
            refine ⟨rfl, ?_, ?_⟩
            · rw [g, g2, List.flatMap_cons, List.append_assoc]
            · simp only [List.length_cons]; omega
    · refine ⟨[], s, Ev.step (f := fun _ => some (acc ++ [], s)) (fun k => ?_) (Ev.now _), fun h => ⟨h, rfl, by simp only [List.length_nil]; omega⟩⟩
      rw [op_Decode.l0, if_neg hi, List.append_nil]
end Go.Proofs.Ytafmdlegelbfpaa.Pure
