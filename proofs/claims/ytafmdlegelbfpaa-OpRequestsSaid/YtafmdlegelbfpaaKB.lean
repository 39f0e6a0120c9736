-- written by a program of ours (templates of wip/pure, filled for this seat; one behind the other)
import Derived.Test.YtafmdlegelbfpaaHCheck
import Derived.Test.YtafmdlegelbfpaaHCheckAll
import Derived.Test.YtafmdlegelbfpaaHEncode
import Derived.Test.YtafmdlegelbfpaaHWriter
import Derived.Test.YtafmdlegelbfpaaPAllx0
import Derived.Test.YtafmdlegelbfpaaPAllx1010
import Derived.Test.YtafmdlegelbfpaaKA
import Derived.Test.YtafmdlegelbfpaaHDecode
import Derived.Test.YtafmdlegelbfpaaHReader
import Derived.Test.YtafmdlegelbfpaaPAllx1023
import Derived.Test.YtafmdlegelbfpaaPAllx1057
import Derived.Test.YtafmdlegelbfpaaHLend
import Derived.Test.YtafmdlegelbfpaaPAllx1048
import Derived.Test.YtafmdlegelbfpaaPAllx1067
import Derived.Test.YtafmdlegelbfpaaPAllx1068
import Derived.Test.YtafmdlegelbfpaaPAllx1083
import Derived.Test.YtafmdlegelbfpaaPAllx1094
import Derived.Test.YtafmdlegelbfpaaPAllx1053
import Derived.Test.YtafmdlegelbfpaaPAllx1072
import Derived.Test.YtafmdlegelbfpaaPAllx1085
import Derived.Test.YtafmdlegelbfpaaPAllx1095
import Derived.Test.YtafmdlegelbfpaaPAllx1055
import Derived.Test.YtafmdlegelbfpaaPAllx1056
import Derived.Test.YtafmdlegelbfpaaPAllx1014
import Derived.Test.YtafmdlegelbfpaaPAllx1015
import Derived.Test.YtafmdlegelbfpaaPAllx1022
import Derived.Test.YtafmdlegelbfpaaPAllx1042
import Derived.Test.YtafmdlegelbfpaaPAllx1047
import Derived.Test.YtafmdlegelbfpaaPAllx1018
import Derived.Test.YtafmdlegelbfpaaPAllx1049
import Derived.Test.YtafmdlegelbfpaaPAllx1062
/-! Operations, requests: plain. -/
namespace Go.Proofs.Ytafmdlegelbfpaa.Pure
set_option linter.unusedVariables false
set_option linter.unusedSimpArgs false
open Go Go.RowKit Go.Proofs.Ytafmdlegelbfpaa.PAll Go.Proofs.YtafmdlegelbfpaaW.PrintWords Go.Proofs.YtafmdlegelbfpaaW.PrintLast Go.Proofs.Ytafmdlegelbfpaa.Bytes Go.Proofs.Ytafmdlegelbfpaa.Fn

/-- May an operation be? -/
def opOk (x : S27) : Bool := op_Check.ok x.f0 x.f1 x.f2 x.f3 x.f4 x.f5
/-- May a request be? -/
def reqOk (a b : Int) (l : List S27) : Bool := decide (0 ≤ a ∧ a ≤ 1000 ∧ 1 ≤ b ∧ b ≤ 1048576 ∧ 1 ≤ l.length ∧ l.length ≤ 32) && l.all opOk
theorem check_f (k : Nat) (x : S27) : op_Check.f k x.f0 x.f1 x.f2 x.f3 x.f4 x.f5 = some (if opOk x = true then 0 else 80) := rfl
theorem any_f (k : Nat) : ∀ l, op_CheckAll.any k l = some (!l.all opOk)
  | [] => rfl
  | x :: l => by
    unfold op_CheckAll.any
    rw [check_f, Option.bind_some, List.all_cons]
    cases opOk x
    · rfl
    · rw [if_pos rfl, if_pos rfl, any_f k l]; rfl
theorem checkAll_f (k : Nat) (a b : Int) (l : List S27) : op_CheckAll.f k a b l = some (if reqOk a b l = true then 0 else 80) := by
  unfold op_CheckAll.f reqOk
  by_cases h : 0 ≤ a ∧ a ≤ 1000 ∧ 1 ≤ b ∧ b ≤ 1048576 ∧ 1 ≤ l.length ∧ l.length ≤ 32
  · rw [if_pos h, any_f, Option.bind_some, decide_eq_true h, Bool.true_and]
    cases l.all opOk <;> rfl
  · rw [if_neg h, decide_eq_false h, Bool.false_and]; rfl
theorem all_sizes {l : List S27} (h : l.all opOk = true) : ∀ x ∈ l, x.f1.size ≤ 64 ∧ x.f2.size ≤ 8192 := by
  intro x hx
  have := List.all_eq_true.1 h x hx
  unfold opOk op_Check.ok at this
  have := of_decide_eq_true this
  omega
theorem reqF_sizes {a b : Int} {l : List S27} (h : l.all opOk = true) : ∀ y ∈ reqF a b l, y.f2.size ≤ 8192 := by
  intro y hy
  unfold reqF at hy
  rcases List.mem_append.1 hy with hy | hy
  · simp only [List.mem_cons, List.not_mem_nil, or_false, fN] at hy
    rcases hy with rfl | rfl | rfl <;> exact Nat.zero_le _
  · obtain ⟨x, hx, hy⟩ := List.mem_flatMap.1 hy
    have := all_sizes h x hx
    simp only [opF, List.mem_cons, List.not_mem_nil, or_false, fN, fT] at hy
    rcases hy with rfl | rfl | rfl | rfl | rfl | rfl
    · exact Nat.zero_le _
    · exact Nat.le_trans this.1 (by decide)
    · exact this.2
    · exact Nat.zero_le _
    · exact Nat.zero_le _
    · exact Nat.zero_le _
/-- What Encode comes to. -/
def encReq (a b : Int) (l : List S27) : ByteArray × Int := if reqOk a b l = true then encode (reqF a b l) else (⟨#[]⟩, 80)
theorem encodeReq_f (a b : Int) (l : List S27) : Ev (fun k => op_Encode.f k a b l) (encReq a b l) := by
  unfold encReq
  by_cases h : reqOk a b l = true
  · rw [if_pos h]
    have ha : l.all opOk = true := by unfold reqOk at h; exact (Bool.and_eq_true_iff.1 h).2
    refine Ev.congr (fun k => ?_) (encode_f (reqF a b l) (fun x hx => Nat.le_trans (reqF_sizes ha x hx) (by decide)))
    unfold op_Encode.f
    rw [checkAll_f, if_pos h, Option.bind_some, if_pos rfl]
  · rw [if_neg h]
    refine Ev.congr (fun k => ?_) (Ev.now _)
    unfold op_Encode.f
    rw [checkAll_f, if_neg h, Option.bind_some, if_neg (by decide)]
theorem works_op : Ev (fun k => skylarklaw08_works.f k) true := by
  obtain ⟨K1, h1⟩ := encodeReq_f 3 1 [⟨5, ⟨#[107]⟩, ⟨#[]⟩, 0, 0, 0⟩]
  obtain ⟨K2, h2⟩ := encodeReq_f 3 1 []
  have e2 : encReq 3 1 [] = (⟨#[]⟩, 80) := rfl
  have e1 : encReq 3 1 [⟨5, ⟨#[107]⟩, ⟨#[]⟩, 0, 0, 0⟩] = (strOfNums (I [78, 1, 3, 78, 1, 1, 78, 1, 1, 78, 1, 5, 84, 1, 1, 107, 84, 0, 78, 0, 78, 0, 78, 0]), 0) := by
    have hr : reqF 3 1 [⟨5, ⟨#[107]⟩, ⟨#[]⟩, 0, 0, 0⟩] = [fN 3, fN 1, fN 1, fN 5, fT ⟨#[107]⟩, fT ⟨#[]⟩, fN 0, fN 0, fN 0] := rfl
    have h : enc (reqF 3 1 [⟨5, ⟨#[107]⟩, ⟨#[]⟩, 0, 0, 0⟩]) = [78, 1, 3, 78, 1, 1, 78, 1, 1, 78, 1, 5, 84, 1, 1, 107, 84, 0, 78, 0, 78, 0, 78, 0] := by
      rw [hr]
      simp only [enc, List.flatMap_cons, List.flatMap_nil, one, fN, fT, if_true, Bool.false_eq_true, if_false, num]
      rw [show u64 0 = 0 from rfl, show u64 1 = 1 from rfl, show u64 3 = 3 from rfl, show u64 5 = 5 from rfl]
      have s1 : (⟨#[107]⟩ : ByteArray).size = 1 := rfl
      have s0 : (⟨#[]⟩ : ByteArray).size = 0 := rfl
      rw [s1, s0, digs_zero, digs_ex [1] 1 (by decide) (by decide), digs_ex [3] 3 (by decide) (by decide), digs_ex [5] 5 (by decide) (by decide)]
      rfl
    unfold encReq
    rw [if_pos (by decide)]
    unfold encode
    rw [if_neg (by rw [hr]; decide), if_neg (by rw [hr]; decide), h, if_neg (by decide)]
  dsimp only at h1 h2
  rw [e1] at h1
  rw [e2] at h2
  refine ⟨max K1 K2, fun k hk => ?_⟩
  show skylarklaw08_works.f k = _
  unfold skylarklaw08_works.f
  rw [h1 k (by omega), Option.bind_some, h2 k (by omega), Option.bind_some, if_pos (by rw [toList_L, strOf_I]), if_pos rfl]
  rfl
end Go.Proofs.Ytafmdlegelbfpaa.Pure
/-! Fields that are read. -/
namespace Go.Proofs.Ytafmdlegelbfpaa.Pure
set_option linter.unusedVariables false
set_option linter.unusedSimpArgs false
open Go Go.RowKit Go.Proofs.Ytafmdlegelbfpaa.PAll Go.Proofs.YtafmdlegelbfpaaW.PrintWords Go.Proofs.YtafmdlegelbfpaaW.PrintLast Go.Proofs.Ytafmdlegelbfpaa.Bytes Go.Proofs.Ytafmdlegelbfpaa.Fn

/-- Numbers as a reader takes them. -/
def NumR (n : Int) : Prop := 0 ≤ n ∧ n ≤ 1099511627776
theorem fldOk_fN {n : Int} (h : NumR n) : fldOk false (fN n) = true := by
  unfold fldOk fN
  rw [decide_eq_true (show 0 ≤ n ∧ n ≤ 1099511627776 from h)]
  rfl
theorem fldOk_fT (s : ByteArray) : fldOk true (fT s) = true := by
  unfold fldOk fT
  rw [decide_eq_true (by show (0 : Int) ≤ 0 ∧ (0 : Int) ≤ 1099511627776; omega)]
  rfl
theorem fldOk_TN (n : Int) : fldOk true (fN n) = false := rfl
theorem fldOk_NT (s : ByteArray) : fldOk false (fT s) = false := rfl
theorem rnum_cons (x : S110) (l : List S110) (ok : Bool) : rnum (x :: l, ok) = if fldOk false x = true then (x.f1, (l, ok)) else (0, ([], false)) := by
  unfold rnum rdX rdL rdO
  by_cases h : fldOk false x = true
  · simp only [h, if_true]
  · simp only [h, if_false]; rfl
theorem rtxt_cons (x : S110) (l : List S110) (ok : Bool) : rtxt (x :: l, ok) = if fldOk true x = true then (x.f2, (l, ok)) else (⟨#[]⟩, ([], false)) := by
  unfold rtxt rdX rdL rdO
  by_cases h : fldOk true x = true
  · simp only [h, if_true]
  · simp only [h, if_false]; rfl
theorem rnum_nil (ok : Bool) : rnum ([], ok) = (0, ([], false)) := rfl
theorem rtxt_nil (ok : Bool) : rtxt ([], ok) = (⟨#[]⟩, ([], false)) := rfl
theorem rnum_fN {n : Int} (h : NumR n) (l : List S110) (ok : Bool) : rnum (fN n :: l, ok) = (n, (l, ok)) := by rw [rnum_cons, if_pos (fldOk_fN h)]; rfl
theorem rtxt_fT (s : ByteArray) (l : List S110) (ok : Bool) : rtxt (fT s :: l, ok) = (s, (l, ok)) := by rw [rtxt_cons, if_pos (fldOk_fT s)]; rfl
theorem rnum_fT (s : ByteArray) (l : List S110) (ok : Bool) : rnum (fT s :: l, ok) = (0, ([], false)) := by rw [rnum_cons, fldOk_NT]; rfl
theorem rtxt_fN (n : Int) (l : List S110) (ok : Bool) : rtxt (fN n :: l, ok) = (⟨#[]⟩, ([], false)) := by rw [rtxt_cons, fldOk_TN]; rfl
/-- Fields as they are decoded: a number has no text, a text no number. -/
def Canon (l : List S110) : Prop := ∀ x ∈ l, (x.f0 = false → x.f2 = ⟨#[]⟩) ∧ (x.f0 = true → x.f1 = 0)
theorem canon_fit {l : List S110} (h : fit l) : Canon l := by
  intro x hx
  obtain ⟨_, ho, _⟩ := h x hx
  unfold ok at ho
  constructor
  · intro h0
    rw [h0] at ho
    have : L x.f2 = [] := by simpa using ho
    exact L_inj this
  · intro h0
    rw [h0] at ho
    simpa using ho
theorem rnum_back {s : List S110 × Bool} (hc : Canon s.1) (h : (rnum s).2.2 = true) : s.1 = fN (rnum s).1 :: (rnum s).2.1 ∧ s.2 = true ∧ Canon (rnum s).2.1 ∧ NumR (rnum s).1 := by
  obtain ⟨l, k⟩ := s
  cases l with
  | nil => rw [rnum_nil] at h; cases h
  | cons x l =>
    rw [rnum_cons] at h ⊢
    by_cases hx : fldOk false x = true
    · rw [if_pos hx] at h ⊢
      unfold fldOk at hx
      rw [Bool.and_eq_true] at hx
      have h0 : x.f0 = false := by simpa using hx.1
      have h2 := (hc x List.mem_cons_self).1 h0
      refine ⟨?_, h, fun y hy => hc y (List.mem_cons_of_mem _ hy), show 0 ≤ x.f1 ∧ x.f1 ≤ 1099511627776 from of_decide_eq_true hx.2⟩
      obtain ⟨a, b, c⟩ := x
      simp only at h0 h2
      subst h0 h2
      rfl
    · rw [if_neg hx] at h; cases h
theorem rtxt_back {s : List S110 × Bool} (hc : Canon s.1) (h : (rtxt s).2.2 = true) : s.1 = fT (rtxt s).1 :: (rtxt s).2.1 ∧ s.2 = true ∧ Canon (rtxt s).2.1 := by
  obtain ⟨l, k⟩ := s
  cases l with
  | nil => rw [rtxt_nil] at h; cases h
  | cons x l =>
    rw [rtxt_cons] at h ⊢
    by_cases hx : fldOk true x = true
    · rw [if_pos hx] at h ⊢
      unfold fldOk at hx
      rw [Bool.and_eq_true] at hx
      have h0 : x.f0 = true := by simpa using hx.1
      have h2 := (hc x List.mem_cons_self).2 h0
      refine ⟨?_, h, fun y hy => hc y (List.mem_cons_of_mem _ hy)⟩
      obtain ⟨a, b, c⟩ := x
      simp only at h0 h2
      subst h0 h2
      rfl
    · rw [if_neg hx] at h; cases h
def OpR (x : S27) : Prop := NumR x.f0 ∧ NumR x.f3 ∧ NumR x.f4 ∧ NumR x.f5
theorem rop_fwd (x : S27) (h : OpR x) (l : List S110) : rop (opF x ++ l, true) = (x, (l, true)) := by
  obtain ⟨h0, h3, h4, h5⟩ := h
  show rop (fN x.f0 :: fT x.f1 :: fT x.f2 :: fN x.f3 :: fN x.f4 :: fN x.f5 :: l, true) = _
  unfold rop
  simp only [rnum_fN h0, rtxt_fT, rnum_fN h3, rnum_fN h4, rnum_fN h5]
theorem rop_back {s : List S110 × Bool} (hc : Canon s.1) (h : (rop s).2.2 = true) : s.1 = opF (rop s).1 ++ (rop s).2.1 ∧ s.2 = true ∧ Canon (rop s).2.1 ∧ OpR (rop s).1 := by
  have h' : (rnum (rnum (rnum (rtxt (rtxt (rnum s).2).2).2).2).2).2.2 = true := h
  obtain ⟨a, ea⟩ : ∃ a, rnum s = a := ⟨_, rfl⟩
  obtain ⟨b, eb⟩ : ∃ b, rtxt a.2 = b := ⟨_, rfl⟩
  obtain ⟨c, ec⟩ : ∃ c, rtxt b.2 = c := ⟨_, rfl⟩
  obtain ⟨d, ed⟩ : ∃ d, rnum c.2 = d := ⟨_, rfl⟩
  obtain ⟨e, ee⟩ : ∃ e, rnum d.2 = e := ⟨_, rfl⟩
  obtain ⟨f, ef⟩ : ∃ f, rnum e.2 = f := ⟨_, rfl⟩
  have hr : rop s = (⟨a.1, b.1, c.1, d.1, e.1, f.1⟩, f.2) := by unfold rop; rw [ea, eb, ec, ed, ee, ef]
  rw [ea, eb, ec, ed, ee, ef] at h'
  -- marks: from the last one to the first
  have mk : ∀ {s : List S110 × Bool}, (rnum s).2.2 = true → s.2 = true := fun {s} h => by
    obtain ⟨l, k⟩ := s
    cases l with
    | nil => rw [rnum_nil] at h; cases h
    | cons x l =>
      rw [rnum_cons] at h
      split at h
      · exact h
      · cases h
  have mt : ∀ {s : List S110 × Bool}, (rtxt s).2.2 = true → s.2 = true := fun {s} h => by
    obtain ⟨l, k⟩ := s
    cases l with
    | nil => rw [rtxt_nil] at h; cases h
    | cons x l =>
      rw [rtxt_cons] at h
      split at h
      · exact h
      · cases h
  have e5 : (rnum e.2).2.2 = true := by rw [ef]; exact h'
  have e4 : (rnum d.2).2.2 = true := by rw [ee]; exact mk e5
  have e3 : (rnum c.2).2.2 = true := by rw [ed]; exact mk e4
  have e2 : (rtxt b.2).2.2 = true := by rw [ec]; exact mk e3
  have e1 : (rtxt a.2).2.2 = true := by rw [eb]; exact mt e2
  have e0 : (rnum s).2.2 = true := by rw [ea]; exact mt e1
  obtain ⟨g0, k0, c0, n0⟩ := rnum_back hc e0
  rw [ea] at g0 c0 n0
  obtain ⟨g1, _, c1⟩ := rtxt_back c0 e1
  rw [eb] at g1 c1
  obtain ⟨g2, _, c2⟩ := rtxt_back c1 e2
  rw [ec] at g2 c2
  obtain ⟨g3, _, c3, n3⟩ := rnum_back c2 e3
  rw [ed] at g3 c3 n3
  obtain ⟨g4, _, c4, n4⟩ := rnum_back c3 e4
  rw [ee] at g4 c4 n4
  obtain ⟨g5, _, c5, n5⟩ := rnum_back c4 e5
  rw [ef] at g5 c5 n5
  rw [hr]
  refine ⟨?_, k0, c5, n0, n3, n4, n5⟩
  rw [g0, g1, g2, g3, g4, g5]
  rfl
theorem ops_fwd (rest : List S110) : ∀ (l : List S27) (i : Nat) (acc : List S27), (∀ x ∈ l, OpR x) → acc.length + l.length < 2199023255552 →
    Ev (fun k => op_Decode.l0 k ((i + l.length : Nat) : Int) (i : Int) (l.flatMap opF ++ rest, true) acc) (acc ++ l, (rest, true))
  | [], i, acc, _, _ => by
    refine Ev.step (f := fun _ => some (acc ++ [], (rest, true))) (fun k => ?_) (Ev.now _)
    rw [op_Decode.l0, if_neg (by simp), List.append_nil]
    rfl
  | x :: l, i, acc, h, hl => by
    have ih := ops_fwd rest l (i + 1) (acc ++ [x]) (fun y hy => h y (List.mem_cons_of_mem _ hy)) (by simp only [List.length_append, List.length_cons, List.length_nil] at hl ⊢; omega)
    have e : acc ++ (x :: l) = (acc ++ [x]) ++ l := by simp
    rw [e]
    refine Ev.step (fun k => ?_) ih
    rw [op_Decode.l0, if_pos (by simp only [List.length_cons]; omega), if_pos rfl, if_pos (by simp only [List.length_cons] at hl; omega)]
    rw [List.flatMap_cons, List.append_assoc, rop_fwd x (h x List.mem_cons_self)]
    simp only [List.length_cons]
    rw [show i + (l.length + 1) = i + 1 + l.length by omega]
    rfl
theorem ops_ex (n : Int) : ∀ (m : Nat) (s : List S110 × Bool) (i : Int) (acc : List S27), s.1.length ≤ m → Canon s.1 → acc.length + m + 2 < 2199023255552 →
    ∃ (xs : List S27) (s' : List S110 × Bool), Ev (fun k => op_Decode.l0 k n i s acc) (acc ++ xs, s') ∧ (s'.2 = true → s.2 = true ∧ s.1 = xs.flatMap opF ++ s'.1 ∧ (xs.length : Int) = max 0 (n - i)) := by
  intro m
  induction m with
  | zero =>
    intro s i acc hm hc ha
    obtain ⟨l, k⟩ := s
    obtain rfl : l = [] := List.eq_nil_of_length_eq_zero (by simpa using hm)
    by_cases hi : i < n
    · cases k
      · refine ⟨[], ([], false), Ev.step (f := fun _ => some (acc ++ [], ([], false))) (fun k => ?_) (Ev.now _), fun h => by cases h⟩
        rw [op_Decode.l0, if_pos hi, if_neg (by decide), List.append_nil]
      · refine ⟨[(rop ([], true)).1], ([], false), Ev.step (f := fun k => op_Decode.l0 k n (i + 1) ([], false) (acc ++ [(rop ([], true)).1])) (fun k => ?_) (Ev.step (f := fun _ => some (acc ++ [(rop ([], true)).1], ([], false))) (fun k => ?_) (Ev.now _)), fun h => by cases h⟩
        · rw [op_Decode.l0, if_pos hi, if_pos rfl, if_pos (by omega)]
          rfl
        · rw [op_Decode.l0]
          by_cases h2 : i + 1 < n
          · rw [if_pos h2, if_neg (by decide)]
          · rw [if_neg h2]
    · refine ⟨[], ([], k), Ev.step (f := fun _ => some (acc ++ [], ([], k))) (fun k => ?_) (Ev.now _), fun h => ⟨h, rfl, by simp only [List.length_nil]; omega⟩⟩
      rw [op_Decode.l0, if_neg hi, List.append_nil]
  | succ m ih =>
    intro s i acc hm hc ha
    by_cases hi : i < n
    · cases hk : s.2
      · refine ⟨[], s, Ev.step (f := fun _ => some (acc ++ [], s)) (fun k => ?_) (Ev.now _), fun h => by rw [hk] at h; cases h⟩
        rw [op_Decode.l0, if_pos hi, if_neg (by rw [hk]; decide), List.append_nil]
      · cases hr : (rop s).2.2
        · refine ⟨[(rop s).1], (rop s).2, Ev.step (f := fun k => op_Decode.l0 k n (i + 1) (rop s).2 (acc ++ [(rop s).1])) (fun k => ?_) (Ev.step (f := fun _ => some (acc ++ [(rop s).1], (rop s).2)) (fun k => ?_) (Ev.now _)), fun h => by rw [hr] at h; cases h⟩
          · rw [op_Decode.l0, if_pos hi, if_pos hk, if_pos (by omega)]
          · rw [op_Decode.l0]
            by_cases h2 : i + 1 < n
            · rw [if_pos h2, if_neg (by rw [hr]; decide)]
            · rw [if_neg h2]
        · obtain ⟨g, _, c', _⟩ := rop_back hc hr
          have hlen : (rop s).2.1.length ≤ m := by
            have := congrArg List.length g
            simp only [List.length_append, opF, List.length_cons, List.length_nil] at this
            omega
          obtain ⟨xs, s', h1, h2⟩ := ih (rop s).2 (i + 1) (acc ++ [(rop s).1]) hlen c' (by simp only [List.length_append, List.length_cons, List.length_nil]; omega)
          refine ⟨(rop s).1 :: xs, s', ?_, fun h => ?_⟩
          · rw [show acc ++ (rop s).1 :: xs = (acc ++ [(rop s).1]) ++ xs by simp]
            refine Ev.step (fun k => ?_) h1
            rw [op_Decode.l0, if_pos hi, if_pos hk, if_pos (by omega)]
          · obtain ⟨_, g2, g3⟩ := h2 h
            refine ⟨rfl, ?_, ?_⟩
            · rw [g, g2, List.flatMap_cons, List.append_assoc]
            · simp only [List.length_cons]; omega
    · refine ⟨[], s, Ev.step (f := fun _ => some (acc ++ [], s)) (fun k => ?_) (Ev.now _), fun h => ⟨h, rfl, by simp only [List.length_nil]; omega⟩⟩
      rw [op_Decode.l0, if_neg hi, List.append_nil]
end Go.Proofs.Ytafmdlegelbfpaa.Pure
/-! Marks of what is read. -/
namespace Go.Proofs.Ytafmdlegelbfpaa.Pure
set_option linter.unusedVariables false
set_option linter.unusedSimpArgs false
open Go Go.RowKit Go.Proofs.Ytafmdlegelbfpaa.PAll Go.Proofs.YtafmdlegelbfpaaW.PrintWords Go.Proofs.YtafmdlegelbfpaaW.PrintLast Go.Proofs.Ytafmdlegelbfpaa.Bytes Go.Proofs.Ytafmdlegelbfpaa.Fn

theorem rnum_mark {s : List S110 × Bool} (h : (rnum s).2.2 = true) : s.2 = true := by
  obtain ⟨l, k⟩ := s
  cases l with
  | nil => rw [rnum_nil] at h; cases h
  | cons x l =>
    rw [rnum_cons] at h
    split at h
    · exact h
    · cases h
theorem rtxt_mark {s : List S110 × Bool} (h : (rtxt s).2.2 = true) : s.2 = true := by
  obtain ⟨l, k⟩ := s
  cases l with
  | nil => rw [rtxt_nil] at h; cases h
  | cons x l =>
    rw [rtxt_cons] at h
    split at h
    · exact h
    · cases h
theorem rnum_sub (s : List S110 × Bool) : (rnum s).2.1.length ≤ s.1.length ∧ (Canon s.1 → Canon (rnum s).2.1) := by
  obtain ⟨l, k⟩ := s
  cases l with
  | nil => exact ⟨Nat.le_refl _, fun h => h⟩
  | cons x l =>
    rw [rnum_cons]
    split
    · exact ⟨by simp, fun h y hy => h y (List.mem_cons_of_mem _ hy)⟩
    · exact ⟨by simp, fun h y hy => by cases hy⟩
theorem rtxt_sub (s : List S110 × Bool) : (rtxt s).2.1.length ≤ s.1.length ∧ (Canon s.1 → Canon (rtxt s).2.1) := by
  obtain ⟨l, k⟩ := s
  cases l with
  | nil => exact ⟨Nat.le_refl _, fun h => h⟩
  | cons x l =>
    rw [rtxt_cons]
    split
    · exact ⟨by simp, fun h y hy => h y (List.mem_cons_of_mem _ hy)⟩
    · exact ⟨by simp, fun h y hy => by cases hy⟩
end Go.Proofs.Ytafmdlegelbfpaa.Pure
/-! There and back: plain. -/
namespace Go.Proofs.Ytafmdlegelbfpaa.Pure
set_option linter.unusedVariables false
set_option linter.unusedSimpArgs false
open Go Go.RowKit Go.Proofs.Ytafmdlegelbfpaa.PAll Go.Proofs.YtafmdlegelbfpaaW.PrintWords Go.Proofs.YtafmdlegelbfpaaW.PrintLast Go.Proofs.Ytafmdlegelbfpaa.Bytes Go.Proofs.Ytafmdlegelbfpaa.Fn

theorem wide_fN {n : Int} (h : NumR n) : wfS (fN n) ∧ (fN n).f2.size ≤ 140737488351232 := ⟨⟨by have := h.1; show (-9223372036854775808 : Int) ≤ n; omega, by have := h.2; show n ≤ 9223372036854775807; omega⟩, Nat.zero_le _⟩
theorem wide_fT {s : ByteArray} (h : s.size ≤ 8192) : wfS (fT s) ∧ (fT s).f2.size ≤ 140737488351232 := ⟨⟨by show (-9223372036854775808 : Int) ≤ 0; omega, by show (0 : Int) ≤ 9223372036854775807; omega⟩, Nat.le_trans h (by decide)⟩
theorem opOk_R {x : S27} (h : opOk x = true) : OpR x := by
  unfold opOk op_Check.ok at h
  have h := of_decide_eq_true h
  refine ⟨⟨?_, ?_⟩, ⟨?_, ?_⟩, ⟨?_, ?_⟩, ⟨?_, ?_⟩⟩ <;> omega
theorem reqOk_R {a b : Int} {l : List S27} (h : reqOk a b l = true) : NumR a ∧ NumR b ∧ 1 ≤ l.length ∧ l.length ≤ 32 ∧ (∀ x ∈ l, OpR x) ∧ l.all opOk = true := by
  unfold reqOk at h
  obtain ⟨h1, h2⟩ := Bool.and_eq_true_iff.1 h
  have h1 := of_decide_eq_true h1
  exact ⟨⟨by omega, by omega⟩, ⟨by omega, by omega⟩, by omega, by omega, fun x hx => opOk_R (List.all_eq_true.1 h2 x hx), h2⟩
theorem reqF_wide {a b : Int} {l : List S27} (h : reqOk a b l = true) : Wide (reqF a b l) := by
  obtain ⟨ha, hb, _, hl, hx, hs⟩ := reqOk_R h
  intro y hy
  unfold reqF at hy
  rcases List.mem_append.1 hy with hy | hy
  · simp only [List.mem_cons, List.not_mem_nil, or_false] at hy
    rcases hy with rfl | rfl | rfl
    · exact wide_fN ha
    · exact wide_fN hb
    · exact wide_fN ⟨by omega, by omega⟩
  · obtain ⟨x, hx', hy⟩ := List.mem_flatMap.1 hy
    have h1 := hx x hx'
    have h2 := all_sizes hs x hx'
    simp only [opF, List.mem_cons, List.not_mem_nil, or_false] at hy
    rcases hy with rfl | rfl | rfl | rfl | rfl | rfl
    · exact wide_fN h1.1
    · exact wide_fT (Nat.le_trans h2.1 (by decide))
    · exact wide_fT h2.2
    · exact wide_fN h1.2.1
    · exact wide_fN h1.2.2.1
    · exact wide_fN h1.2.2.2
/-- What is encoded well is decoded. -/
theorem there {l : List S110} (hw : Wide l) (h : (encode l).2 = 0) : Fn.decode (encode l).1 = (l, 0, 0) ∧ (encode l).1.size ≤ 262144 := by
  obtain ⟨h1, h2, h3, h4⟩ := encode_ok h
  have hL : L (encode l).1 = enc l := by rw [h4]; exact strOf_I _
  refine ⟨decode_enc (fit_of hw h) h1 h3 _ hL, ?_⟩
  rw [size_L, hL]
  exact h3
/-- The fields of a request: what comes of them. -/
def reqOut (s0 : Int × Int) (r : List S27 × (List S110 × Bool)) : Int × Int × List S27 × Int :=
  if rwhole r.2 = true ∧ reqOk s0.1 s0.2 r.1 = true then (s0.1, s0.2, r.1, 0) else (0, 0, [], 80)
theorem dec_req {b : ByteArray} {l : List S110} (h : Fn.decode b = (l, 0, 0)) (hs : b.size ≤ 262144) {r : List S27 × (List S110 × Bool)}
    (hr : Ev (fun k => op_Decode.l0 k (rnum (rnum (rnum (l, true)).2).2).1 0 (rnum (rnum (rnum (l, true)).2).2).2 []) r) :
    Ev (fun k => op_Decode.f k b) (reqOut ((rnum (l, true)).1, (rnum (rnum (l, true)).2).1) r) := by
  obtain ⟨K, hK⟩ := decode_f b
  obtain ⟨K2, hK2⟩ := hr
  dsimp only at hK hK2
  refine ⟨max K K2, fun k hk => ?_⟩
  show op_Decode.f k b = _
  unfold op_Decode.f reqOut
  rw [hK k (by omega), h, Option.bind_some, if_neg (by omega), if_neg (by simp), hK2 k (by omega), Option.bind_some]
  cases hw : rwhole r.2
  · simp
  · rw [if_pos rfl, checkAll_f, Option.bind_some]
    dsimp only
    cases hq : reqOk (rnum (l, true)).1 (rnum (rnum (l, true)).2).1 r.1
    · simp
    · rw [if_pos rfl, if_pos rfl, if_pos ⟨rfl, rfl⟩]
theorem canon_rnum {s : List S110 × Bool} (h : Canon s.1) : Canon (rnum s).2.1 := (rnum_sub s).2 h
theorem of_enc {b : ByteArray} {l : List UInt8} (h : L b = l) : strOfNums (I l) = b := L_inj (by rw [strOf_I, h])
theorem dec_bad1 (b : ByteArray) (h : ¬ ((Fn.decode b).2.1 = 0 ∧ (Fn.decode b).2.2 = 0)) : ∃ c : Int, c ≠ 0 ∧ Ev (fun k => op_Decode.f k b) (0, 0, [], c) := by
  obtain ⟨K, hK⟩ := decode_f b
  dsimp only at hK
  by_cases hs : 262144 < b.size
  · refine ⟨2, by decide, ⟨K, fun k hk => ?_⟩⟩
    show op_Decode.f k b = _
    unfold op_Decode.f
    rw [hK k hk, Option.bind_some, if_pos hs]
  · refine ⟨80, by decide, ⟨K, fun k hk => ?_⟩⟩
    show op_Decode.f k b = _
    unfold op_Decode.f
    rw [hK k hk, Option.bind_some, if_neg hs, if_pos h]
/-- What is decoded, is encoded. -/
theorem req_back (b : ByteArray) : ∃ r, Ev (fun k => op_Decode.f k b) r ∧ (r.2.2.2 = 0 → encReq r.1 r.2.1 r.2.2.1 = (b, 0)) := by
  by_cases hd : (Fn.decode b).2.1 = 0 ∧ (Fn.decode b).2.2 = 0
  · obtain ⟨l, hl⟩ : ∃ l, Fn.decode b = (l, 0, 0) := ⟨(Fn.decode b).1, Prod.ext rfl (Prod.ext hd.1 hd.2)⟩
    obtain ⟨_, hL, hf, hlen, hle⟩ := decode_back hl
    have hs : b.size ≤ 262144 := by rw [size_L, hL]; exact hle
    have hc := canon_fit hf
    have c3 : Canon (rnum (rnum (rnum (l, true)).2).2).2.1 := canon_rnum (canon_rnum (canon_rnum hc))
    have l3 : (rnum (rnum (rnum (l, true)).2).2).2.1.length ≤ 4096 := by
      have h1 := (rnum_sub (l, true)).1
      have h2 := (rnum_sub (rnum (l, true)).2).1
      have h3 := (rnum_sub (rnum (rnum (l, true)).2).2).1
      dsimp only at h1
      omega
    obtain ⟨xs, s', he, hk⟩ := ops_ex (rnum (rnum (rnum (l, true)).2).2).1 4096 (rnum (rnum (rnum (l, true)).2).2).2 0 [] l3 c3 (by simp only [List.length_nil]; omega)
    refine ⟨_, dec_req hl hs he, fun h => ?_⟩
    unfold reqOut at h ⊢
    by_cases hw : rwhole s' = true ∧ reqOk (rnum (l, true)).1 (rnum (rnum (l, true)).2).1 ([] ++ xs) = true
    · rw [if_pos hw]
      dsimp only
      obtain ⟨hw, hq⟩ := hw
      unfold rwhole at hw
      obtain ⟨w1, w2⟩ := Bool.and_eq_true_iff.1 hw
      obtain ⟨k1, k2, k3⟩ := hk w1
      have k0 := List.isEmpty_iff.1 w2
      rw [k0, List.append_nil] at k2
      rw [List.nil_append] at hq ⊢
      obtain ⟨g2, m2, d2, n2⟩ := rnum_back (canon_rnum (canon_rnum hc)) k1
      obtain ⟨g1, m1, d1, n1⟩ := rnum_back (canon_rnum hc) m2
      obtain ⟨g0, m0, d0, n0⟩ := rnum_back (s := (l, true)) hc m1
      have el : l = reqF (rnum (l, true)).1 (rnum (rnum (l, true)).2).1 xs := by
        have hx : ((xs.length : Nat) : Int) = (rnum (rnum (rnum (l, true)).2).2).1 := by have := n2.1; omega
        unfold reqF
        rw [hx, ← k2]
        calc l = (l, true).1 := rfl
          _ = _ := g0
          _ = _ := by rw [g1, g2]; rfl
      unfold encReq
      rw [if_pos hq, ← el, encode_fit hf hlen hle, of_enc hL]
    · rw [if_neg hw] at h
      exact absurd h (by decide)
  · obtain ⟨c, hc, h1⟩ := dec_bad1 b hd
    exact ⟨_, h1, fun h => absurd h hc⟩
end Go.Proofs.Ytafmdlegelbfpaa.Pure
/-! Equal lists are the same. -/
namespace Go.Proofs.Ytafmdlegelbfpaa.Pure
set_option linter.unusedVariables false
set_option linter.unusedSimpArgs false
open Go Go.RowKit Go.Proofs.Ytafmdlegelbfpaa.PAll Go.Proofs.YtafmdlegelbfpaaW.PrintWords Go.Proofs.YtafmdlegelbfpaaW.PrintLast Go.Proofs.Ytafmdlegelbfpaa.Bytes Go.Proofs.Ytafmdlegelbfpaa.Fn

theorem sameOps_l0 (l : List S27) (hl : l.length ≤ 9223372036854775806) : ∀ (d i : Nat), i + d = l.length → Ev (fun k => skylarkbook_SameOps.l0 k l l (i : Int)) true := by
  intro d
  induction d with
  | zero =>
    intro i hi
    refine Ev.step (f := fun _ => some true) (fun k => ?_) (Ev.now _)
    simp only [skylarkbook_SameOps.l0]
    rw [if_neg (by omega)]
  | succ d ih =>
    intro i hi
    refine Ev.step (fun k => ?_) (ih (i + 1) (by omega))
    simp only [skylarkbook_SameOps.l0]
    rw [if_pos (by omega), if_pos (by omega), if_pos (by omega), if_neg (by simp), wrap64_id (by omega) (by omega)]
    rfl
theorem sameReq_f (a b : Int) (l : List S27) (hl : l.length ≤ 9223372036854775806) : Ev (fun k => skylarklaw08_sameRequest.f k a b l a b l) true := by
  obtain ⟨K, hK⟩ := sameOps_l0 l hl l.length 0 (by omega)
  refine ⟨K, fun k hk => ?_⟩
  have := hK k hk
  show skylarklaw08_sameRequest.f k a b l a b l = _
  unfold skylarklaw08_sameRequest.f skylarkbook_SameOps.f
  rw [if_pos rfl, if_pos rfl, if_pos rfl]
  exact Option.bind_eq_some_iff.2 ⟨_, this, rfl⟩
end Go.Proofs.Ytafmdlegelbfpaa.Pure
/-! KeptOps, of a list that was lent. -/
namespace Go.Proofs.Ytafmdlegelbfpaa.Pure
set_option linter.unusedVariables false
set_option linter.unusedSimpArgs false
open Go Go.RowKit Go.Proofs.Ytafmdlegelbfpaa.PAll Go.Proofs.YtafmdlegelbfpaaW.PrintWords Go.Proofs.YtafmdlegelbfpaaW.PrintLast Go.Proofs.Ytafmdlegelbfpaa.Bytes Go.Proofs.Ytafmdlegelbfpaa.Fn

def mark : S27 := ⟨-77, ⟨#[]⟩, ⟨#[]⟩, 0, 0, 0⟩
theorem C_front {w : World} {A : Option Addr} {l : List S27} {x : S27} (h : Kd.C k27 w A (l.length + 1) (l ++ [x])) : Kd.C k27 w A l.length l := by
  obtain ⟨h1, h2, h3⟩ := h
  refine ⟨rfl, by omega, fun h0 => ?_⟩
  obtain ⟨ad, hA, hc⟩ := h3 (by omega)
  exact ⟨ad, hA, fun j p hp => hc j p (by rw [List.getElem?_append_left (List.getElem?_eq_some_iff.1 hp).1]; exact hp)⟩
theorem cut_far (t e : TypeId) (kh : IntKind) {i : TypeInfo} (ht : Try.prog.underlying t = some (.slice e)) (hi : Try.prog.info? e = some i) (A : Option Addr) (n c : Nat) (j : Int) (h0 : 0 ≤ j) (hm : j ≤ c) :
    ∀ W : World, (Instr.slice t (.slice A n c) none (some (.int kh j)) none).run Try.prog W = .ok (.slice A j.toNat c) W := by
  intro W
  have hel : Try.prog.elem t = e := by simp [Program.elem, ht]
  have hu : Try.prog.underlying t = some (.slice (Try.prog.elem t)) := by rw [hel]; exact ht
  have ha : (A.map fun x => x.add 0) = A := by cases A <;> simp [Addr.add]
  rw [run_slice_h W t A n c hu kh j h0 hm, hel]
  simp [sizeOf, typeInfo, hi, sliced, Result.andThen, ha]
theorem sameOps_f (l : List S27) (hl : l.length ≤ 9223372036854775806) : Ev (fun k => skylarkbook_SameOps.f k l l) true := by
  refine Ev.congr (fun k => ?_) (sameOps_l0 l hl l.length 0 (by omega))
  simp only [skylarkbook_SameOps.f]
  rw [if_pos trivial]
  rfl
set_option maxHeartbeats 1000000 in
theorem kept_calls (A0 : Option Addr) (c0 : Nat) (l : List S27) (A1 : Option Addr) (c1 : Nat) (w : World) (h0 : Kd.C k27 w A0 (l.length + 1) (l ++ [mark])) (hc0 : l.length + 1 ≤ c0) (h1 : Kd.C k27 w A1 l.length l) (hc1 : l.length ≤ c1) (hl : l.length ≤ 4398046511104) :
    Calls Try.prog 24 #[.slice A0 l.length c0, .slice A1 l.length c1] w fun e w' => e = .returned (.bool true) ∧ Below w.heap.size w w' := by
  obtain ⟨K, hs⟩ := sameOps_f l (by omega)
  have HS := Aside0.mk (skylarkbook_SameOps.calls K A0 c0 l A1 c1 l true w (C_front h0) (by omega) h1 hc1 (hs K (Nat.le_refl _)))
  have H0 := Aside0.mk h0
  obtain ⟨ad, rfl⟩ : ∃ ad, A0 = some ad := by
    obtain ⟨_, _, h3⟩ := h0
    obtain ⟨ad, hA, _⟩ := h3 (by omega)
    exact ⟨ad, hA⟩
  clear h0 h1 hs
  go_enter Try.func24, Try.ntmps24
  go_wp2_with (fail)
  refine HS.out.mono ?_
  rintro e w' ⟨rfl, hD⟩
  have hB : Below w.heap.size w w' := by first | exact hD | exact hD.below
  obtain ⟨ad', had, hcN, _⟩ := at_T27 (Kd.C_below H0.out hB) (l.length : Int) (by omega) (by omega)
  injection had with had
  subst had
  have hrd : (rd_T27 (l ++ [mark]) (l.length : Int)).f0 = -77 := by
    rw [rd_at _ _ (by simp)]
    simp [mark]
  rw [hrd] at hcN
  try rw [Int.toNat_natCast] at hcN
  clear hrd
  obtain ⟨i0, hi0, _⟩ := info_parts info27
  have hcut := cut_far 22 27 .i64 Try.underlying22 hi0 (some ad) l.length c0 ((l.length : Int) + 1) (by omega) (by omega)
  have ht : ((l.length : Int) + 1).toNat = l.length + 1 := by omega
  rw [ht] at hcut
  clear hi0
  go_wp2
  go_ret
  exact ⟨rfl, hB⟩
end Go.Proofs.Ytafmdlegelbfpaa.Pure
/-! The document's answer: it comes to the same. -/
namespace Go.Proofs.Ytafmdlegelbfpaa.Pure
set_option linter.unusedVariables false
set_option linter.unusedSimpArgs false
open Go Go.RowKit Go.Proofs.Ytafmdlegelbfpaa.PAll Go.Proofs.YtafmdlegelbfpaaW.PrintWords Go.Proofs.YtafmdlegelbfpaaW.PrintLast Go.Proofs.Ytafmdlegelbfpaa.Bytes Go.Proofs.Ytafmdlegelbfpaa.Fn

theorem u64w' (a : Int) : IntKind.u64.wrap a = a % 18446744073709551616 := by simp [IntKind.wrap, IntKind.bits, IntKind.signed]
theorem str1 (n : Nat) : strOfNums [(n : Int) % 256] = ⟨#[UInt8.ofNat (n % 256)]⟩ := by
  apply L_inj
  have : [(n : Int) % 256] = I [UInt8.ofNat (n % 256)] := by rw [I_cons, I_nil, byte_toNat]
  rw [this, strOf_I]
  rfl
theorem L_one (b : UInt8) : L ⟨#[b]⟩ = [b] := rfl
theorem size_one (b : UInt8) : (⟨#[b]⟩ : ByteArray).size = 1 := rfl

theorem rnum_l0 : ∀ (r : Nat) (x4 : ByteArray), x4.size + (digs r).length ≤ 8 → r < 18446744073709551616 →
    Ev (fun k => skylarkref01_Number.l0 k (r : Int) x4) ⟨(UInt8.ofNat (x4.size + (digs r).length) :: (L x4 ++ digs r)).toArray⟩ := by
  intro r
  induction r using Nat.strongRecOn with
  | _ r ih =>
    intro x4 h8 hr
    rcases Nat.eq_zero_or_pos r with rfl | hp
    · rw [digs_zero] at h8 ⊢
      simp only [List.length_nil, Nat.add_zero] at h8
      refine Ev.step (f := fun _ => some _) (fun k => ?_) (Ev.now _)
      simp only [skylarkref01_Number.l0]
      rw [if_neg (by omega)]
      simp only [Option.bind_some]
      rw [str1, size_one, if_pos (by omega)]
      congr 1
      apply L_inj
      rw [L_append, L_one, L_mk, Nat.mod_eq_of_lt (show x4.size < 256 by omega), List.length_nil, Nat.add_zero, List.append_nil]
      rfl
    · have hd := digs_pos hp
      rw [hd, List.length_cons] at h8
      have hs : (x4 ++ (⟨#[UInt8.ofNat (r % 256)]⟩ : ByteArray)).size = x4.size + 1 := by rw [← L_length, L_append, List.length_append, L_length]; rfl
      have e : (⟨(UInt8.ofNat (x4.size + (digs r).length) :: (L x4 ++ digs r)).toArray⟩ : ByteArray) = ⟨(UInt8.ofNat ((x4 ++ (⟨#[UInt8.ofNat (r % 256)]⟩ : ByteArray)).size + (digs (r / 256)).length) :: (L (x4 ++ (⟨#[UInt8.ofNat (r % 256)]⟩ : ByteArray)) ++ digs (r / 256))).toArray⟩ := by
        rw [hs, L_append, hd, L_one, List.append_assoc, List.length_cons]
        congr 4
        omega
      rw [e]
      refine Ev.step (fun k => ?_) (ih (r / 256) (by omega) _ (by rw [hs]; omega) (by omega))
      simp only [skylarkref01_Number.l0]
      rw [if_pos (by omega)]
      simp only [Option.bind_some]
      have h1 : Int.tmod (r : Int) 256 % 256 = (r : Int) % 256 := by rw [Int.tmod_eq_emod_of_nonneg (by omega)]; omega
      have h2 : IntKind.u64.wrap (Int.tdiv (r : Int) 256) = ((r / 256 : Nat) : Int) := by rw [u64w', Int.tdiv_eq_ediv_of_nonneg (by omega)]; omega
      rw [h1, str1, size_one, if_pos (by omega), h2]
theorem rnum_f (n : Int) : Ev (fun k => skylarkref01_Number.f k n) ⟨(num (u64 n)).toArray⟩ := by
  have h := rnum_l0 (u64 n) ⟨#[]⟩ (by have := digs_u64 n; show 0 + _ ≤ 8; omega) (u64_lt n)
  have e : (⟨(num (u64 n)).toArray⟩ : ByteArray) = ⟨(UInt8.ofNat ((⟨#[]⟩ : ByteArray).size + (digs (u64 n)).length) :: (L ⟨#[]⟩ ++ digs (u64 n))).toArray⟩ := by
    unfold num
    congr 4
    show _ = 0 + _
    omega
  rw [e]
  refine Ev.congr (fun k => ?_) h
  simp only [skylarkref01_Number.f]
  rw [u64_wrap]

theorem rone_f (x : S110) (hs : x.f2.size ≤ 140737488351232) : Ev (fun k => skylarkref01_One.f k x.f0 x.f1 x.f2) ⟨(one x).toArray⟩ := by
  have hsz : ∀ n, (⟨(num (u64 n)).toArray⟩ : ByteArray).size ≤ 9 := fun n => by rw [← L_length, L_mk, num_length]; have := digs_u64 n; omega
  by_cases hf : x.f0 = true
  · obtain ⟨K, h⟩ := rnum_f (x.f2.size : Int)
    refine ⟨K, fun k hk => ?_⟩
    have h := h k hk
    dsimp only at h
    simp only [skylarkref01_One.f]
    rw [if_pos hf, h]
    simp only [Option.bind_some]
    have := hsz (x.f2.size : Int)
    rw [if_pos (by omega), if_pos (by omega)]
    congr 1
    apply L_inj
    rw [L_append, L_append, L_one, L_mk, L_mk, one, if_pos hf, u64_nat (by omega)]
    rfl
  · obtain ⟨K, h⟩ := rnum_f x.f1
    refine ⟨K, fun k hk => ?_⟩
    have h := h k hk
    dsimp only at h
    simp only [skylarkref01_One.f]
    rw [if_neg hf, h]
    simp only [Option.bind_some]
    have := hsz x.f1
    rw [if_pos (by omega)]
    congr 1
    apply L_inj
    rw [L_append, L_one, L_mk, L_mk, one, if_neg hf]
    rfl

theorem rbytes_l0 (l : List S110) (hl : l.length ≤ 4096) (hs : ∀ x ∈ l, x.f2.size ≤ 140737488351232) : ∀ (d i : Nat), i + d = l.length → (enc (l.take i)).length < 141836999983104 →
    ∃ b : ByteArray, Ev (fun k => skylarkref01_Bytes.l0 k l (I (enc (l.take i))) (i : Int)) b ∧ (if (enc l).length ≤ 262144 then L b = enc l else 262144 < b.size) := by
  intro d
  induction d with
  | zero =>
    intro i hi hb
    have : i = l.length := by omega
    subst this
    rw [List.take_length] at hb ⊢
    refine ⟨strOfNums (I (enc l)), Ev.step (f := fun _ => some _) (fun k => ?_) (Ev.now _), ?_⟩
    · simp only [skylarkref01_Bytes.l0]
      rw [if_neg (by omega)]
    · split
      · exact strOf_I _
      · rw [← L_length, strOf_I]; omega
  | succ d ih =>
    intro i hi hb
    have hlt : i < l.length := by omega
    have htk : l.take (i + 1) = l.take i ++ [l[i]] := List.take_succ_eq_append_getElem hlt
    have he : enc (l.take (i + 1)) = enc (l.take i) ++ one l[i] := by rw [htk, enc_append]; simp [enc]
    have hle : (enc (l.take i)).length ≤ (enc l).length := by
      have : enc l = enc (l.take i) ++ enc (l.drop i) := by rw [← enc_append, List.take_append_drop]
      rw [this, List.length_append]; omega
    by_cases hbig : (enc (l.take i)).length ≤ 262144
    · have hx := hs l[i] (List.getElem_mem hlt)
      have ho : (one l[i]).length ≤ 140737488351300 := by
        unfold one
        split
        · have := digs_length 8 l[i].f2.size (by omega)
          simp [num_length, L_length]; omega
        · have := digs_u64 l[i].f1
          simp [num_length]; omega
      obtain ⟨b, ⟨K, h1⟩, h2⟩ := ih (i + 1) (by omega) (by rw [he, List.length_append]; omega)
      obtain ⟨K2, h3⟩ := rone_f l[i] hx
      refine ⟨b, ⟨max K K2 + 1, fun k hk => ?_⟩, h2⟩
      obtain ⟨k, rfl⟩ : ∃ j, k = j + 1 := ⟨k - 1, by omega⟩
      have h1 := h1 k (by omega)
      have h3 := h3 k (by omega)
      dsimp only at h1 h3
      simp only [skylarkref01_Bytes.l0]
      rw [if_pos (by omega), if_pos (by rw [I_length]; omega), if_pos (by omega), rd_get l i hlt, h3]
      simp only [Option.bind_some]
      have hsz : (⟨(one l[i]).toArray⟩ : ByteArray).size = (one l[i]).length := by rw [← L_length, L_mk]
      rw [hsz, if_pos (by rw [I_length]; omega), bytesOf_I, L_mk, ← I_append, ← he, wrap64_id (by omega) (by omega)]
      exact h1
    · refine ⟨strOfNums (I (enc (l.take i))), Ev.step (f := fun _ => some _) (fun k => ?_) (Ev.now _), ?_⟩
      · simp only [skylarkref01_Bytes.l0]
        rw [if_pos (by omega), if_neg (by rw [I_length]; omega)]
      · rw [if_neg (by omega), ← L_length, strOf_I]; omega

theorem rmay_f (x : S110) : skylarkref01_May.f x.f0 x.f1 x.f2 = some (ok x) := by
  unfold skylarkref01_May.f ok
  by_cases hf : x.f0 = true
  · rw [if_pos hf, if_pos hf]
    by_cases h1 : x.f1 = 0
    · rw [if_pos h1, h1]; rfl
    · rw [if_neg h1]
      congr 1
      symm
      simpa using h1
  · rw [if_neg hf, if_neg hf, toList_L]
    congr 1
    cases L x.f2 <;> rfl
theorem rencode_l0 (l : List S110) (hl : l.length ≤ 4096) (hs : ∀ x ∈ l, x.f2.size ≤ 140737488351232) : ∀ (d i : Nat), i + d = l.length →
    Ev (fun k => skylarkref01_Encode.l0 k l (i : Int)) (if (l.drop i).all ok = false then (⟨#[]⟩, 4) else if (enc l).length > 262144 then (⟨#[]⟩, 2) else (strOfNums (I (enc l)), 0)) := by
  intro d
  induction d with
  | zero =>
    intro i hi
    have : i = l.length := by omega
    subst this
    rw [List.drop_length]
    rw [if_neg (by simp)]
    obtain ⟨b, ⟨K, h1⟩, h2⟩ := rbytes_l0 l hl hs l.length 0 (by omega) (by simp [enc_nil])
    refine ⟨K + 1, fun k hk => ?_⟩
    obtain ⟨k, rfl⟩ : ∃ j, k = j + 1 := ⟨k - 1, by omega⟩
    have h1 := h1 k (by omega)
    dsimp only at h1
    simp only [skylarkref01_Encode.l0, skylarkref01_Bytes.f]
    rw [if_neg (by omega)]
    have h1' : skylarkref01_Bytes.l0 k l ([] : List Int) 0 = some b := h1
    rw [h1']
    simp only [Option.bind_some]
    by_cases hn : (enc l).length ≤ 262144
    · rw [if_pos hn] at h2
      have hb : b = strOfNums (I (enc l)) := L_inj (by rw [h2, strOf_I])
      rw [if_neg (by rw [← L_length, h2]; omega), if_neg (by omega), hb]
    · rw [if_neg hn] at h2
      rw [if_pos (by omega), if_pos (by omega)]
  | succ d ih =>
    intro i hi
    have hlt : i < l.length := by omega
    have hd : l.drop i = l[i] :: l.drop (i + 1) := List.drop_eq_getElem_cons hlt
    obtain ⟨K, h1⟩ := ih (i + 1) (by omega)
    refine ⟨K + 1, fun k hk => ?_⟩
    obtain ⟨k, rfl⟩ : ∃ j, k = j + 1 := ⟨k - 1, by omega⟩
    have h1 := h1 k (by omega)
    dsimp only at h1
    simp only [skylarkref01_Encode.l0]
    rw [if_pos (by omega), if_pos (by omega), rd_get l i hlt, rmay_f]
    simp only [Option.bind_some]
    rw [hd, List.all_cons]
    cases ho : ok l[i] with
    | false => rw [if_neg (by simp), if_pos (by simp)]
    | true =>
      rw [if_pos rfl, Bool.true_and, wrap64_id (by omega) (by omega)]
      exact h1
theorem rencode_f (l : List S110) (hs : ∀ x ∈ l, x.f2.size ≤ 140737488351232) : Ev (fun k => skylarkref01_Encode.f k l) (encode l) := by
  unfold encode
  by_cases hl : l.length > 4096
  · rw [if_pos hl]
    refine Ev.const fun k => ?_
    simp only [skylarkref01_Encode.f]
    rw [if_pos (by omega)]
  · rw [if_neg hl]
    obtain ⟨K, h⟩ := rencode_l0 l (by omega) hs l.length 0 (by omega)
    refine ⟨K, fun k hk => ?_⟩
    have h := h k hk
    simp only [skylarkref01_Encode.f]
    rw [if_neg (by omega)]
    exact h
end Go.Proofs.Ytafmdlegelbfpaa.Pure
/-! The document's Decode: it comes to the same. -/
namespace Go.Proofs.Ytafmdlegelbfpaa.Pure
set_option linter.unusedVariables false
set_option linter.unusedSimpArgs false
open Go Go.RowKit Go.Proofs.Ytafmdlegelbfpaa.PAll Go.Proofs.YtafmdlegelbfpaaW.PrintWords Go.Proofs.YtafmdlegelbfpaaW.PrintLast Go.Proofs.Ytafmdlegelbfpaa.Bytes Go.Proofs.Ytafmdlegelbfpaa.Fn

/-- What stands at a place. -/
theorem at_drop {b : ByteArray} {p : Nat} {t : List UInt8} (h : (L b).drop p = t) (i : Nat) (hi : i < t.length) : bt b ((p + i : Nat) : Int) = (t[i].toNat : Int) ∧ p + i < b.size := by
  subst h
  rw [List.length_drop, L_length] at hi
  refine ⟨?_, by omega⟩
  rw [bt_L b (p + i) (by rw [L_length]; omega), List.getElem_drop]
theorem drop_len {b : ByteArray} {p : Nat} {t : List UInt8} (h : (L b).drop p = t) (hp : p ≤ b.size) : b.size = p + t.length := by
  rw [← h, List.length_drop, L_length]; omega

theorem rnumber_l0 (b : ByteArray) (hb : b.size ≤ 262144) (p : Nat) (m : Nat) (hm : m ≤ 8) (t : List UInt8) (hp : p + 1 ≤ b.size) (ht : (L b).drop (p + 1) = t) (hl : m ≤ t.length) (hlast : (t.take m).getLast? ≠ some 0) :
    ∀ (i : Nat), i ≤ m → Ev (fun k => skylarkref01_number.l0 k b (p : Int) (m : Int) (unl ((t.take m).drop i) : Int) (i : Int)) (i64 (unl (t.take m)), ((p + 1 + m : Nat) : Int), 0) := by
  have hsz := drop_len ht hp
  intro i
  induction i with
  | zero =>
    intro _
    refine Ev.step (f := fun _ => some _) (fun k => ?_) (Ev.now _)
    simp only [skylarkref01_number.l0]
    rw [if_neg (by omega), List.drop_zero, wrap64_id (n := (p : Int) + 1) (by omega) (by omega), wrap64_id (n := (p : Int) + 1 + (m : Int)) (by omega) (by omega)]
    congr 1
  | succ i ih =>
    intro hi
    have hil : i < (t.take m).length := by rw [List.length_take]; omega
    have hit : i < t.length := by omega
    obtain ⟨hbt, hlt⟩ := at_drop ht i hit
    have hpi : wrap64 ((p : Int) + ((i + 1 : Nat) : Int)) = ((p + 1 + i : Nat) : Int) := by rw [wrap64_id (by omega) (by omega)]; omega
    have hge : (t.take m)[i] = t[i] := by simp
    have hd : (t.take m).drop i = t[i] :: (t.take m).drop (i + 1) := by rw [List.drop_eq_getElem_cons hil, hge]
    have hu := unl_lt ((t.take m).drop (i + 1))
    have hul : ((t.take m).drop (i + 1)).length ≤ 7 := by rw [List.length_drop, List.length_take]; omega
    have hu2 : unl ((t.take m).drop (i + 1)) < 256 ^ 7 := Nat.lt_of_lt_of_le hu (Nat.pow_le_pow_right (by omega) hul)
    have h8 := (t[i]).toNat_lt
    have hw : IntKind.u64.wrap (IntKind.u64.wrap ((unl ((t.take m).drop (i + 1)) : Int) * 256) + IntKind.u64.wrap ((t[i]).toNat : Int)) = (unl ((t.take m).drop i) : Int) := by
      rw [hd]
      simp only [unl, u64w']
      omega
    have hz : i + 1 = m → ¬ ((t[i]).toNat : Int) = 0 := by
      intro e h0
      apply hlast
      rw [List.getLast?_eq_getElem?, List.length_take, Nat.min_eq_left (by omega), show m - 1 = i by omega, List.getElem?_eq_getElem hil, hge]
      congr 1
      exact (c0 _).1 h0
    refine Ev.step (fun k => ?_) (ih (by omega))
    simp only [skylarkref01_number.l0]
    rw [if_pos (by omega), hpi, if_neg (by omega), wrap64_id (n := ((i + 1 : Nat) : Int) - 1) (by omega) (by omega)]
    have hi1 : ((i + 1 : Nat) : Int) - 1 = (i : Int) := by omega
    by_cases e : i + 1 = m
    · rw [if_pos (by omega), if_pos (by omega), if_pos (by omega), hbt, if_neg (hz e), hw, hi1]
    · rw [if_neg (by omega), if_pos (by omega), if_pos (by omega), hbt, hw, hi1]

/-- What is read at a place as a number. -/
def numR (p : Nat) : List UInt8 → Int × Int × Int
  | [] => (0, 0, 11)
  | m :: t => if m.toNat > 8 then (0, 0, 3) else if t.length < m.toNat then (0, 0, 11) else if (t.take m.toNat).getLast? = some 0 then (0, 0, 3) else (i64 (unl (t.take m.toNat)), ((p + 1 + m.toNat : Nat) : Int), 0)
theorem rnumber_f (b : ByteArray) (hb : b.size ≤ 262144) (p : Nat) (hp : p ≤ b.size) : Ev (fun k => skylarkref01_number.f k b (p : Int)) (numR p ((L b).drop p)) := by
  cases ht : (L b).drop p with
  | nil =>
    have hsz := drop_len ht hp
    simp only [List.length_nil] at hsz
    refine Ev.const fun k => ?_
    simp only [skylarkref01_number.f, numR]
    rw [if_pos (by omega)]
  | cons m t =>
    have hsz := drop_len ht hp
    simp only [List.length_cons] at hsz
    have hbm := (at_drop ht 0 (by simp)).1
    simp only [Nat.add_zero, List.getElem_cons_zero] at hbm
    have hm8 := m.toNat_lt
    have hwm : wrap64 (bt b (p : Int)) = (m.toNat : Int) := by rw [hbm]; exact wrap64_id (by omega) (by omega)
    have ht1 : (L b).drop (p + 1) = t := by
      rw [← List.drop_drop, ht]; rfl
    by_cases h1 : m.toNat > 8
    · refine Ev.const fun k => ?_
      simp only [skylarkref01_number.f, numR]
      rw [if_neg (by omega), if_pos (by omega), if_pos (by omega), hwm, if_pos (by omega), if_pos h1]
    · have start : ∀ k, skylarkref01_number.f k b (p : Int) = skylarkref01_number.l0 k b (p : Int) (m.toNat : Int) 0 (m.toNat : Int) := by
        intro k
        simp only [skylarkref01_number.f]
        rw [if_neg (by omega), if_pos (by omega), if_pos (by omega), hwm, if_neg (by omega)]
      refine Ev.congr start ?_
      by_cases h2 : t.length < m.toNat
      · refine Ev.step (f := fun _ => some _) (fun k => ?_) (Ev.now _)
        simp only [skylarkref01_number.l0, numR]
        rw [if_pos (by omega), wrap64_id (n := (p : Int) + (m.toNat : Int)) (by omega) (by omega), if_pos (by omega), if_neg h1, if_pos h2]
      · by_cases h3 : (t.take m.toNat).getLast? = some 0
        · have hm0 : 0 < m.toNat := by
            rcases Nat.eq_zero_or_pos m.toNat with h | h
            · rw [h] at h3; simp at h3
            · exact h
          obtain ⟨hbt, hlt⟩ := at_drop ht1 (m.toNat - 1) (by omega)
          have hpi : wrap64 ((p : Int) + (m.toNat : Int)) = ((p + 1 + (m.toNat - 1) : Nat) : Int) := by rw [wrap64_id (by omega) (by omega)]; omega
          have hz : ((t[m.toNat - 1]'(by omega)).toNat : Int) = 0 := by
            rw [List.getLast?_eq_getElem?, List.length_take, Nat.min_eq_left (by omega), List.getElem?_take_of_lt (by omega), List.getElem?_eq_getElem (by omega)] at h3
            injection h3 with h3
            rw [h3]; rfl
          refine Ev.step (f := fun _ => some _) (fun k => ?_) (Ev.now _)
          simp only [skylarkref01_number.l0, numR]
          rw [if_pos (by omega), hpi, if_neg (by omega), if_pos trivial, if_pos (by omega), if_pos (by omega), hbt, if_pos hz, if_neg h1, if_neg h2, if_pos h3]
        · have h := rnumber_l0 b hb p m.toNat (by omega) t (by omega) ht1 (by omega) h3 m.toNat (Nat.le_refl _)
          have hdr : (t.take m.toNat).drop m.toNat = [] := List.drop_of_length_le (by rw [List.length_take]; omega)
          rw [hdr] at h
          have e : numR p (m :: t) = (i64 (unl (t.take m.toNat)), ((p + 1 + m.toNat : Nat) : Int), 0) := by
            simp only [numR]
            rw [if_neg h1, if_neg h2, if_neg h3]
          rw [e]
          exact h

def fldP (sz : Nat) (l : List UInt8) : Bool × Int × ByteArray × Int × Int :=
  match fld l with
  | .error e => (false, 0, ⟨#[]⟩, 0, e)
  | .ok (x, r) => (x.f0, x.f1, x.f2, ((sz - r.length : Nat) : Int), 0)
theorem rfield_j1 (k : Nat) (b : ByteArray) (q n : Nat) (hq : q ≤ b.size) (hb : b.size ≤ 262144) (hn : n ≤ 262144) :
    skylarkref01_field.j1 (k + 1) b (n : Int) ((q : Nat) : Int) false = if b.size - q < n then some (false, 0, (⟨#[]⟩ : ByteArray), 0, 11) else some (true, 0, b.extract q (q + n), ((q + n : Nat) : Int), 0) := by
  have w1 : wrap64 ((b.size : Int) - (q : Int)) = ((b.size - q : Nat) : Int) := by rw [wrap64_id (by omega) (by omega)]; omega
  have w2 : wrap64 ((q : Int) + (n : Int)) = ((q + n : Nat) : Int) := by rw [wrap64_id (by omega) (by omega)]; omega
  simp only [skylarkref01_field.j1]
  rw [if_neg (by decide), w1, w2]
  by_cases h : b.size - q < n
  · rw [if_pos h, if_pos (by omega)]
  · rw [if_neg h, if_neg (by omega), if_pos (by omega), if_pos (by omega), if_pos (by omega), Int.toNat_natCast, Int.toNat_natCast]
set_option maxHeartbeats 1000000 in
theorem rfield_f (b : ByteArray) (hb : b.size ≤ 262144) (p : Nat) (hp : p < b.size) : Ev (fun k => skylarkref01_field.f k b (p : Int)) (fldP b.size ((L b).drop p)) := by
  cases ht : (L b).drop p with
  | nil =>
    have hsz := drop_len ht (by omega)
    simp only [List.length_nil] at hsz
    omega
  | cons c l =>
    have hsz := drop_len ht (by omega)
    simp only [List.length_cons] at hsz
    have hbc := (at_drop ht 0 (by simp)).1
    simp only [Nat.add_zero, List.getElem_cons_zero] at hbc
    have hc8 := c.toNat_lt
    have ht1 : (L b).drop (p + 1) = l := by
      rw [← List.drop_drop, ht]; rfl
    by_cases hk : c ≠ 78 ∧ c ≠ 84
    · have hr : fldP b.size (c :: l) = (false, 0, ⟨#[]⟩, 0, 3) := by cases l <;> simp [fldP, fld, hk]
      rw [hr]
      refine ⟨1, fun k hk1 => ?_⟩
      obtain ⟨k, rfl⟩ : ∃ j, k = j + 1 := ⟨k - 1, by omega⟩
      have q1 : ¬ ((c.toNat : Int) = 78) := fun h => hk.1 ((c78 c).1 h)
      have q2 : ((c.toNat : Int) != 84) = true := by
        rw [bne_iff_ne]; exact fun h => hk.2 ((c84 c).1 h)
      simp only [skylarkref01_field.f]
      rw [if_pos (by omega), if_pos (by omega), hbc, if_neg q1, q2]
      simp only [skylarkref01_field.j0]
      rfl
    · have start : ∀ k, skylarkref01_field.f k b (p : Int) = skylarkref01_field.j0 k b (p : Int) false := by
        intro k
        simp only [skylarkref01_field.f]
        rw [if_pos (by omega), if_pos (by omega), hbc]
        by_cases h78 : (c.toNat : Int) = 78
        · rw [if_pos h78]
        · have h84 : (c.toNat : Int) = 84 := by
            rw [c84]
            by_cases e : c = 84
            · exact e
            · exact absurd ⟨fun h => h78 ((c78 c).2 h), e⟩ hk
          rw [if_neg h78, h84]
          rfl
      refine Ev.congr start ?_
      obtain ⟨K, hn⟩ := rnumber_f b hb (p + 1) (by omega)
      rw [ht1] at hn
      have hw : wrap64 ((p : Int) + 1) = ((p + 1 : Nat) : Int) := by rw [wrap64_id (by omega) (by omega)]; omega
      -- the rest by what the number is
      have head : ∀ k, K ≤ k → skylarkref01_field.j0 (k + 1) b (p : Int) false = (if (numR (p + 1) l).2.2 = 0 then (if (c.toNat : Int) = 78 then (some (false, (numR (p + 1) l).1, (⟨#[]⟩ : ByteArray), (numR (p + 1) l).2.1, 0)) else (if (numR (p + 1) l).1 < 0 then (skylarkref01_field.j1 k b (numR (p + 1) l).1 (numR (p + 1) l).2.1 true) else (skylarkref01_field.j1 k b (numR (p + 1) l).1 (numR (p + 1) l).2.1 (decide ((numR (p + 1) l).1 > 262144))))) else (some (false, 0, (⟨#[]⟩ : ByteArray), 0, (numR (p + 1) l).2.2))) := by
        intro k hk1
        have h := hn k hk1
        dsimp only at h
        simp only [skylarkref01_field.j0]
        rw [if_neg (by decide), hw, h]
        simp only [Option.bind_some]
        rw [if_pos (show (0 : Int) ≤ (p : Int) by omega), if_pos (show (p : Int) < (b.size : Int) by omega), hbc]
      cases l with
      | nil =>
        refine ⟨K + 1, fun k hk1 => ?_⟩
        obtain ⟨k, rfl⟩ : ∃ j, k = j + 1 := ⟨k - 1, by omega⟩
        dsimp only
        have e0 : numR (p + 1) [] = (0, 0, 11) := rfl
        rw [head k (by omega), e0]
        simp only [fldP, fld]
        rw [if_neg (show ¬ ((11 : Int) = 0) by decide), if_neg hk]
      | cons m t =>
        simp only [List.length_cons] at hsz
        have ht2 : (L b).drop (p + 2) = t := by
          rw [← List.drop_drop, ht]; rfl
        have e0 : numR (p + 1) (m :: t) = if m.toNat > 8 then (0, 0, 3) else if t.length < m.toNat then (0, 0, 11) else if (t.take m.toNat).getLast? = some 0 then (0, 0, 3) else (i64 (unl (t.take m.toNat)), ((p + 1 + 1 + m.toNat : Nat) : Int), 0) := rfl
        by_cases h1 : m.toNat > 8
        · rw [if_pos h1] at e0
          refine ⟨K + 1, fun k hk1 => ?_⟩
          obtain ⟨k, rfl⟩ : ∃ j, k = j + 1 := ⟨k - 1, by omega⟩
          dsimp only
          rw [head k (by omega), e0]
          simp only [fldP, fld]
          rw [if_neg (by decide), if_neg hk, if_pos h1]
        rw [if_neg h1] at e0
        by_cases h2 : t.length < m.toNat
        · rw [if_pos h2] at e0
          refine ⟨K + 1, fun k hk1 => ?_⟩
          obtain ⟨k, rfl⟩ : ∃ j, k = j + 1 := ⟨k - 1, by omega⟩
          dsimp only
          rw [head k (by omega), e0]
          simp only [fldP, fld]
          rw [if_neg (by decide), if_neg hk, if_neg h1, if_pos h2]
        rw [if_neg h2] at e0
        by_cases h3 : (t.take m.toNat).getLast? = some 0
        · rw [if_pos h3] at e0
          refine ⟨K + 1, fun k hk1 => ?_⟩
          obtain ⟨k, rfl⟩ : ∃ j, k = j + 1 := ⟨k - 1, by omega⟩
          dsimp only
          rw [head k (by omega), e0]
          simp only [fldP, fld]
          rw [if_neg (by decide), if_neg hk, if_neg h1, if_neg h2, if_pos h3]
        rw [if_neg h3] at e0
        by_cases h78 : c = 78
        · refine ⟨K + 1, fun k hk1 => ?_⟩
          obtain ⟨k, rfl⟩ : ∃ j, k = j + 1 := ⟨k - 1, by omega⟩
          dsimp only
          rw [head k (by omega), e0]
          dsimp only
          rw [if_pos rfl, if_pos ((c78 c).2 h78)]
          simp only [fldP, fld]
          rw [if_neg hk, if_neg h1, if_neg h2, if_neg h3, if_pos h78]
          simp only [List.length_drop]
          congr 5
          omega
        have hu : unl (t.take m.toNat) < 18446744073709551616 := Nat.lt_of_lt_of_le (unl_lt _) (by
          have : (t.take m.toNat).length ≤ 8 := by rw [List.length_take]; omega
          calc 256 ^ (t.take m.toNat).length ≤ 256 ^ 8 := Nat.pow_le_pow_right (by omega) this
            _ = 18446744073709551616 := by decide)
        have q78 : ¬ ((c.toNat : Int) = 78) := fun h => h78 ((c78 c).1 h)
        by_cases h4 : unl (t.take m.toNat) > 262144
        · refine ⟨K + 2, fun k hk1 => ?_⟩
          obtain ⟨k, rfl⟩ : ∃ j, k = j + 2 := ⟨k - 2, by omega⟩
          dsimp only
          rw [head (k + 1) (by omega), e0]
          dsimp only
          rw [if_pos rfl, if_neg q78]
          have ej : ∀ x y, skylarkref01_field.j1 (k + 1) b x y true = some (false, 0, (⟨#[]⟩ : ByteArray), 0, 3) := fun x y => by simp only [skylarkref01_field.j1]; rfl
          simp only [fldP, fld]
          rw [if_neg hk, if_neg h1, if_neg h2, if_neg h3, if_neg h78, if_pos h4]
          have hbig := i64_big h4 hu
          generalize i64 (unl (t.take m.toNat)) = z at hbig ⊢
          by_cases h5 : z < 0
          · rw [if_pos h5, ej]
          · have h6 : z > 262144 := by rcases hbig with h | h; exact absurd h h5; exact h
            rw [if_neg h5, decide_eq_true h6, ej]
        · have hi := i64_small h4
          refine ⟨K + 2, fun k hk1 => ?_⟩
          obtain ⟨k, rfl⟩ : ∃ j, k = j + 2 := ⟨k - 2, by omega⟩
          have hj := rfield_j1 k b (p + 2 + m.toNat) (unl (t.take m.toNat)) (by omega) hb (by omega)
          dsimp only
          rw [head (k + 1) (by omega), e0]
          dsimp only
          rw [if_pos rfl, if_neg q78, hi, if_neg (show ¬ ((unl (t.take m.toNat) : Int) < 0) by omega), decide_eq_false (show ¬ ((unl (t.take m.toNat) : Int) > 262144) by omega), hj]
          have ef : fld (c :: m :: t) = if (t.drop m.toNat).length < unl (t.take m.toNat) then .error 11 else .ok (⟨true, 0, ⟨((t.drop m.toNat).take (unl (t.take m.toNat))).toArray⟩⟩, (t.drop m.toNat).drop (unl (t.take m.toNat))) := by
            simp only [fld]
            rw [if_neg hk, if_neg h1, if_neg h2, if_neg h3, if_neg h78, if_neg h4]
          by_cases h5 : (t.drop m.toNat).length < unl (t.take m.toNat)
          · rw [if_pos h5] at ef
            rw [List.length_drop] at h5
            rw [if_pos (by omega)]
            simp only [fldP, ef]
          · rw [if_neg h5] at ef
            rw [List.length_drop] at h5
            have ex : b.extract (p + 2 + m.toNat) (p + 2 + m.toNat + unl (t.take m.toNat)) = ⟨((t.drop m.toNat).take (unl (t.take m.toNat))).toArray⟩ := by
              apply of_L
              rw [L_extract, List.drop_take, Nat.add_sub_cancel_left, ← List.drop_drop, ht2]
            rw [if_neg (by omega), ex]
            simp only [fldP, ef, List.length_drop]
            congr 5
            omega

theorem rdecode_l0 (b : ByteArray) (hb : b.size ≤ 262144) : ∀ (n : Nat) (acc : List S110) (p : Nat), b.size - p ≤ n → p ≤ b.size → acc.length ≤ 4096 →
    Ev (fun k => skylarkref01_Decode.l0 k b acc (p : Int)) (dec b.size n acc ((L b).drop p)) := by
  intro n
  induction n with
  | zero =>
    intro acc p hn hp ha
    have hnil : (L b).drop p = [] := List.drop_of_length_le (by rw [L_length]; omega)
    rw [hnil]
    refine Ev.step (f := fun _ => some _) (fun k => ?_) (Ev.now _)
    simp only [skylarkref01_Decode.l0, dec]
    rw [if_neg (by omega)]
  | succ n ih =>
    intro acc p hn hp ha
    cases ht : (L b).drop p with
    | nil =>
      have hsz := drop_len ht hp
      simp only [List.length_nil] at hsz
      refine Ev.step (f := fun _ => some _) (fun k => ?_) (Ev.now _)
      simp only [skylarkref01_Decode.l0, dec]
      rw [if_neg (by omega)]
    | cons c l =>
      have hsz := drop_len ht hp
      simp only [List.length_cons] at hsz
      have hpos : (b.size : Int) - (((c :: l).length : Nat) : Int) = (p : Int) := by simp only [List.length_cons]; omega
      by_cases hfull : acc.length = 4096
      · refine Ev.step (f := fun _ => some _) (fun k => ?_) (Ev.now _)
        simp only [skylarkref01_Decode.l0, dec, skylarkref01_Fault.f]
        rw [if_pos (by omega), if_pos (by omega), if_pos hfull, hpos]
        rfl
      · obtain ⟨K, hf⟩ := rfield_f b hb p (by omega)
        rw [ht] at hf
        cases hq : fld (c :: l) with
        | error e =>
          have he := fld_err (l := c :: l) (by simp) hq
          refine ⟨K + 1, fun k hk => ?_⟩
          obtain ⟨k, rfl⟩ : ∃ j, k = j + 1 := ⟨k - 1, by omega⟩
          have h := hf k (by omega)
          dsimp only at h
          simp only [skylarkref01_Decode.l0, dec, skylarkref01_Fault.f]
          rw [if_pos (by omega), if_neg (by omega), if_neg hfull, h]
          simp only [Option.bind_some, fldP, hq]
          rw [if_neg (by omega), hpos]
        | ok xr =>
          obtain ⟨x, r⟩ := xr
          have hsh := fld_shorter hq
          obtain ⟨hb1, _⟩ := fld_back hq
          simp only [List.length_cons] at hsh
          have hr : (L b).drop (b.size - r.length) = r := by
            have e1 : (L b).drop p = one x ++ r := by rw [ht, hb1]
            have e2 : (one x).length + r.length = l.length + 1 := by
              have := congrArg List.length hb1
              simp only [List.length_cons, List.length_append] at this
              omega
            have e3 : b.size - r.length = p + (one x).length := by omega
            rw [e3, ← List.drop_drop, e1, List.drop_left]
          obtain ⟨K2, h2⟩ := ih (acc ++ [x]) (b.size - r.length) (by omega) (by omega) (by simp; omega)
          rw [hr] at h2
          refine ⟨max K K2 + 1, fun k hk => ?_⟩
          obtain ⟨k, rfl⟩ : ∃ j, k = j + 1 := ⟨k - 1, by omega⟩
          have h := hf k (by omega)
          have h2 := h2 k (by omega)
          dsimp only at h h2
          simp only [skylarkref01_Decode.l0, dec, skylarkref01_Fault.f]
          rw [if_pos (by omega), if_neg (by omega), if_neg hfull, h]
          simp only [Option.bind_some, fldP, hq]
          rw [if_pos trivial, if_pos (by omega)]
          exact h2
theorem rdecode_f (b : ByteArray) : Ev (fun k => skylarkref01_Decode.f k b) (Fn.decode b) := by
  unfold Fn.decode
  by_cases hb : (L b).length > 262144
  · rw [if_pos hb]
    refine Ev.const fun k => ?_
    simp only [skylarkref01_Decode.f, skylarkref01_Fault.f]
    rw [if_pos (by rw [← L_length]; omega)]
    rfl
  · rw [if_neg hb]
    rw [L_length] at hb ⊢
    obtain ⟨K, h⟩ := rdecode_l0 b (by omega) b.size [] 0 (by omega) (by omega) (by simp)
    refine ⟨K, fun k hk => ?_⟩
    have h := h k hk
    rw [List.drop_zero] at h
    simp only [skylarkref01_Decode.f]
    rw [if_neg (by omega)]
    exact h
end Go.Proofs.Ytafmdlegelbfpaa.Pure
/-! The document's reader. -/
namespace Go.Proofs.Ytafmdlegelbfpaa.Pure
set_option linter.unusedVariables false
set_option linter.unusedSimpArgs false
open Go Go.RowKit Go.Proofs.Ytafmdlegelbfpaa.PAll Go.Proofs.YtafmdlegelbfpaaW.PrintWords Go.Proofs.YtafmdlegelbfpaaW.PrintLast Go.Proofs.Ytafmdlegelbfpaa.Bytes Go.Proofs.Ytafmdlegelbfpaa.Fn

/-- Its number, its text: of what is at a place. -/
def qn (l : List S110) (s : Int × Bool) : Int × (Int × Bool) :=
  if s.1 < (l.length : Int) ∧ (rd_T110 l s.1).f0 = false ∧ 0 ≤ (rd_T110 l s.1).f1 ∧ (rd_T110 l s.1).f1 ≤ 1099511627776 then ((rd_T110 l s.1).f1, (s.1 + 1, s.2)) else (0, (s.1, true))
def qt (l : List S110) (s : Int × Bool) : ByteArray × (Int × Bool) :=
  if s.1 < (l.length : Int) ∧ (rd_T110 l s.1).f0 = true then ((rd_T110 l s.1).f2, (s.1 + 1, s.2)) else (⟨#[]⟩, (s.1, true))
theorem qn_f (l : List S110) (hl : l.length ≤ 4096) (s : Int × Bool) (h0 : 0 ≤ s.1) : skylarkref08_reader_num.f l s.1 s.2 = some ((qn l s).1, (qn l s).2.1, (qn l s).2.2) := by
  unfold skylarkref08_reader_num.f qn
  by_cases h1 : s.1 < (l.length : Int)
  · rw [if_neg (by omega), if_pos h0, if_pos h1]
    cases hf : (rd_T110 l s.1).f0
    · rw [if_neg (by decide)]
      by_cases h2 : (rd_T110 l s.1).f1 < 0
      · rw [if_pos h2, if_neg (by omega)]
      · rw [if_neg h2]
        by_cases h3 : (rd_T110 l s.1).f1 > 1099511627776
        · rw [if_pos h3, if_neg (by omega)]
        · rw [if_neg h3, wrap64_id (n := s.1 + 1) (by omega) (by omega), wrap64_id (n := s.1 + 1 - 1) (by omega) (by omega), if_pos (by omega), if_pos (by omega), if_pos ⟨h1, rfl, by omega, by omega⟩, show s.1 + 1 - 1 = s.1 by omega]
    · rw [if_pos rfl, if_neg (fun h => by cases h.2.1)]
  · rw [if_pos (by omega), if_neg (fun h => h1 h.1)]
theorem qt_f (l : List S110) (hl : l.length ≤ 4096) (s : Int × Bool) (h0 : 0 ≤ s.1) : skylarkref08_reader_text.f l s.1 s.2 = some ((qt l s).1, (qt l s).2.1, (qt l s).2.2) := by
  unfold skylarkref08_reader_text.f qt
  by_cases h1 : s.1 < (l.length : Int)
  · rw [if_neg (by omega), if_pos h0, if_pos h1]
    cases hf : (rd_T110 l s.1).f0
    · first | rw [if_pos (by decide)] | rw [if_pos rfl] | skip
      first | rw [if_neg (fun h => by cases h.2)] | simp
    · simp only [Bool.not_true, Bool.false_eq_true, if_false, if_true, and_true]
      rw [wrap64_id (n := s.1 + 1) (by omega) (by omega), wrap64_id (n := s.1 + 1 - 1) (by omega) (by omega), if_pos (by omega), if_pos (by omega), if_pos h1, show s.1 + 1 - 1 = s.1 by omega]
  · rw [if_pos (by omega), if_neg (fun h => h1 h.1)]
theorem qn_ge {l : List S110} {s : Int × Bool} (h0 : 0 ≤ s.1) : 0 ≤ (qn l s).2.1 := by
  unfold qn
  split
  · show 0 ≤ s.1 + 1; omega
  · exact h0
theorem qt_ge {l : List S110} {s : Int × Bool} (h0 : 0 ≤ s.1) : 0 ≤ (qt l s).2.1 := by
  unfold qt
  split
  · show 0 ≤ s.1 + 1; omega
  · exact h0
/-- The document's reader and op's stand alike: both in good order at one place, or both in none. -/
def Twin (l : List S110) (s : Int × Bool) (t : List S110 × Bool) : Prop :=
  (s.2 = false ∧ 0 ≤ s.1 ∧ s.1 ≤ (l.length : Int) ∧ t = (l.drop s.1.toNat, true)) ∨ (s.2 = true ∧ t.2 = false)
theorem qn_bad {l : List S110} {s : Int × Bool} (h : s.2 = true) : (qn l s).2.2 = true := by
  unfold qn
  split
  · exact h
  · rfl
theorem qt_bad {l : List S110} {s : Int × Bool} (h : s.2 = true) : (qt l s).2.2 = true := by
  unfold qt
  split
  · exact h
  · rfl
theorem rnum_off {t : List S110 × Bool} (h : t.2 = false) : (rnum t).2.2 = false := by
  cases hq : (rnum t).2.2
  · rfl
  · rw [rnum_mark hq] at h; exact h
theorem rtxt_off {t : List S110 × Bool} (h : t.2 = false) : (rtxt t).2.2 = false := by
  cases hq : (rtxt t).2.2
  · rfl
  · rw [rtxt_mark hq] at h; exact h
theorem drop_at {l : List S110} {i : Int} (h0 : 0 ≤ i) (h1 : i < (l.length : Int)) : l.drop i.toNat = rd_T110 l i :: l.drop (i + 1).toNat := by
  obtain ⟨n, rfl⟩ : ∃ n : Nat, i = n := ⟨i.toNat, by omega⟩
  rw [rd_get l n (by omega), Int.toNat_natCast, show ((n : Int) + 1).toNat = n + 1 by omega]
  exact List.drop_eq_getElem_cons (by omega)
theorem drop_end {l : List S110} {i : Int} (h1 : ¬ i < (l.length : Int)) : l.drop i.toNat = [] := List.drop_of_length_le (by omega)
theorem twin_n {l : List S110} {s : Int × Bool} {t : List S110 × Bool} (h : Twin l s t) : Twin l (qn l s).2 (rnum t).2 ∧ ((qn l s).2.2 = false → s.2 = false ∧ (qn l s).1 = (rnum t).1) := by
  rcases h with ⟨h1, h2, h3, rfl⟩ | ⟨h1, h2⟩
  · unfold qn
    by_cases hi : s.1 < (l.length : Int)
    · rw [drop_at h2 hi, rnum_cons]
      unfold fldOk
      by_cases hc : s.1 < (l.length : Int) ∧ (rd_T110 l s.1).f0 = false ∧ 0 ≤ (rd_T110 l s.1).f1 ∧ (rd_T110 l s.1).f1 ≤ 1099511627776
      · rw [if_pos hc, if_pos (by rw [hc.2.1, decide_eq_true hc.2.2]; rfl)]
        exact ⟨.inl ⟨h1, by show 0 ≤ s.1 + 1; omega, by show s.1 + 1 ≤ _; omega, rfl⟩, fun _ => ⟨h1, rfl⟩⟩
      · rw [if_neg hc, if_neg (fun hq => hc (by
          rw [Bool.and_eq_true] at hq
          exact ⟨hi, by simpa using hq.1, of_decide_eq_true hq.2⟩))]
        exact ⟨.inr ⟨rfl, rfl⟩, fun hq => by cases hq⟩
    · rw [drop_end hi, rnum_nil, if_neg (fun hq => hi hq.1)]
      exact ⟨.inr ⟨rfl, rfl⟩, fun hq => by cases hq⟩
  · exact ⟨.inr ⟨qn_bad h1, rnum_off h2⟩, fun hq => by rw [qn_bad h1] at hq; cases hq⟩
theorem twin_t {l : List S110} (hc : Canon l) {s : Int × Bool} {t : List S110 × Bool} (h : Twin l s t) : Twin l (qt l s).2 (rtxt t).2 ∧ ((qt l s).2.2 = false → s.2 = false ∧ (qt l s).1 = (rtxt t).1) := by
  rcases h with ⟨h1, h2, h3, rfl⟩ | ⟨h1, h2⟩
  · unfold qt
    by_cases hi : s.1 < (l.length : Int)
    · have hm : rd_T110 l s.1 ∈ l := by
        have : rd_T110 l s.1 ∈ l.drop s.1.toNat := by rw [drop_at h2 hi]; exact List.mem_cons_self
        exact List.mem_of_mem_drop this
      have hcn := (hc _ hm).2
      rw [drop_at h2 hi, rtxt_cons]
      unfold fldOk
      by_cases hc : s.1 < (l.length : Int) ∧ (rd_T110 l s.1).f0 = true
      · rw [if_pos hc, if_pos (by rw [hc.2, hcn hc.2]; rfl)]
        exact ⟨.inl ⟨h1, by show 0 ≤ s.1 + 1; omega, by show s.1 + 1 ≤ _; omega, rfl⟩, fun _ => ⟨h1, rfl⟩⟩
      · rw [if_neg hc, if_neg (fun hq => hc (by
          rw [Bool.and_eq_true] at hq
          exact ⟨hi, by simpa using hq.1⟩))]
        exact ⟨.inr ⟨rfl, rfl⟩, fun hq => by cases hq⟩
    · rw [drop_end hi, rtxt_nil, if_neg (fun hq => hi hq.1)]
      exact ⟨.inr ⟨rfl, rfl⟩, fun hq => by cases hq⟩
  · exact ⟨.inr ⟨qt_bad h1, rtxt_off h2⟩, fun hq => by rw [qt_bad h1] at hq; cases hq⟩
/-- An operation that the document reads. -/
def qop (l : List S110) (s : Int × Bool) : S27 × (Int × Bool) :=
  (⟨(qn l s).1, (qt l (qn l s).2).1, (qt l (qt l (qn l s).2).2).1, (qn l (qt l (qt l (qn l s).2).2).2).1, (qn l (qn l (qt l (qt l (qn l s).2).2).2).2).1, (qn l (qn l (qn l (qt l (qt l (qn l s).2).2).2).2).2).1⟩, (qn l (qn l (qn l (qt l (qt l (qn l s).2).2).2).2).2).2)
theorem twin_op {l : List S110} (hc : Canon l) {s : Int × Bool} {t : List S110 × Bool} (h : Twin l s t) : Twin l (qop l s).2 (rop t).2 ∧ ((qop l s).2.2 = false → s.2 = false ∧ (qop l s).1 = (rop t).1) := by
  obtain ⟨t1, e1⟩ := twin_n h
  obtain ⟨t2, e2⟩ := twin_t hc t1
  obtain ⟨t3, e3⟩ := twin_t hc t2
  obtain ⟨t4, e4⟩ := twin_n t3
  obtain ⟨t5, e5⟩ := twin_n t4
  obtain ⟨t6, e6⟩ := twin_n t5
  refine ⟨t6, fun hq => ?_⟩
  obtain ⟨q5, v5⟩ := e6 hq
  obtain ⟨q4, v4⟩ := e5 q5
  obtain ⟨q3, v3⟩ := e4 q4
  obtain ⟨q2, v2⟩ := e3 q3
  obtain ⟨q1, v1⟩ := e2 q2
  obtain ⟨q0, v0⟩ := e1 q1
  refine ⟨q0, ?_⟩
  unfold qop rop
  dsimp only
  rw [v0, v1, v2, v3, v4, v5]
/-- Its reader in memory. -/
def Rq (w0 w : World) (g : Nat) (l : List S110) (s : Int × Bool) : Prop := IsS96 w0 w g l s.1 s.2 ∧ 0 ≤ s.1
theorem ref_num.calls (g : Nat) (l : List S110) (hl : l.length ≤ 4096) (s : Int × Bool) (w0 w : World) (hI : Rq w0 w g l s) (hB : Below w0.heap.size w0 w) :
    Calls Try.prog 55 #[.pointer (some ⟨g, 0, none⟩)] w fun e w' => e = .returned (.int .i64 (qn l s).1) ∧ Rq w0 w' g l (qn l s).2 ∧ KeepBut w w' g none ∧ Below w0.heap.size w0 w' := by
  refine (skylarkref08_reader_num.calls g l s.1 s.2 _ _ _ w0 w hI.1 hB (qn_f l hl s hI.2)).mono ?_
  rintro e w' ⟨rfl, h1, h2, h3⟩
  exact ⟨rfl, ⟨h1, qn_ge hI.2⟩, h3, h2⟩
theorem ref_text.calls (g : Nat) (l : List S110) (hl : l.length ≤ 4096) (s : Int × Bool) (w0 w : World) (hI : Rq w0 w g l s) (hB : Below w0.heap.size w0 w) :
    Calls Try.prog 56 #[.pointer (some ⟨g, 0, none⟩)] w fun e w' => e = .returned (.string (qt l s).1) ∧ Rq w0 w' g l (qt l s).2 ∧ KeepBut w w' g none ∧ Below w0.heap.size w0 w' := by
  refine (skylarkref08_reader_text.calls g l s.1 s.2 _ _ _ w0 w hI.1 hB (qt_f l hl s hI.2)).mono ?_
  rintro e w' ⟨rfl, h1, h2, h3⟩
  exact ⟨rfl, ⟨h1, qt_ge hI.2⟩, h3, h2⟩
set_option maxHeartbeats 2000000 in
set_option maxRecDepth 100000 in
/-- Bytes that are none. -/
theorem ref_open.bad (k : Nat) (b : ByteArray) (l : List S110) (fa fc : Int) (w : World) (h : skylarkref01_Decode.f k b = some (l, fa, fc)) (c : Int) (hc : (262144 < b.size ∧ c = 2) ∨ (b.size ≤ 262144 ∧ fc ≠ 0 ∧ c = 80)) :
    Calls Try.prog 54 #[.string b] w fun e w' => e = .returned (.tuple #[.pointer none, .int .i64 c]) ∧ Below w.heap.size w w' := by
  have hu := Try.underlying45
  have hur := Try.underlying96
  have HP := Aside0.mk (fun (W : World) => skylarkref01_Decode.calls k b l fa fc W h)
  clear h
  rcases hc with ⟨h1, rfl⟩ | ⟨h1, h2, rfl⟩
  · have q1 : decide ((262144 : Int) < (b.size : Int)) = true := decide_eq_true (by omega)
    clear h1
    go_enter Try.func54, Try.ntmps54
    go_wp2
    go_ret2
    exact ⟨rfl, Below.refl _ _⟩
  · have q1 : decide ((262144 : Int) < (b.size : Int)) = false := decide_eq_false (by omega)
    have q2 : (fc != 0) = true := bne_iff_ne.mpr h2
    clear h1 h2
    go_enter Try.func54, Try.ntmps54
    go_wp2_with (fail)
    refine (HP.out _).mono ?_
    rintro e w1 ⟨v1, rfl, hR, hB⟩
    obtain ⟨A1, n1, c1, rfl⟩ := R_form3 hR
    have HB := Aside0.mk hB
    clear hR hB HP
    go_wp2
    go_ret2
    exact ⟨rfl, HB.out.alloc HB.out.size _⟩
set_option maxHeartbeats 2000000 in
set_option maxRecDepth 100000 in
/-- A reader of the list. -/
theorem ref_open.good (k : Nat) (b : ByteArray) (l : List S110) (fa : Int) (w : World) (h : skylarkref01_Decode.f k b = some (l, fa, 0)) (hb : b.size ≤ 262144) :
    Calls Try.prog 54 #[.string b] w fun e w' => ∃ (g : Nat) (w0 : World), e = .returned (.tuple #[.pointer (some ⟨g, 0, none⟩), .int .i64 0]) ∧ Rq w0 w' g l (0, false) ∧ Below w0.heap.size w0 w' ∧ Below w.heap.size w w0 := by
  have hu := Try.underlying45
  have hur := Try.underlying96
  have HP := Aside0.mk (skylarkref01_Decode.calls k b l fa 0 w h)
  clear h
  have q1 : decide ((262144 : Int) < (b.size : Int)) = false := decide_eq_false (by omega)
  clear hb
  go_enter Try.func54, Try.ntmps54
  go_wp2_with (fail)
  refine HP.out.mono ?_
  rintro e w1 ⟨v1, rfl, hR, hB⟩
  obtain ⟨A1, c1, rfl⟩ := Kd.R_slice hR
  have hRd := Kd.R_reads' hR
  have hle := hRd.2.1
  have HC := Aside0.mk hRd.2.2
  have HB := Aside0.mk hB
  clear hR hB HP hRd
  go_wp2
  go_ret2
  have hA := (Below.refl w1.heap.size w1).alloc (Nat.le_refl _) (.cells #[.int .i64 fa, .int .i64 0] 45)
  refine ⟨w1.heap.size + 1, w1, rfl, ⟨⟨A1, c1, alloc_at (by simp), by omega, HC.out⟩, Int.le_refl _⟩, hA.alloc hA.size _, HB.out⟩
end Go.Proofs.Ytafmdlegelbfpaa.Pure
/-! What may be, by the document. -/
namespace Go.Proofs.Ytafmdlegelbfpaa.Pure
set_option linter.unusedVariables false
set_option linter.unusedSimpArgs false
open Go Go.RowKit Go.Proofs.Ytafmdlegelbfpaa.PAll Go.Proofs.YtafmdlegelbfpaaW.PrintWords Go.Proofs.YtafmdlegelbfpaaW.PrintLast Go.Proofs.Ytafmdlegelbfpaa.Bytes Go.Proofs.Ytafmdlegelbfpaa.Fn

theorem rin_f (a m n : Int) : skylarkref08_in.f a m n = some (decide (m ≤ a ∧ a ≤ n)) := by
  unfold skylarkref08_in.f
  by_cases h : a ≥ m
  · rw [if_pos h]; congr 1; simp; omega
  · rw [if_neg h]; congr 1; simp; omega
theorem empty_iff (s : ByteArray) : (s.toList = ([] : List UInt8)) ↔ s.size = 0 := by
  rw [toList_L, size_L]
  exact List.length_eq_zero_iff.symm
theorem rkey_f (s : ByteArray) : skylarkref07_Key.f s = some (decide (1 ≤ s.size ∧ s.size ≤ 64)) := by
  unfold skylarkref07_Key.f
  by_cases h : s.toList = ([] : List UInt8)
  · rw [if_pos h, decide_eq_false (by rw [empty_iff] at h; omega)]
  · rw [if_neg h]
    rw [empty_iff] at h
    congr 1
    simp only [decide_eq_decide]
    omega
theorem may_f (k : Nat) (x : S27) : skylarkref08_May.f (k + 2) x.f0 x.f1 x.f2 x.f3 x.f4 x.f5 = some (opOk x) := by
  obtain ⟨f0, f1, f2, f3, f4, f5⟩ := x
  have key : ∀ (x4 : Int) (q : Bool), skylarkref08_May.j0 (k + 2) x4 q f0 f1 f2 f3 f4 f5 = if q = true then (skylarkref08_May.j0 (k + 2) x4 true f0 f1 f2 f3 f4 f5) else (skylarkref08_May.j0 (k + 2) x4 false f0 f1 f2 f3 f4 f5) := fun x4 q => by cases q <;> rfl
  have key2 : ∀ (x4 : Int) (q : Bool), skylarkref08_May.j1 (k + 1) x4 q f0 f1 f2 f3 f4 f5 = if q = true then (skylarkref08_May.j1 (k + 1) x4 true f0 f1 f2 f3 f4 f5) else (skylarkref08_May.j1 (k + 1) x4 false f0 f1 f2 f3 f4 f5) := fun x4 q => by cases q <;> rfl
  unfold opOk op_Check.ok
  dsimp only
  unfold skylarkref08_May.f
  by_cases h1 : f0 = 1 ∨ f0 = 2 ∨ f0 = 3
  · have e : (if f0 = 1 then skylarkref08_May.j0 (k + 2) f0 (f0 == 1) f0 f1 f2 f3 f4 f5 else if f0 = 2 then skylarkref08_May.j0 (k + 2) f0 (f0 == 2) f0 f1 f2 f3 f4 f5 else skylarkref08_May.j0 (k + 2) f0 (f0 == 3) f0 f1 f2 f3 f4 f5) = skylarkref08_May.j0 (k + 2) f0 true f0 f1 f2 f3 f4 f5 := by
      rcases h1 with rfl | rfl | rfl <;> rfl
    rw [e, skylarkref08_May.j0]
    simp only [if_true, rin_f, rkey_f, Option.bind_some, decide_eq_true_eq, empty_iff]
    repeat' split
    all_goals first
      | (rw [decide_eq_false (by omega)]; done)
      | (congr 1; rw [Bool.eq_iff_iff, beq_iff_eq, decide_eq_true_eq]; omega)
  · have e : (if f0 = 1 then skylarkref08_May.j0 (k + 2) f0 (f0 == 1) f0 f1 f2 f3 f4 f5 else if f0 = 2 then skylarkref08_May.j0 (k + 2) f0 (f0 == 2) f0 f1 f2 f3 f4 f5 else skylarkref08_May.j0 (k + 2) f0 (f0 == 3) f0 f1 f2 f3 f4 f5) = skylarkref08_May.j0 (k + 2) f0 false f0 f1 f2 f3 f4 f5 := by
      rw [if_neg (fun h => h1 (.inl h)), if_neg (fun h => h1 (.inr (.inl h))), beq_eq_false_iff_ne.mpr (fun h => h1 (.inr (.inr h)))]
    rw [e, skylarkref08_May.j0, if_neg (by decide)]
    by_cases h2 : f0 = 4 ∨ f0 = 5
    · have e2 : (if f0 = 4 then skylarkref08_May.j1 (k + 1) f0 (f0 == 4) f0 f1 f2 f3 f4 f5 else skylarkref08_May.j1 (k + 1) f0 (f0 == 5) f0 f1 f2 f3 f4 f5) = skylarkref08_May.j1 (k + 1) f0 true f0 f1 f2 f3 f4 f5 := by
        rcases h2 with rfl | rfl <;> rfl
      rw [e2, skylarkref08_May.j1]
      simp only [if_true, rin_f, rkey_f, Option.bind_some, decide_eq_true_eq, empty_iff]
      repeat' split
      all_goals first
        | (rw [decide_eq_false (by omega)]; done)
        | (congr 1; rw [Bool.eq_iff_iff, beq_iff_eq, decide_eq_true_eq]; omega)
    · have e2 : (if f0 = 4 then skylarkref08_May.j1 (k + 1) f0 (f0 == 4) f0 f1 f2 f3 f4 f5 else skylarkref08_May.j1 (k + 1) f0 (f0 == 5) f0 f1 f2 f3 f4 f5) = skylarkref08_May.j1 (k + 1) f0 false f0 f1 f2 f3 f4 f5 := by
        rw [if_neg (fun h => h2 (.inl h)), beq_eq_false_iff_ne.mpr (fun h => h2 (.inr h))]
      rw [e2, skylarkref08_May.j1]
      simp only [Bool.false_eq_true, if_false, rin_f, rkey_f, Option.bind_some, decide_eq_true_eq, empty_iff]
      repeat' split
      all_goals first
        | (rw [decide_eq_false (by omega)]; done)
        | (congr 1; rw [Bool.eq_iff_iff, beq_iff_eq, decide_eq_true_eq]; omega)
theorem mayAll_l0 (a b : Int) (l : List S27) (hl : l.length ≤ 32) : ∀ (d i : Nat), i + d = l.length → Ev (fun k => skylarkref08_MayAll.l0 k (i : Int) a b l) ((l.drop i).all opOk) := by
  intro d
  induction d with
  | zero =>
    intro i hi
    refine Ev.step (f := fun _ => some ((l.drop i).all opOk)) (fun k => ?_) (Ev.now _)
    rw [skylarkref08_MayAll.l0, if_neg (by omega), List.drop_of_length_le (by omega)]
    rfl
  | succ d ih =>
    intro i hi
    obtain ⟨K, hK⟩ := ih (i + 1) (by omega)
    dsimp only at hK
    refine ⟨K + 3, fun k hk => ?_⟩
    obtain ⟨k, rfl⟩ : ∃ j, k = j + 3 := ⟨k - 3, by omega⟩
    show skylarkref08_MayAll.l0 (k + 2 + 1) (i : Int) a b l = _
    rw [skylarkref08_MayAll.l0, if_pos (by omega), if_pos (by omega), may_f, Option.bind_some, wrap64_id (by omega) (by omega), rd_at l i (by omega), List.drop_eq_getElem_cons (by omega), List.all_cons]
    have h2 := hK (k + 2) (by omega)
    rw [show ((i : Int) + 1) = ((i + 1 : Nat) : Int) by omega, h2]
    cases opOk l[i] <;> rfl
theorem mayAll_f (a b : Int) (l : List S27) : Ev (fun k => skylarkref08_MayAll.f k a b l) (reqOk a b l) := by
  have hb : ∀ k, skylarkref08_MayAll.j0 (k + 1) true a b l = some false := fun k => by rw [skylarkref08_MayAll.j0, if_pos rfl]
  by_cases h : 0 ≤ a ∧ a ≤ 1000 ∧ 1 ≤ b ∧ b ≤ 1048576 ∧ 1 ≤ l.length ∧ l.length ≤ 32
  · obtain ⟨K, hK⟩ := mayAll_l0 a b l h.2.2.2.2.2 l.length 0 (by omega)
    dsimp only at hK
    refine ⟨K + 1, fun k hk => ?_⟩
    obtain ⟨k, rfl⟩ : ∃ j, k = j + 1 := ⟨k - 1, by omega⟩
    show skylarkref08_MayAll.f (k + 1) a b l = _
    unfold skylarkref08_MayAll.f reqOk
    rw [rin_f, Option.bind_some, decide_eq_true ⟨h.1, h.2.1⟩, if_pos rfl, rin_f, Option.bind_some, decide_eq_true ⟨h.2.2.1, h.2.2.2.1⟩, if_pos rfl, rin_f, Option.bind_some, decide_eq_true (show (1 : Int) ≤ (l.length : Int) ∧ (l.length : Int) ≤ 32 by omega), decide_eq_true h, Bool.true_and, Bool.not_true, skylarkref08_MayAll.j0, if_neg (by decide)]
    have := hK k (by omega)
    rw [List.drop_zero] at this
    exact this
  · refine ⟨1, fun k hk => ?_⟩
    obtain ⟨k, rfl⟩ : ∃ j, k = j + 1 := ⟨k - 1, by omega⟩
    show skylarkref08_MayAll.f (k + 1) a b l = _
    unfold skylarkref08_MayAll.f reqOk
    rw [decide_eq_false h, Bool.false_and, rin_f, Option.bind_some]
    by_cases h1 : 0 ≤ a ∧ a ≤ 1000
    · rw [decide_eq_true h1, if_pos rfl, rin_f, Option.bind_some]
      by_cases h2 : 1 ≤ b ∧ b ≤ 1048576
      · rw [decide_eq_true h2, if_pos rfl, rin_f, Option.bind_some, decide_eq_false (show ¬ ((1 : Int) ≤ (l.length : Int) ∧ (l.length : Int) ≤ 32) by omega)]
        exact hb k
      · rw [decide_eq_false h2, if_neg (by decide)]
        exact hb k
    · rw [decide_eq_false h1, if_neg (by decide)]
      exact hb k
theorem rcheck_f (x : S27) (k : Nat) : skylarkref08_Check.f (k + 2) x.f0 x.f1 x.f2 x.f3 x.f4 x.f5 = some (if opOk x = true then 0 else 80) := by
  unfold skylarkref08_Check.f
  rw [may_f, Option.bind_some]
  cases opOk x <;> rfl
theorem rcheckAll_f (a b : Int) (l : List S27) : Ev (fun k => skylarkref08_CheckAll.f k a b l) (if reqOk a b l = true then 0 else 80) := by
  obtain ⟨K, hK⟩ := mayAll_f a b l
  refine ⟨K, fun k hk => ?_⟩
  have := hK k hk
  dsimp only at this
  show skylarkref08_CheckAll.f k a b l = _
  unfold skylarkref08_CheckAll.f
  rw [this, Option.bind_some]
  cases reqOk a b l <;> rfl
end Go.Proofs.Ytafmdlegelbfpaa.Pure
/-! The document's bytes of a request. -/
namespace Go.Proofs.Ytafmdlegelbfpaa.Pure
set_option linter.unusedVariables false
set_option linter.unusedSimpArgs false
open Go Go.RowKit Go.Proofs.Ytafmdlegelbfpaa.PAll Go.Proofs.YtafmdlegelbfpaaW.PrintWords Go.Proofs.YtafmdlegelbfpaaW.PrintLast Go.Proofs.Ytafmdlegelbfpaa.Bytes Go.Proofs.Ytafmdlegelbfpaa.Fn

theorem fields_l0 (a b : Int) (l : List S27) (hl : l.length ≤ 32) : ∀ (d i : Nat) (acc : List S110), i + d = l.length → acc.length = 3 + 6 * i →
    Ev (fun k => skylarkref08_Fields.l0 k acc (i : Int) a b l) (acc ++ (l.drop i).flatMap opF) := by
  intro d
  induction d with
  | zero =>
    intro i acc hi ha
    refine Ev.step (f := fun _ => some (acc ++ (l.drop i).flatMap opF)) (fun k => ?_) (Ev.now _)
    rw [skylarkref08_Fields.l0, if_neg (by omega), List.drop_of_length_le (by omega), List.flatMap_nil, List.append_nil]
  | succ d ih =>
    intro i acc hi ha
    have hlen : (opF (l[i]'(by omega))).length = 6 := rfl
    have h := ih (i + 1) (acc ++ opF (l[i]'(by omega))) (by omega) (by rw [List.length_append, hlen]; omega)
    have e : acc ++ (l.drop i).flatMap opF = (acc ++ opF (l[i]'(by omega))) ++ (l.drop (i + 1)).flatMap opF := by
      rw [List.drop_eq_getElem_cons (by omega), List.flatMap_cons, List.append_assoc]
    rw [e]
    refine Ev.step (fun k => ?_) h
    rw [skylarkref08_Fields.l0, if_pos (by omega), if_pos (by omega), rd_at l i (by omega), wrap64_id (by omega) (by omega)]
    show (if acc.length + (opF (l[i]'(by omega))).length < 4398046511104 then skylarkref08_Fields.l0 k (acc ++ opF (l[i]'(by omega))) ((i : Int) + 1) a b l else none) = _
    rw [if_pos (by rw [hlen]; omega)]
    rfl
theorem fields_f (a b : Int) (l : List S27) (hl : l.length ≤ 32) : Ev (fun k => skylarkref08_Fields.f k a b l) (reqF a b l) := by
  have h := fields_l0 a b l hl l.length 0 [fN a, fN b, fN (l.length : Int)] (by omega) rfl
  exact h
theorem rencReq_f (a b : Int) (l : List S27) : Ev (fun k => skylarkref08_Encode.f k a b l) (encReq a b l) := by
  obtain ⟨K1, h1⟩ := mayAll_f a b l
  dsimp only at h1
  unfold encReq
  by_cases h : reqOk a b l = true
  · rw [if_pos h]
    rw [h] at h1
    obtain ⟨_, _, _, hl, _, hs⟩ := reqOk_R h
    obtain ⟨K2, h2⟩ := fields_f a b l hl
    obtain ⟨K3, h3⟩ := rencode_f (reqF a b l) (fun x hx => Nat.le_trans (reqF_sizes hs x hx) (by decide))
    dsimp only at h2 h3
    refine ⟨max K1 (max K2 K3), fun k hk => ?_⟩
    show skylarkref08_Encode.f k a b l = _
    unfold skylarkref08_Encode.f
    rw [h1 k (by omega), Option.bind_some, if_pos rfl, h2 k (by omega), Option.bind_some, h3 k (by omega), Option.bind_some]
  · rw [if_neg h]
    rw [Bool.eq_false_iff.mpr h] at h1
    refine ⟨K1, fun k hk => ?_⟩
    show skylarkref08_Encode.f k a b l = _
    unfold skylarkref08_Encode.f
    rw [h1 k hk, Option.bind_some, if_neg (by decide)]
end Go.Proofs.Ytafmdlegelbfpaa.Pure
/-! The document's Decode: the walk, beside what op's Decode comes to. -/
namespace Go.Proofs.Ytafmdlegelbfpaa.Pure
set_option linter.unusedVariables false
set_option linter.unusedSimpArgs false
abbrev SqRefDec.t_ : Bool := true
abbrev SqRefDec.f_ : Bool := false
open SqRefDec
-- abbrev Sq.t_
open Go Go.RowKit Go.Proofs.Ytafmdlegelbfpaa.PAll Go.Proofs.YtafmdlegelbfpaaW.PrintWords Go.Proofs.YtafmdlegelbfpaaW.PrintLast Go.Proofs.Ytafmdlegelbfpaa.Bytes Go.Proofs.Ytafmdlegelbfpaa.Fn

theorem qn_range (l : List S110) (s : Int × Bool) : 0 ≤ (qn l s).1 ∧ (qn l s).1 ≤ 1099511627776 := by
  unfold qn
  split
  · rename_i h
    exact ⟨h.2.2.1, h.2.2.2⟩
  · exact ⟨Int.le_refl _, by show (0 : Int) ≤ _; omega⟩
theorem twin_three (l : List S110) : Twin l (qn l (qn l (qn l (0, false)).2).2).2 (rnum (rnum (rnum (l, true)).2).2).2 ∧ ((qn l (qn l (qn l (0, false)).2).2).2.2 = false →
    (qn l (0, false)).1 = (rnum (l, true)).1 ∧ (qn l (qn l (0, false)).2).1 = (rnum (rnum (l, true)).2).1 ∧ (qn l (qn l (qn l (0, false)).2).2).1 = (rnum (rnum (rnum (l, true)).2).2).1) := by
  have t0 : Twin l (0, false) (l, true) := .inl ⟨rfl, Int.le_refl _, by show (0 : Int) ≤ _; omega, rfl⟩
  obtain ⟨t1, e1⟩ := twin_n t0
  obtain ⟨t2, e2⟩ := twin_n t1
  obtain ⟨t3, e3⟩ := twin_n t2
  refine ⟨t3, fun h => ?_⟩
  obtain ⟨q2, v2⟩ := e3 h
  obtain ⟨q1, v1⟩ := e2 q2
  obtain ⟨_, v0⟩ := e1 q1
  exact ⟨v0, v1, v2⟩
theorem dec_end {k : Nat} {cl sq : Int} {r : List S27 × (List S110 × Bool)} {o : Int × Int × List S27 × Int}
    (h : (if rwhole r.2 = true then (op_CheckAll.f k cl sq r.1).bind fun e => if e = 0 then some (cl, sq, r.1, 0) else some (0, 0, [], 80) else some (0, 0, [], 80)) = some o) : o = reqOut (cl, sq) r := by
  unfold reqOut
  cases hw : rwhole r.2
  · rw [hw, if_neg (by decide)] at h
    rw [if_neg (fun h => by cases h.1)]
    exact (Option.some.inj h).symm
  · rw [hw, if_pos rfl, checkAll_f, Option.bind_some] at h
    dsimp only
    cases hq : reqOk cl sq r.1
    · rw [hq, if_neg (by decide)] at h
      rw [if_neg (fun h => by cases h.2)]
      exact (Option.some.inj h).symm
    · rw [hq, if_pos rfl, if_pos rfl] at h
      rw [if_pos ⟨rfl, rfl⟩]
      exact (Option.some.inj h).symm
theorem l0_end {k : Nat} {n i : Int} {t : List S110 × Bool} {acc ops : List S27} {s4 : List S110 × Bool} (h : op_Decode.l0 k n i t acc = some (ops, s4)) (hx : t.2 = false ∨ ¬ i < n) : ops = acc ∧ s4 = t := by
  cases k with
  | zero => exact absurd h (by simp [op_Decode.l0])
  | succ k =>
    rw [op_Decode.l0] at h
    by_cases hi : i < n
    · have ht : t.2 = false := hx.resolve_right (fun h => h hi)
      rw [if_pos hi, ht, if_neg (by decide)] at h
      injection h with h
      injection h with h1 h2
      exact ⟨h1.symm, h2.symm⟩
    · rw [if_neg hi] at h
      injection h with h
      injection h with h1 h2
      exact ⟨h1.symm, h2.symm⟩
theorem l0_next {k : Nat} {n i : Int} {t : List S110 × Bool} {acc ops : List S27} {s4 : List S110 × Bool} (h : op_Decode.l0 k n i t acc = some (ops, s4)) (ht : t.2 = true) (hi : i < n) : acc.length < 2199023255552 ∧ ∃ k', op_Decode.l0 k' n (i + 1) (rop t).2 (acc ++ [(rop t).1]) = some (ops, s4) := by
  cases k with
  | zero => exact absurd h (by simp [op_Decode.l0])
  | succ k =>
    rw [op_Decode.l0, if_pos hi, if_pos ht] at h
    by_cases hl : acc.length < 2199023255552
    · rw [if_pos hl] at h
      exact ⟨hl, k, h⟩
    · rw [if_neg hl] at h
      cases h
theorem rq_blk {w0 w : World} {g : Nat} {l : List S110} {s : Int × Bool} (h : Rq w0 w g l s) : ∃ cells, w.heap[g]? = some (.cells cells 96 (0, 0)) := by
  obtain ⟨⟨A, c, h1, _⟩, _⟩ := h
  exact ⟨_, h1⟩
theorem op_E : ∀ q, q ∈ 27 :: k27.E → q = 27 := by
  intro q hq
  simp [k27, Kd.iso, Kd.pair, Kd.int, Kd.string, Kd.scalar] at hq
  exact hq
theorem own_keepQ {W w1 w0 : World} {b g : Nat} {v : Value} {xs : List S27} {l : List S110} {s : Int × Bool} (h : Kd.R k27 27 W b (fun _ => True) v xs) (hg : Rq w0 W g l s) (hk : KeepBut W w1 g none) : Kd.R k27 27 w1 b (fun _ => True) v xs := by
  obtain ⟨cells, hg⟩ := rq_blk hg
  exact Kd.R_mono (Kd.R_keep (Kd.R_types h hg (fun q hq => by rw [op_E q hq]; decide)) hk (fun _ h => h.2)) (fun _ _ => trivial)
theorem rq_keep {w0 w w1 : World} {g : Nat} {l : List S110} {s : Int × Bool} (h : Rq w0 w g l s) (hk : w1.heap[g]? = w.heap[g]?) : Rq w0 w1 g l s := by
  obtain ⟨⟨A, c, h1, h2⟩, h3⟩ := h
  exact ⟨⟨A, c, hk.trans h1, h2⟩, h3⟩
theorem rq_grown {w0 W w1 : World} {g b : Nat} {l : List S110} {s : Int × Bool} {v : Value} {xs : List S27} (h : Rq w0 W g l s) (ho : Kd.R k27 27 W b (fun _ => True) v xs) (hg : W.grownBy w1 v.ownBlock) : Rq w0 w1 g l s :=
  ⟨h.1.grown hg (h.1.own_ne ho (by decide)), h.2⟩
theorem rq_alloc {w0 w : World} {g : Nat} {l : List S110} {s : Int × Bool} (h : Rq w0 w g l s) (o : Obj) : Rq w0 (w.alloc o) g l s := ⟨h.1.alloc o, h.2⟩
theorem drop_whole {l : List S110} {i : Int} (h0 : 0 ≤ i) (h1 : i ≤ (l.length : Int)) : rwhole (l.drop i.toNat, true) = decide (i = (l.length : Int)) := by
  unfold rwhole
  rw [Bool.true_and]
  by_cases h : i = (l.length : Int)
  · rw [decide_eq_true h, List.drop_of_length_le (by omega)]; rfl
  · rw [decide_eq_false h, drop_at h0 (by omega)]; rfl
set_option maxHeartbeats 32000000 in
set_option maxRecDepth 100000 in
theorem ref_decode.calls (k : Nat) (a0 : ByteArray) (l : List S110) (fa fc : Int) (r1 : Int) (r2 : Int) (r3 : List (S27)) (r4 : Int) (w : World) (hd : skylarkref01_Decode.f k a0 = some (l, fa, fc)) (hi : code_Decode.f k a0 = some (l, fa, fc)) (hfz : fc = 0 → fa = 0) (hcn : Canon l) (hl : l.length ≤ 4096) (h : op_Decode.f k a0 = some (r1, r2, r3, r4)) :
    Calls Try.prog 20 #[.string a0] w fun e w' => ∃ v2_ : Value, e = .returned (.tuple #[.agg #[.int .i64 r1, .int .i64 r2, v2_], .int .i64 r4]) ∧ Kd.R k27 27 w' w.heap.size (fun _ => True) v2_ r3 ∧ Below w.heap.size w w' := by
  have hu31 := Try.underlying31
  have hu27 := Try.underlying27
  have hu96 := Try.underlying96
  unfold op_Decode.f at h
  rw [hi, Option.bind_some] at h
  dsimp only at h
  have HA := Aside0.mk ((Below.refl w.heap.size w).alloc (Nat.le_refl _) (.cells #[.int .i64 0, .int .i64 0, .slice none 0 0] 31))
  by_cases hbad : 262144 < a0.size ∨ fc ≠ 0
  · obtain ⟨c, hc, hr⟩ : ∃ c : Int, ((262144 < a0.size ∧ c = 2) ∨ (a0.size ≤ 262144 ∧ fc ≠ 0 ∧ c = 80)) ∧ ((0 : Int), (0 : Int), ([] : List S27), c) = (r1, r2, r3, r4) := by
      by_cases h3 : 262144 < a0.size
      · rw [if_pos h3] at h
        exact ⟨2, .inl ⟨h3, rfl⟩, Option.some.inj h⟩
      · rw [if_neg h3, if_pos (fun hh => hbad.resolve_left h3 hh.2)] at h
        exact ⟨80, .inr ⟨by omega, hbad.resolve_left h3, rfl⟩, Option.some.inj h⟩
    injection hr with e1 hr
    injection hr with e2 hr
    injection hr with e3 e4
    subst e1 e2 e3 e4
    have HP := Aside0.mk (fun (W : World) => ref_open.bad k a0 l fa fc W hd c hc)
    have hcn2 : (c != 0) = true := by rcases hc with ⟨_, rfl⟩ | ⟨_, _, rfl⟩ <;> rfl
    clear h hbad hc hd hi hfz hcn hl
    go_enter Try.func20, Try.ntmps20
    go_wp2_with (fail)
    refine (HP.out _).mono ?_
    rintro e w1 ⟨rfl, hB⟩
    have HBZ : Aside0 (w1.heap[w.heap.size]? = some (.cells #[.int .i64 0, .int .i64 0, .slice none 0 0] 31 (0, 0))) := Aside0.mk ((hB.block _ (by simp)).trans (alloc_at rfl))
    have HB := Aside0.mk (Below.trans HA.out (hB.mono (by simp)))
    have f0 := PAll.blk_frozen HBZ.out 0
    have f1 := PAll.blk_frozen HBZ.out 1
    have f2 := PAll.blk_frozen HBZ.out 2
    have e0 : w1.cell? ⟨w.heap.size, 0, none⟩ = some (.int .i64 0) := PAll.blk_cell HBZ.out 0
    have e1 : w1.cell? ⟨w.heap.size, 1, none⟩ = some (.int .i64 0) := PAll.blk_cell HBZ.out 1
    have e2 : w1.cell? ⟨w.heap.size, 2, none⟩ = some (.slice none 0 0) := PAll.blk_cell HBZ.out 2
    clear hB
    go_wp2_with (fail)
    have z := st3_blk HBZ.out (.int .i64 0) (.int .i64 0) (.slice none 0 0)
    have zB := ((HB.out.setCell (p := ⟨w.heap.size, 0, none⟩) (Nat.le_refl _) (.int .i64 0)).setCell (p := ⟨w.heap.size, 1, none⟩) (Nat.le_refl _) (.int .i64 0)).setCell (p := ⟨w.heap.size, 2, none⟩) (Nat.le_refl _) (.slice none 0 0)
    generalize ((w1.setCell ⟨w.heap.size, 0, none⟩ (.int .i64 0)).setCell ⟨w.heap.size, 1, none⟩ (.int .i64 0)).setCell ⟨w.heap.size, 2, none⟩ (.slice none 0 0) = wz at *
    have d0 : wz.cell? ⟨w.heap.size, 0, none⟩ = some (.int .i64 0) := PAll.blk_cell z 0
    have d1 : wz.cell? ⟨w.heap.size, 1, none⟩ = some (.int .i64 0) := PAll.blk_cell z 1
    have d2 : wz.cell? ⟨w.heap.size, 2, none⟩ = some (.slice none 0 0) := PAll.blk_cell z 2
    refine bodyPost_ret (v := .tuple #[.agg #[.int .i64 0, .int .i64 0, .slice none 0 0], .int .i64 c]) (by simp [results, Try.results20, go_sem, d0, d1, d2]) rfl ⟨_, rfl, Kd.R_nil _ _ _ _ _, zB⟩
  · have hsz : ¬ 262144 < a0.size := fun h => hbad (.inl h)
    have hz : fc = 0 := Decidable.not_not.1 (fun h => hbad (.inr h))
    obtain rfl := hfz hz
    subst hz
    rw [if_neg hsz, if_neg (by simp)] at h
    obtain ⟨⟨ops, s4⟩, h3, h4⟩ := Option.bind_eq_some_iff.1 h
    have hE := dec_end (r := (ops, s4)) h4
    have HP := Aside0.mk (fun (W : World) => ref_open.good k a0 l 0 W hd (by omega))
    obtain ⟨hT3, hV3⟩ := twin_three l
    obtain ⟨cl', ecl⟩ : ∃ c, (rnum (l, true)).1 = c := ⟨_, rfl⟩
    obtain ⟨sq', esq⟩ : ∃ c, (rnum (rnum (l, true)).2).1 = c := ⟨_, rfl⟩
    obtain ⟨n', en⟩ : ∃ c, (rnum (rnum (rnum (l, true)).2).2).1 = c := ⟨_, rfl⟩
    obtain ⟨t3, et⟩ : ∃ c, (rnum (rnum (rnum (l, true)).2).2).2 = c := ⟨_, rfl⟩
    rw [ecl, esq] at hE
    rw [en, et] at h3
    rw [et] at hT3
    rw [ecl, esq, en] at hV3
    have HL := Aside0.mk h3
    have HE := Aside0.mk hE
    have HT3 := Aside0.mk hT3
    have HV3 := Aside0.mk hV3
    clear h h3 h4 hE hT3 hV3 hbad hsz ecl esq en et hd hi hfz
    go_enter Try.func20, Try.ntmps20
    go_wp2_with (fail)
    refine (HP.out _).mono ?_
    rintro e w1 ⟨g, w0, rfl, hR, hB0, hBw⟩
    have HZ : Aside0 (w0.heap[w.heap.size]? = some (.cells #[.int .i64 0, .int .i64 0, .slice none 0 0] 31 (0, 0))) := Aside0.mk ((hBw.block _ (by simp)).trans (alloc_at rfl))
    have HW := Aside0.mk (Below.trans HA.out (hBw.mono (by simp)))
    have hw0 : w.heap.size < w0.heap.size := blk_lt HZ.out
    have hg0 : w0.heap.size ≤ g := hR.1.ge
    have HR := Aside0.mk hR
    have HB := Aside0.mk hB0
    clear hR hB0 hBw HP HA
    go_wp2_with (fail)
    refine (ref_num.calls g l hl (0, false) w0 w1 HR.out HB.out).mono ?_
    rintro e w2 ⟨rfl, hR, hK, hB⟩
    have HR2 := Aside0.mk hR
    have HB2 := Aside0.mk hB
    clear hR hK hB HR HB
    go_wp2_with (fail)
    refine (ref_num.calls g l hl (qn l (0, false)).2 w0 w2 HR2.out HB2.out).mono ?_
    rintro e w3 ⟨rfl, hR, hK, hB⟩
    have HR3 := Aside0.mk hR
    have HB3 := Aside0.mk hB
    clear hR hK hB HR2 HB2
    obtain ⟨cl, ecl⟩ : ∃ c, (qn l (0, false)).1 = c := ⟨_, rfl⟩
    obtain ⟨sq, esq⟩ : ∃ c, (qn l (qn l (0, false)).2).1 = c := ⟨_, rfl⟩
    obtain ⟨s2, es2⟩ : ∃ c, (qn l (qn l (0, false)).2).2 = c := ⟨_, rfl⟩
    rw [ecl, esq, es2] at HV3
    rw [es2] at HR3 HT3
    rw [ecl, esq]
    clear ecl esq es2
    go_wp2_with (fail)
    have hg3 : g < w3.heap.size := HR3.out.1.lt
    have hxg : w3.heap.size ≠ g := by omega
    have BX := Aside0.mk (alloc_at (w := w3) (o := .cells #[.int .i64 cl, .int .i64 sq, .slice none 0 0] 31) rfl)
    refine (ref_num.calls g l hl s2 w0 _ (rq_keep HR3.out (Below.heap_alloc w3 _ g hg3)) (HB3.out.alloc HB3.out.size _)).mono ?_
    rintro e w4 ⟨rfl, hR, hK, hB⟩
    have HR4 := Aside0.mk hR
    have HB4 := Aside0.mk hB
    have BX4 := Aside0.mk (KeepBut.blk hK BX.out hxg (by simp))
    clear hR hK hB HR3 HB3 BX
    have hn := qn_range l s2
    obtain ⟨n, en⟩ : ∃ c, (qn l s2).1 = c := ⟨_, rfl⟩
    obtain ⟨s3, es3⟩ : ∃ c, (qn l s2).2 = c := ⟨_, rfl⟩
    rw [en] at HV3 hn ⊢
    rw [es3] at HR4 HT3 HV3
    clear en es3
    obtain ⟨hn0, hn1⟩ := hn
    have hbx : w0.heap.size ≤ w3.heap.size := by omega
    obtain ⟨bx, ebx⟩ : ∃ b, w3.heap.size = b := ⟨_, rfl⟩
    rw [ebx] at BX4 hxg hbx ⊢
    clear ebx hg3
    go_wp2_with (fail)
    go_loopw [8] (fun v wr => ∃ (i : Int) (k' : Nat) (s : Int × Bool) (t : List S110 × Bool) (acc acc2 : List S27) (vo : Value), v = .int .i64 i ∧ 0 ≤ i ∧ Aside0 (op_Decode.l0 k' n' i t acc2 = some (ops, s4)) ∧ Aside0 (Twin l s t) ∧ Aside0 (s.2 = false → (cl = cl' ∧ sq = sq' ∧ n = n') ∧ acc = acc2) ∧ Aside0 (Rq w0 wr g l s) ∧ Aside0 (Below w0.heap.size w0 wr) ∧ Aside0 (wr.heap[bx]? = some (.cells #[.int .i64 cl, .int .i64 sq, vo] 31 (0, 0))) ∧ Aside0 (Kd.R k27 27 wr w0.heap.size (fun _ => True) vo acc)) (fun v _ => (n - intOf v).toNat)
    case atStart => exact ⟨0, k, s3, t3, [], [], .slice none 0 0, rfl, by omega, HL, HT3, Aside0.mk (fun hq => ⟨HV3.out hq, rfl⟩), HR4, HB4, BX4, Aside0.mk (Kd.R_nil _ _ _ _ _)⟩
    case round =>
      obtain ⟨i, k', s, t, acc, acc2, vo, rfl, hi, HI, HT, HV, HR0, HB0, BX0, OW0⟩ := hrel
      clear HL HT3 HV3 HR4 HB4 BX4
      obtain ⟨Ao, co, rfl⟩ := Kd.R_slice OW0.out
      obtain ⟨⟨A9, c9, hgb, _, _⟩, _⟩ := HR0.out
      have cg0 : wr.cell? ⟨g, 0, none⟩ = some (.slice A9 l.length c9) := PAll.blk_cell hgb 0
      have cg1 : wr.cell? ⟨g, 1, none⟩ = some (.int .i64 s.1) := PAll.blk_cell hgb 1
      have cg2 : wr.cell? ⟨g, 2, none⟩ = some (.bool s.2) := PAll.blk_cell hgb 2
      have HBZ : Aside0 (wr.heap[w.heap.size]? = some (.cells #[.int .i64 0, .int .i64 0, .slice none 0 0] 31 (0, 0))) := Aside0.mk ((HB0.out.block _ hw0).trans HZ.out)
      have HBW := Aside0.mk (Below.trans HW.out (HB0.out.mono HW.out.size))
      clear hgb
      cases hok : s.2
      · rw [hok] at cg2
        by_cases hlt : i < n
        · obtain ⟨⟨ecl, esq, en⟩, ea⟩ := HV.out hok
          have htt : t.2 = true := by
            rcases HT.out with ⟨_, _, _, h4⟩ | ⟨h1, _⟩
            · rw [h4]
            · rw [hok] at h1; cases h1
          obtain ⟨hlm, k2, hnx⟩ := l0_next HI.out htt (by omega)
          have HN := Aside0.mk hnx
          have LM : Aside0 (acc.length < 2199023255552) := Aside0.mk (by rw [ea]; exact hlm)
          obtain ⟨hT2, hV2⟩ := twin_op hcn HT.out
          have HT2 := Aside0.mk hT2
          have HV2 : Aside0 ((qop l s).2.2 = false → (cl = cl' ∧ sq = sq' ∧ n = n') ∧ acc ++ [(qop l s).1] = acc2 ++ [(rop t).1]) := Aside0.mk (fun hq => ⟨⟨ecl, esq, en⟩, by rw [(hV2 hq).2, ea]⟩)
          have q9 : decide (i < n) = true := decide_eq_true hlt
          clear hnx hT2 hV2 hlm ecl esq en ea htt HI HT HV HBZ HBW cg0 cg1
          go_wp2_with (fail)
          refine (ref_num.calls g l hl s w0 wr HR0.out HB0.out).mono ?_
          rintro e wq1 ⟨rfl, hR, hK, hB⟩
          have HR1 := Aside0.mk hR
          obtain ⟨v1, ev⟩ : ∃ c, (qn l s).1 = c := ⟨_, rfl⟩
          obtain ⟨y1, ey⟩ : ∃ c, (qn l s).2 = c := ⟨_, rfl⟩
          rw [ey] at HR1
          rw [ev]
          have EV1 := Aside0.mk ev
          have EY1 := Aside0.mk ey
          clear ev ey
          have HB1 := Aside0.mk hB
          have BX1 := Aside0.mk (KeepBut.blk hK BX0.out hxg (by simp))
          have OW1 := Aside0.mk (own_keepQ OW0.out HR0.out hK)
          clear hR hK hB HR0 HB0 BX0 OW0
          go_wp2_with (fail)
          refine (ref_text.calls g l hl y1 w0 wq1 HR1.out HB1.out).mono ?_
          rintro e wq2 ⟨rfl, hR, hK, hB⟩
          have HR2 := Aside0.mk hR
          obtain ⟨v2, ev⟩ : ∃ c, (qt l y1).1 = c := ⟨_, rfl⟩
          obtain ⟨y2, ey⟩ : ∃ c, (qt l y1).2 = c := ⟨_, rfl⟩
          rw [ey] at HR2
          rw [ev]
          have EV2 := Aside0.mk ev
          have EY2 := Aside0.mk ey
          clear ev ey
          have HB2 := Aside0.mk hB
          have BX2 := Aside0.mk (KeepBut.blk hK BX1.out hxg (by simp))
          have OW2 := Aside0.mk (own_keepQ OW1.out HR1.out hK)
          clear hR hK hB HR1 HB1 BX1 OW1
          go_wp2_with (fail)
          refine (ref_text.calls g l hl y2 w0 wq2 HR2.out HB2.out).mono ?_
          rintro e wq3 ⟨rfl, hR, hK, hB⟩
          have HR3 := Aside0.mk hR
          obtain ⟨v3, ev⟩ : ∃ c, (qt l y2).1 = c := ⟨_, rfl⟩
          obtain ⟨y3, ey⟩ : ∃ c, (qt l y2).2 = c := ⟨_, rfl⟩
          rw [ey] at HR3
          rw [ev]
          have EV3 := Aside0.mk ev
          have EY3 := Aside0.mk ey
          clear ev ey
          have HB3 := Aside0.mk hB
          have BX3 := Aside0.mk (KeepBut.blk hK BX2.out hxg (by simp))
          have OW3 := Aside0.mk (own_keepQ OW2.out HR2.out hK)
          clear hR hK hB HR2 HB2 BX2 OW2
          go_wp2_with (fail)
          refine (ref_num.calls g l hl y3 w0 wq3 HR3.out HB3.out).mono ?_
          rintro e wq4 ⟨rfl, hR, hK, hB⟩
          have HR4 := Aside0.mk hR
          obtain ⟨v4, ev⟩ : ∃ c, (qn l y3).1 = c := ⟨_, rfl⟩
          obtain ⟨y4, ey⟩ : ∃ c, (qn l y3).2 = c := ⟨_, rfl⟩
          rw [ey] at HR4
          rw [ev]
          have EV4 := Aside0.mk ev
          have EY4 := Aside0.mk ey
          clear ev ey
          have HB4 := Aside0.mk hB
          have BX4 := Aside0.mk (KeepBut.blk hK BX3.out hxg (by simp))
          have OW4 := Aside0.mk (own_keepQ OW3.out HR3.out hK)
          clear hR hK hB HR3 HB3 BX3 OW3
          go_wp2_with (fail)
          refine (ref_num.calls g l hl y4 w0 wq4 HR4.out HB4.out).mono ?_
          rintro e wq5 ⟨rfl, hR, hK, hB⟩
          have HR5 := Aside0.mk hR
          obtain ⟨v5, ev⟩ : ∃ c, (qn l y4).1 = c := ⟨_, rfl⟩
          obtain ⟨y5, ey⟩ : ∃ c, (qn l y4).2 = c := ⟨_, rfl⟩
          rw [ey] at HR5
          rw [ev]
          have EV5 := Aside0.mk ev
          have EY5 := Aside0.mk ey
          clear ev ey
          have HB5 := Aside0.mk hB
          have BX5 := Aside0.mk (KeepBut.blk hK BX4.out hxg (by simp))
          have OW5 := Aside0.mk (own_keepQ OW4.out HR4.out hK)
          clear hR hK hB HR4 HB4 BX4 OW4
          go_wp2_with (fail)
          refine (ref_num.calls g l hl y5 w0 wq5 HR5.out HB5.out).mono ?_
          rintro e wq6 ⟨rfl, hR, hK, hB⟩
          have HR6 := Aside0.mk hR
          obtain ⟨v6, ev⟩ : ∃ c, (qn l y5).1 = c := ⟨_, rfl⟩
          obtain ⟨y6, ey⟩ : ∃ c, (qn l y5).2 = c := ⟨_, rfl⟩
          rw [ey] at HR6
          rw [ev]
          have EV6 := Aside0.mk ev
          have EY6 := Aside0.mk ey
          clear ev ey
          have HB6 := Aside0.mk hB
          have BX6 := Aside0.mk (KeepBut.blk hK BX5.out hxg (by simp))
          have OW6 := Aside0.mk (own_keepQ OW5.out HR5.out hK)
          clear hR hK hB HR5 HB5 BX5 OW5
          have eq : qop l s = (⟨v1, v2, v3, v4, v5, v6⟩, y6) := by
            unfold qop
            rw [EY1.out, EY2.out, EY3.out, EY4.out, EY5.out, EY6.out, EV1.out, EV2.out, EV3.out, EV4.out, EV5.out, EV6.out]
          rw [eq] at HT2 HV2
          clear eq EV1 EV2 EV3 EV4 EV5 EV6 EY1 EY2 EY3 EY4 EY5 EY6
          have BX7 := Aside0.mk (blk_alloc BX6.out (.cells #[.int .i64 v1, .string v2, .string v3, .int .i64 v4, .int .i64 v5, .int .i64 v6] 27))
          have sX7 := (PAll.blk_cell BX7.out 2).trans (show _ = some (.slice Ao acc.length co) from rfl)
          go_wp2_with (first | ((with_reducible refine gate_builtin (b := .append) (xs := #[.tmp 52, .tmp 54]) rfl ?_); at_builtin; generalize hX : (fun (x : World) => x) = X; revert X))
          intro X hX
          clear hX X
          have BY7 := Aside0.mk (blk_alloc BX6.out (.cells #[.int .i64 v1, .string v2, .string v3, .int .i64 v4, .int .i64 v5, .int .i64 v6] 27))
          have HY7 := Aside0.mk (rq_alloc HR6.out (.cells #[.int .i64 v1, .string v2, .string v3, .int .i64 v4, .int .i64 v5, .int .i64 v6] 27))
          have HD7 := Aside0.mk (HB6.out.alloc HB6.out.size (.cells #[.int .i64 v1, .string v2, .string v3, .int .i64 v4, .int .i64 v5, .int .i64 v6] 27))
          have OY7 := Aside0.mk (Kd.R_alloc OW6.out (.cells #[.int .i64 v1, .string v2, .string v3, .int .i64 v4, .int .i64 v5, .int .i64 v6] 27))
          refine Kd.R_append k27 (w0 := w0) w0.heap.size rfl (.tmp 52) (.tmp 54) 22 27 (.agg #[(.int .i64 0), (.string ⟨#[]⟩), (.string ⟨#[]⟩), (.int .i64 0), (.int .i64 0), (.int .i64 0)]) 64 rfl Try.underlying22 info27 rfl (by decide) (by omega) (.slice Ao acc.length co) acc (⟨v1, v2, v3, v4, v5, v6⟩ : S27) [.int .i64 v1, .string v2, .string v3, .int .i64 v4, .int .i64 v5, .int .i64 v6] (fun _ => True) (fun _ => False) rfl ?aX ?aP (fun _ hk => hk.elim) ?aF ?aO ?aB ?aS ?aL ?_
          case aX => (show Value.slice (some ⟨wq6.heap.size + 1, 0, none⟩) 1 1 = _; simp)
          case aP => exact k27_mkM _ _ _ (⟨v1, v2, v3, v4, v5, v6⟩ : S27)
          case aF => exact (fun _ _ => trivial)
          case aO => exact OY7.out
          case aB => exact HD7.out
          case aS => exact HD7.out.size
          case aL => have := LM.out; omega
          intro v1_ w8 ho hb hg hat
          obtain ⟨Ap, np, cp, ep⟩ := R_form3 ho
          subst ep
          have BX8 := Aside0.mk (blk_grown BY7.out hg (Kd.R_ne OY7.out BY7.out (by decide)))
          have HR8 := Aside0.mk (rq_grown HY7.out OY7.out hg)
          have HB8 := Aside0.mk hb
          have OW8 := Aside0.mk ho
          have sX8 := PAll.blk_cell BX8.out 2
          have fX8 := PAll.blk_frozen BX8.out 2
          clear ho hb hg hat BX6 HR6 HB6 OW6 BX7 sX7 BY7 HY7 HD7 OY7
          go_wp2_with (fail)
          have hxg2 : g ≠ bx := Ne.symm hxg
          have BX9 := Aside0.mk (blk_put BX8.out 2 (.slice Ap np cp) (cs' := #[.int .i64 cl, .int .i64 sq, .slice Ap np cp]) (by simp))
          have HR9 := Aside0.mk (rq_keep HR8.out (Below.heap_setCell w8 ⟨bx, 2, none⟩ (.slice Ap np cp) g hxg2))
          have HB9 := Aside0.mk (HB8.out.setCell (p := ⟨bx, 2, none⟩) hbx (.slice Ap np cp))
          have OW9 := Aside0.mk (Kd.R_set OW8.out BX8.out (by intro q hq; rw [op_E q hq]; decide) 2 (.slice Ap np cp))
          go_roundw
          case rel => exact ⟨i + 1, k2, y6, (rop t).2, acc ++ [⟨v1, v2, v3, v4, v5, v6⟩], acc2 ++ [(rop t).1], .slice Ap np cp, by go_num, by omega, HN, HT2, HV2, HR9, HB9, BX9, OW9⟩
          case measure => simp [intOf]; omega
        · obtain ⟨⟨ecl, esq, en⟩, ea⟩ := HV.out hok
          obtain ⟨eo, es⟩ := l0_end HI.out (.inr (by omega))
          have htt : t = (l.drop s.1.toNat, true) ∧ 0 ≤ s.1 ∧ s.1 ≤ (l.length : Int) := by
            rcases HT.out with ⟨_, h1, h2, h3⟩ | ⟨h1, _⟩
            · exact ⟨h3, h1, h2⟩
            · rw [hok] at h1; cases h1
          have hE := HE.out
          rw [eo, es, htt.1, ← ecl, ← esq, ← ea] at hE
          unfold reqOut at hE
          rw [drop_whole htt.2.1 htt.2.2] at hE
          have q9 : decide (i < n) = false := decide_eq_false hlt
          clear ecl esq en ea eo es htt HI HT HV
          by_cases hat : s.1 = (l.length : Int)
          · have qa : (s.1 != (l.length : Int)) = false := bne_eq_false_iff_eq.mpr hat
            rw [decide_eq_true hat] at hE
            have hRd := Kd.R_reads' OW0.out
            have hle := hRd.2.1
            have hAC := hRd.2.2
            obtain ⟨K, hK⟩ := mayAll_f cl sq acc
            have hK := hK K (Nat.le_refl _)
            clear hRd hat hlt
            cases hq : reqOk cl sq acc
            · rw [hq] at hE hK
              rw [if_neg (by decide)] at hE
              replace hE := hE.symm
              injection hE with h1 hE
              injection hE with h2 hE
              injection hE with h3 h4
              subst h1 h2 h3 h4
              have HMA := Aside0.mk (fun W (hC : Kd.C k27 W Ao acc.length acc) => skylarkref08_MayAll.calls K cl sq Ao co acc false W hC hle hK)
              have HAC := Aside0.mk hAC
              clear hK hq hAC
              have x0 : wr.cell? ⟨bx, 0, none⟩ = some (.int .i64 cl) := PAll.blk_cell BX0.out 0
              have x1 : wr.cell? ⟨bx, 1, none⟩ = some (.int .i64 sq) := PAll.blk_cell BX0.out 1
              have x2 : wr.cell? ⟨bx, 2, none⟩ = some (.slice Ao acc.length co) := PAll.blk_cell BX0.out 2
              go_wp2_with (fail)
              replace HAC := Aside0.mk (Kd.C_drew HAC.out)
              replace HBZ := Aside0.mk (blk_drew HBZ.out)
              replace HBW := Aside0.mk (below_drew1 HBW.out)
              refine start_ (n := 21) (S := fun w' => w'.cell? ⟨g, 2, none⟩ = some (.bool false) ∧ w'.cell? ⟨g, 1, none⟩ = some (.int .i64 s.1) ∧ w'.cell? ⟨g, 0, none⟩ = some (.slice A9 l.length c9) ∧ w'.cell? ⟨bx, 0, none⟩ = some (.int .i64 cl) ∧ w'.cell? ⟨bx, 1, none⟩ = some (.int .i64 sq) ∧ w'.cell? ⟨bx, 2, none⟩ = some (.slice Ao acc.length co)) (ds := [18]) #[f_,f_,f_,f_,f_,f_,f_,f_,f_,f_,f_,f_,f_,f_,f_,f_,f_,f_,f_,f_,f_] (by kernel_rfl) rfl rfl ⟨cg2, cg1, cg0, x0, x1, x2⟩ (fun hHeld => ?_)
              generalize wr.drew = wB at *
              refine pure_ (i := 0) (N := some 57) (v := ?_) (a' := ?_) #[t_,f_,f_,f_,f_,f_,f_,f_,f_,f_,f_,f_,f_,f_,f_,f_,f_,f_,f_,f_,f_] rfl rfl (by kernel_rfl) (fun _ _ _ h => h) (Or.inl ⟨by rfl, ?_⟩) ?_ ?_
              rotate_left
              · intro w'
                go_simp
                with_reducible rfl
              rotate_left
              · simp only [Act.put, List.setIfInBounds_toArray, List.set_cons_zero, List.set_cons_succ, i64_w, i32_w]
                rfl
              refine pure_ (i := 1) (N := some 58) (v := ?_) (a' := ?_) #[t_,t_,f_,f_,f_,f_,f_,f_,f_,f_,f_,f_,f_,f_,f_,f_,f_,f_,f_,f_,f_] rfl rfl (by kernel_rfl) (fun _ _ _ h => h) (Or.inl ⟨by rfl, ?_⟩) ?_ ?_
              rotate_left
              · intro w'
                go_simp
                with_reducible rfl
              rotate_left
              · simp only [Act.put, List.setIfInBounds_toArray, List.set_cons_zero, List.set_cons_succ, i64_w, i32_w]
                rfl
              refine pure_ (i := 2) (N := some 59) (v := ?_) (a' := ?_) #[t_,t_,t_,f_,f_,f_,f_,f_,f_,f_,f_,f_,f_,f_,f_,f_,f_,f_,f_,f_,f_] rfl rfl (by kernel_rfl) (fun _ _ _ h => h) (Or.inl ⟨by rfl, ?_⟩) ?_ ?_
              rotate_left
              · intro w'
                go_simp
                with_reducible rfl
              rotate_left
              · simp only [Act.put, List.setIfInBounds_toArray, List.set_cons_zero, List.set_cons_succ, i64_w, i32_w]
                rfl
              refine take_ (i := 3) (N := some 60) (v := ?_) (a' := ?_) #[t_,t_,t_,t_,f_,f_,f_,f_,f_,f_,f_,f_,f_,f_,f_,f_,f_,f_,f_,f_,f_] rfl rfl (by kernel_rfl) (fun _ _ _ h => h) (Or.inl ⟨by rfl, ?_⟩) hHeld ?_ ?_
              rotate_left
              · rintro w' ⟨s0, s1, s2, s3, s4, s5⟩
                go_simp
                with_reducible rfl
              rotate_left
              · simp only [Act.put, List.setIfInBounds_toArray, List.set_cons_zero, List.set_cons_succ, i64_w, i32_w]
                rfl
              refine pure_ (i := 4) (N := some 61) (v := ?_) (a' := ?_) #[t_,t_,t_,t_,t_,f_,f_,f_,f_,f_,f_,f_,f_,f_,f_,f_,f_,f_,f_,f_,f_] rfl rfl (by kernel_rfl) (fun _ _ _ h => h) (Or.inl ⟨by rfl, ?_⟩) ?_ ?_
              rotate_left
              · intro w'
                go_simp
                with_reducible rfl
              rotate_left
              · simp only [Act.put, List.setIfInBounds_toArray, List.set_cons_zero, List.set_cons_succ, i64_w, i32_w]
                rfl
              refine pure_ (i := 5) (N := some 62) (v := ?_) (a' := ?_) #[t_,t_,t_,t_,t_,t_,f_,f_,f_,f_,f_,f_,f_,f_,f_,f_,f_,f_,f_,f_,f_] rfl rfl (by kernel_rfl) (fun _ _ _ h => h) (Or.inl ⟨by rfl, ?_⟩) ?_ ?_
              rotate_left
              · intro w'
                go_simp
                with_reducible rfl
              rotate_left
              · simp only [Act.put, List.setIfInBounds_toArray, List.set_cons_zero, List.set_cons_succ, i64_w, i32_w]
                rfl
              refine pure_ (i := 6) (N := some 63) (v := ?_) (a' := ?_) #[t_,t_,t_,t_,t_,t_,t_,f_,f_,f_,f_,f_,f_,f_,f_,f_,f_,f_,f_,f_,f_] rfl rfl (by kernel_rfl) (fun _ _ _ h => h) (Or.inl ⟨by rfl, ?_⟩) ?_ ?_
              rotate_left
              · intro w'
                go_simp
                with_reducible rfl
              rotate_left
              · simp only [Act.put, List.setIfInBounds_toArray, List.set_cons_zero, List.set_cons_succ, i64_w, i32_w]
                rfl
              refine pure_ (i := 7) (N := some 64) (v := ?_) (a' := ?_) #[t_,t_,t_,t_,t_,t_,t_,t_,f_,f_,f_,f_,f_,f_,f_,f_,f_,f_,f_,f_,f_] rfl rfl (by kernel_rfl) (fun _ _ _ h => h) (Or.inl ⟨by rfl, ?_⟩) ?_ ?_
              rotate_left
              · intro w'
                go_simp
                with_reducible rfl
              rotate_left
              · simp only [Act.put, List.setIfInBounds_toArray, List.set_cons_zero, List.set_cons_succ, i64_w, i32_w]
                rfl
              refine pure_ (i := 9) (N := some 66) (v := ?_) (a' := ?_) #[t_,t_,t_,t_,t_,t_,t_,t_,f_,t_,f_,f_,f_,f_,f_,f_,f_,f_,f_,f_,f_] rfl rfl (by kernel_rfl) (fun _ _ _ h => h) (Or.inl ⟨by rfl, ?_⟩) ?_ ?_
              rotate_left
              · intro w'
                go_simp
                with_reducible rfl
              rotate_left
              · simp only [Act.put, List.setIfInBounds_toArray, List.set_cons_zero, List.set_cons_succ, i64_w, i32_w]
                rfl
              refine pure_ (i := 10) (N := some 67) (v := ?_) (a' := ?_) #[t_,t_,t_,t_,t_,t_,t_,t_,f_,t_,t_,f_,f_,f_,f_,f_,f_,f_,f_,f_,f_] rfl rfl (by kernel_rfl) (fun _ _ _ h => h) (Or.inl ⟨by rfl, ?_⟩) ?_ ?_
              rotate_left
              · intro w'
                go_simp
                with_reducible rfl
              rotate_left
              · simp only [Act.put, List.setIfInBounds_toArray, List.set_cons_zero, List.set_cons_succ, i64_w, i32_w]
                rfl
              refine pure_ (i := 11) (N := some 68) (v := ?_) (a' := ?_) #[t_,t_,t_,t_,t_,t_,t_,t_,f_,t_,t_,t_,f_,f_,f_,f_,f_,f_,f_,f_,f_] rfl rfl (by kernel_rfl) (fun _ _ _ h => h) (Or.inl ⟨by rfl, ?_⟩) ?_ ?_
              rotate_left
              · intro w'
                go_simp
                with_reducible rfl
              rotate_left
              · simp only [Act.put, List.setIfInBounds_toArray, List.set_cons_zero, List.set_cons_succ, i64_w, i32_w]
                rfl
              refine take_ (i := 8) (N := some 65) (v := ?_) (a' := ?_) #[t_,t_,t_,t_,t_,t_,t_,t_,t_,t_,t_,t_,f_,f_,f_,f_,f_,f_,f_,f_,f_] rfl rfl (by kernel_rfl) (fun _ _ _ h => h) (Or.inl ⟨by rfl, ?_⟩) hHeld ?_ ?_
              rotate_left
              · rintro w' ⟨s0, s1, s2, s3, s4, s5⟩
                go_simp
                with_reducible rfl
              rotate_left
              · simp only [Act.put, List.setIfInBounds_toArray, List.set_cons_zero, List.set_cons_succ, i64_w, i32_w]
                rfl
              refine take_ (i := 12) (N := some 69) (v := ?_) (a' := ?_) #[t_,t_,t_,t_,t_,t_,t_,t_,t_,t_,t_,t_,t_,f_,f_,f_,f_,f_,f_,f_,f_] rfl rfl (by kernel_rfl) (fun _ _ _ h => h) (Or.inl ⟨by rfl, ?_⟩) hHeld ?_ ?_
              rotate_left
              · rintro w' ⟨s0, s1, s2, s3, s4, s5⟩
                go_simp
                with_reducible rfl
              rotate_left
              · simp only [Act.put, List.setIfInBounds_toArray, List.set_cons_zero, List.set_cons_succ, i64_w, i32_w]
                rfl
              refine pure_ (i := 13) (N := some 70) (v := ?_) (a' := ?_) #[t_,t_,t_,t_,t_,t_,t_,t_,t_,t_,t_,t_,t_,t_,f_,f_,f_,f_,f_,f_,f_] rfl rfl (by kernel_rfl) (fun _ _ _ h => h) (Or.inl ⟨by rfl, ?_⟩) ?_ ?_
              rotate_left
              · intro w'
                go_simp
                with_reducible rfl
              rotate_left
              · simp only [Act.put, List.setIfInBounds_toArray, List.set_cons_zero, List.set_cons_succ, i64_w, i32_w]
                rfl
              refine pure_ (i := 14) (N := some 71) (v := ?_) (a' := ?_) #[t_,t_,t_,t_,t_,t_,t_,t_,t_,t_,t_,t_,t_,t_,t_,f_,f_,f_,f_,f_,f_] rfl rfl (by kernel_rfl) (fun _ _ _ h => h) (Or.inl ⟨by rfl, ?_⟩) ?_ ?_
              rotate_left
              · intro w'
                go_simp
                with_reducible rfl
              rotate_left
              · simp only [Act.put, List.setIfInBounds_toArray, List.set_cons_zero, List.set_cons_succ, i64_w, i32_w]
                rfl
              refine pure_ (i := 15) (N := some 72) (v := ?_) (a' := ?_) #[t_,t_,t_,t_,t_,t_,t_,t_,t_,t_,t_,t_,t_,t_,t_,t_,f_,f_,f_,f_,f_] rfl rfl (by kernel_rfl) (fun _ _ _ h => h) (Or.inl ⟨by rfl, ?_⟩) ?_ ?_
              rotate_left
              · intro w'
                go_simp
                with_reducible rfl
              rotate_left
              · simp only [Act.put, List.setIfInBounds_toArray, List.set_cons_zero, List.set_cons_succ, i64_w, i32_w]
                rfl
              refine pure_ (i := 16) (N := some 73) (v := ?_) (a' := ?_) #[t_,t_,t_,t_,t_,t_,t_,t_,t_,t_,t_,t_,t_,t_,t_,t_,t_,f_,f_,f_,f_] rfl rfl (by kernel_rfl) (fun _ _ _ h => h) (Or.inl ⟨by rfl, ?_⟩) ?_ ?_
              rotate_left
              · intro w'
                go_simp
                with_reducible rfl
              rotate_left
              · simp only [Act.put, List.setIfInBounds_toArray, List.set_cons_zero, List.set_cons_succ, i64_w, i32_w]
                rfl
              refine take_ (i := 17) (N := some 74) (v := ?_) (a' := ?_) #[t_,t_,t_,t_,t_,t_,t_,t_,t_,t_,t_,t_,t_,t_,t_,t_,t_,t_,f_,f_,f_] rfl rfl (by kernel_rfl) (fun _ _ _ h => h) (Or.inl ⟨by rfl, ?_⟩) hHeld ?_ ?_
              rotate_left
              · rintro w' ⟨s0, s1, s2, s3, s4, s5⟩
                go_simp
                with_reducible rfl
              rotate_left
              · simp only [Act.put, List.setIfInBounds_toArray, List.set_cons_zero, List.set_cons_succ, i64_w, i32_w]
                rfl
              refine last_ (i := 18) (N := some 75) #[t_,t_,t_,t_,t_,t_,t_,t_,t_,t_,t_,t_,t_,t_,t_,t_,t_,t_,t_,f_,f_] rfl rfl (by kernel_rfl) (by decide) (fun K hK => ?_)
              refine goes_ Try.func47 (by kernel_rfl) rfl #[.agg #[.int .i64 cl, .int .i64 sq, .slice Ao acc.length co]] (by rfl) rfl rfl (by simp only [List.map_toArray, List.map_cons, List.map_nil]; rfl) ?_
              with_reducible refine (HMA.out _ HAC.out).mono ?_
              rintro e w5 ⟨rfl, hB5⟩
              refine ⟨_, rfl, ?_⟩
              have HB5 := Aside0.mk hB5
              clear hB5
              refine hK.out _ _ ?_
              clear hK K
              refine norm_ (a' := ?_) ?_ ?_
              rotate_left
              · show Act.put _ (some 75) _ = _
                simp only [Act.put, List.setIfInBounds_toArray, List.set_cons_zero, List.set_cons_succ, i64_w, i32_w]
                rfl
              refine pure_ (i := 19) (N := some 76) (v := ?_) (a' := ?_) #[t_,t_,t_,t_,t_,t_,t_,t_,t_,t_,t_,t_,t_,t_,t_,t_,t_,t_,t_,t_,f_] rfl rfl (by kernel_rfl) (fun _ _ _ h => h) (Or.inl ⟨by rfl, ?_⟩) ?_ ?_
              rotate_left
              · intro w'
                go_simp
                with_reducible rfl
              rotate_left
              · simp only [Act.put, List.setIfInBounds_toArray, List.set_cons_zero, List.set_cons_succ, i64_w, i32_w]
                rfl
              refine pure_ (i := 20) (N := some 77) (v := ?_) (a' := ?_) #[t_,t_,t_,t_,t_,t_,t_,t_,t_,t_,t_,t_,t_,t_,t_,t_,t_,t_,t_,t_,t_] rfl rfl (by kernel_rfl) (fun _ _ _ h => h) (Or.inl ⟨by rfl, ?_⟩) ?_ ?_
              rotate_left
              · intro w'
                go_simp
                with_reducible rfl
              rotate_left
              · simp only [Act.put, List.setIfInBounds_toArray, List.set_cons_zero, List.set_cons_succ, i64_w, i32_w]
                rfl
              refine done_ (by kernel_rfl) ?_
              have HBZ5 : Aside0 (w5.heap[w.heap.size]? = some (.cells #[.int .i64 0, .int .i64 0, .slice none 0 0] 31 (0, 0))) := Aside0.mk ((HB5.out.block _ (blk_lt HBZ.out)).trans HBZ.out)
              have HBW5 := Aside0.mk (Below.trans HBW.out (HB5.out.mono HBW.out.size))
              have f0 := PAll.blk_frozen HBZ5.out 0
              have f1 := PAll.blk_frozen HBZ5.out 1
              have f2 := PAll.blk_frozen HBZ5.out 2
              have e0 : w5.cell? ⟨w.heap.size, 0, none⟩ = some (.int .i64 0) := PAll.blk_cell HBZ5.out 0
              have e1 : w5.cell? ⟨w.heap.size, 1, none⟩ = some (.int .i64 0) := PAll.blk_cell HBZ5.out 1
              have e2 : w5.cell? ⟨w.heap.size, 2, none⟩ = some (.slice none 0 0) := PAll.blk_cell HBZ5.out 2
              go_wp2_with (fail)
              have z := st3_blk HBZ5.out (.int .i64 0) (.int .i64 0) (.slice none 0 0)
              have zB := ((HBW5.out.setCell (p := ⟨w.heap.size, 0, none⟩) (Nat.le_refl _) (.int .i64 0)).setCell (p := ⟨w.heap.size, 1, none⟩) (Nat.le_refl _) (.int .i64 0)).setCell (p := ⟨w.heap.size, 2, none⟩) (Nat.le_refl _) (.slice none 0 0)
              generalize ((w5.setCell ⟨w.heap.size, 0, none⟩ (.int .i64 0)).setCell ⟨w.heap.size, 1, none⟩ (.int .i64 0)).setCell ⟨w.heap.size, 2, none⟩ (.slice none 0 0) = wz at *
              have d0 : wz.cell? ⟨w.heap.size, 0, none⟩ = some (.int .i64 0) := PAll.blk_cell z 0
              have d1 : wz.cell? ⟨w.heap.size, 1, none⟩ = some (.int .i64 0) := PAll.blk_cell z 1
              have d2 : wz.cell? ⟨w.heap.size, 2, none⟩ = some (.slice none 0 0) := PAll.blk_cell z 2
              refine bodyPost_ret (v := .tuple #[.agg #[.int .i64 0, .int .i64 0, .slice none 0 0], .int .i64 80]) (by simp [results, Try.results20, go_sem, d0, d1, d2]) rfl ⟨_, rfl, Kd.R_nil _ _ _ _ _, zB⟩
            · rw [hq] at hE hK
              rw [if_pos ⟨rfl, rfl⟩] at hE
              replace hE := hE.symm
              injection hE with h1 hE
              injection hE with h2 hE
              injection hE with h3 h4
              subst h1 h2 h3 h4
              have HMA := Aside0.mk (fun W (hC : Kd.C k27 W Ao acc.length acc) => skylarkref08_MayAll.calls K cl sq Ao co acc true W hC hle hK)
              have HAC := Aside0.mk hAC
              clear hK hq hAC
              have x0 : wr.cell? ⟨bx, 0, none⟩ = some (.int .i64 cl) := PAll.blk_cell BX0.out 0
              have x1 : wr.cell? ⟨bx, 1, none⟩ = some (.int .i64 sq) := PAll.blk_cell BX0.out 1
              have x2 : wr.cell? ⟨bx, 2, none⟩ = some (.slice Ao acc.length co) := PAll.blk_cell BX0.out 2
              go_wp2_with (fail)
              replace HAC := Aside0.mk (Kd.C_drew HAC.out)
              replace HBZ := Aside0.mk (blk_drew HBZ.out)
              replace HBW := Aside0.mk (below_drew1 HBW.out)
              replace BX0 := Aside0.mk (blk_drew BX0.out)
              replace OW0 := Aside0.mk (Kd.R_drew OW0.out)
              refine start_ (n := 21) (S := fun w' => w'.cell? ⟨g, 2, none⟩ = some (.bool false) ∧ w'.cell? ⟨g, 1, none⟩ = some (.int .i64 s.1) ∧ w'.cell? ⟨g, 0, none⟩ = some (.slice A9 l.length c9) ∧ w'.cell? ⟨bx, 0, none⟩ = some (.int .i64 cl) ∧ w'.cell? ⟨bx, 1, none⟩ = some (.int .i64 sq) ∧ w'.cell? ⟨bx, 2, none⟩ = some (.slice Ao acc.length co)) (ds := [18]) #[f_,f_,f_,f_,f_,f_,f_,f_,f_,f_,f_,f_,f_,f_,f_,f_,f_,f_,f_,f_,f_] (by kernel_rfl) rfl rfl ⟨cg2, cg1, cg0, x0, x1, x2⟩ (fun hHeld => ?_)
              generalize wr.drew = wB at *
              refine pure_ (i := 0) (N := some 57) (v := ?_) (a' := ?_) #[t_,f_,f_,f_,f_,f_,f_,f_,f_,f_,f_,f_,f_,f_,f_,f_,f_,f_,f_,f_,f_] rfl rfl (by kernel_rfl) (fun _ _ _ h => h) (Or.inl ⟨by rfl, ?_⟩) ?_ ?_
              rotate_left
              · intro w'
                go_simp
                with_reducible rfl
              rotate_left
              · simp only [Act.put, List.setIfInBounds_toArray, List.set_cons_zero, List.set_cons_succ, i64_w, i32_w]
                rfl
              refine pure_ (i := 1) (N := some 58) (v := ?_) (a' := ?_) #[t_,t_,f_,f_,f_,f_,f_,f_,f_,f_,f_,f_,f_,f_,f_,f_,f_,f_,f_,f_,f_] rfl rfl (by kernel_rfl) (fun _ _ _ h => h) (Or.inl ⟨by rfl, ?_⟩) ?_ ?_
              rotate_left
              · intro w'
                go_simp
                with_reducible rfl
              rotate_left
              · simp only [Act.put, List.setIfInBounds_toArray, List.set_cons_zero, List.set_cons_succ, i64_w, i32_w]
                rfl
              refine pure_ (i := 2) (N := some 59) (v := ?_) (a' := ?_) #[t_,t_,t_,f_,f_,f_,f_,f_,f_,f_,f_,f_,f_,f_,f_,f_,f_,f_,f_,f_,f_] rfl rfl (by kernel_rfl) (fun _ _ _ h => h) (Or.inl ⟨by rfl, ?_⟩) ?_ ?_
              rotate_left
              · intro w'
                go_simp
                with_reducible rfl
              rotate_left
              · simp only [Act.put, List.setIfInBounds_toArray, List.set_cons_zero, List.set_cons_succ, i64_w, i32_w]
                rfl
              refine take_ (i := 3) (N := some 60) (v := ?_) (a' := ?_) #[t_,t_,t_,t_,f_,f_,f_,f_,f_,f_,f_,f_,f_,f_,f_,f_,f_,f_,f_,f_,f_] rfl rfl (by kernel_rfl) (fun _ _ _ h => h) (Or.inl ⟨by rfl, ?_⟩) hHeld ?_ ?_
              rotate_left
              · rintro w' ⟨s0, s1, s2, s3, s4, s5⟩
                go_simp
                with_reducible rfl
              rotate_left
              · simp only [Act.put, List.setIfInBounds_toArray, List.set_cons_zero, List.set_cons_succ, i64_w, i32_w]
                rfl
              refine pure_ (i := 4) (N := some 61) (v := ?_) (a' := ?_) #[t_,t_,t_,t_,t_,f_,f_,f_,f_,f_,f_,f_,f_,f_,f_,f_,f_,f_,f_,f_,f_] rfl rfl (by kernel_rfl) (fun _ _ _ h => h) (Or.inl ⟨by rfl, ?_⟩) ?_ ?_
              rotate_left
              · intro w'
                go_simp
                with_reducible rfl
              rotate_left
              · simp only [Act.put, List.setIfInBounds_toArray, List.set_cons_zero, List.set_cons_succ, i64_w, i32_w]
                rfl
              refine pure_ (i := 5) (N := some 62) (v := ?_) (a' := ?_) #[t_,t_,t_,t_,t_,t_,f_,f_,f_,f_,f_,f_,f_,f_,f_,f_,f_,f_,f_,f_,f_] rfl rfl (by kernel_rfl) (fun _ _ _ h => h) (Or.inl ⟨by rfl, ?_⟩) ?_ ?_
              rotate_left
              · intro w'
                go_simp
                with_reducible rfl
              rotate_left
              · simp only [Act.put, List.setIfInBounds_toArray, List.set_cons_zero, List.set_cons_succ, i64_w, i32_w]
                rfl
              refine pure_ (i := 6) (N := some 63) (v := ?_) (a' := ?_) #[t_,t_,t_,t_,t_,t_,t_,f_,f_,f_,f_,f_,f_,f_,f_,f_,f_,f_,f_,f_,f_] rfl rfl (by kernel_rfl) (fun _ _ _ h => h) (Or.inl ⟨by rfl, ?_⟩) ?_ ?_
              rotate_left
              · intro w'
                go_simp
                with_reducible rfl
              rotate_left
              · simp only [Act.put, List.setIfInBounds_toArray, List.set_cons_zero, List.set_cons_succ, i64_w, i32_w]
                rfl
              refine pure_ (i := 7) (N := some 64) (v := ?_) (a' := ?_) #[t_,t_,t_,t_,t_,t_,t_,t_,f_,f_,f_,f_,f_,f_,f_,f_,f_,f_,f_,f_,f_] rfl rfl (by kernel_rfl) (fun _ _ _ h => h) (Or.inl ⟨by rfl, ?_⟩) ?_ ?_
              rotate_left
              · intro w'
                go_simp
                with_reducible rfl
              rotate_left
              · simp only [Act.put, List.setIfInBounds_toArray, List.set_cons_zero, List.set_cons_succ, i64_w, i32_w]
                rfl
              refine pure_ (i := 9) (N := some 66) (v := ?_) (a' := ?_) #[t_,t_,t_,t_,t_,t_,t_,t_,f_,t_,f_,f_,f_,f_,f_,f_,f_,f_,f_,f_,f_] rfl rfl (by kernel_rfl) (fun _ _ _ h => h) (Or.inl ⟨by rfl, ?_⟩) ?_ ?_
              rotate_left
              · intro w'
                go_simp
                with_reducible rfl
              rotate_left
              · simp only [Act.put, List.setIfInBounds_toArray, List.set_cons_zero, List.set_cons_succ, i64_w, i32_w]
                rfl
              refine pure_ (i := 10) (N := some 67) (v := ?_) (a' := ?_) #[t_,t_,t_,t_,t_,t_,t_,t_,f_,t_,t_,f_,f_,f_,f_,f_,f_,f_,f_,f_,f_] rfl rfl (by kernel_rfl) (fun _ _ _ h => h) (Or.inl ⟨by rfl, ?_⟩) ?_ ?_
              rotate_left
              · intro w'
                go_simp
                with_reducible rfl
              rotate_left
              · simp only [Act.put, List.setIfInBounds_toArray, List.set_cons_zero, List.set_cons_succ, i64_w, i32_w]
                rfl
              refine pure_ (i := 11) (N := some 68) (v := ?_) (a' := ?_) #[t_,t_,t_,t_,t_,t_,t_,t_,f_,t_,t_,t_,f_,f_,f_,f_,f_,f_,f_,f_,f_] rfl rfl (by kernel_rfl) (fun _ _ _ h => h) (Or.inl ⟨by rfl, ?_⟩) ?_ ?_
              rotate_left
              · intro w'
                go_simp
                with_reducible rfl
              rotate_left
              · simp only [Act.put, List.setIfInBounds_toArray, List.set_cons_zero, List.set_cons_succ, i64_w, i32_w]
                rfl
              refine take_ (i := 8) (N := some 65) (v := ?_) (a' := ?_) #[t_,t_,t_,t_,t_,t_,t_,t_,t_,t_,t_,t_,f_,f_,f_,f_,f_,f_,f_,f_,f_] rfl rfl (by kernel_rfl) (fun _ _ _ h => h) (Or.inl ⟨by rfl, ?_⟩) hHeld ?_ ?_
              rotate_left
              · rintro w' ⟨s0, s1, s2, s3, s4, s5⟩
                go_simp
                with_reducible rfl
              rotate_left
              · simp only [Act.put, List.setIfInBounds_toArray, List.set_cons_zero, List.set_cons_succ, i64_w, i32_w]
                rfl
              refine take_ (i := 12) (N := some 69) (v := ?_) (a' := ?_) #[t_,t_,t_,t_,t_,t_,t_,t_,t_,t_,t_,t_,t_,f_,f_,f_,f_,f_,f_,f_,f_] rfl rfl (by kernel_rfl) (fun _ _ _ h => h) (Or.inl ⟨by rfl, ?_⟩) hHeld ?_ ?_
              rotate_left
              · rintro w' ⟨s0, s1, s2, s3, s4, s5⟩
                go_simp
                with_reducible rfl
              rotate_left
              · simp only [Act.put, List.setIfInBounds_toArray, List.set_cons_zero, List.set_cons_succ, i64_w, i32_w]
                rfl
              refine pure_ (i := 13) (N := some 70) (v := ?_) (a' := ?_) #[t_,t_,t_,t_,t_,t_,t_,t_,t_,t_,t_,t_,t_,t_,f_,f_,f_,f_,f_,f_,f_] rfl rfl (by kernel_rfl) (fun _ _ _ h => h) (Or.inl ⟨by rfl, ?_⟩) ?_ ?_
              rotate_left
              · intro w'
                go_simp
                with_reducible rfl
              rotate_left
              · simp only [Act.put, List.setIfInBounds_toArray, List.set_cons_zero, List.set_cons_succ, i64_w, i32_w]
                rfl
              refine pure_ (i := 14) (N := some 71) (v := ?_) (a' := ?_) #[t_,t_,t_,t_,t_,t_,t_,t_,t_,t_,t_,t_,t_,t_,t_,f_,f_,f_,f_,f_,f_] rfl rfl (by kernel_rfl) (fun _ _ _ h => h) (Or.inl ⟨by rfl, ?_⟩) ?_ ?_
              rotate_left
              · intro w'
                go_simp
                with_reducible rfl
              rotate_left
              · simp only [Act.put, List.setIfInBounds_toArray, List.set_cons_zero, List.set_cons_succ, i64_w, i32_w]
                rfl
              refine pure_ (i := 15) (N := some 72) (v := ?_) (a' := ?_) #[t_,t_,t_,t_,t_,t_,t_,t_,t_,t_,t_,t_,t_,t_,t_,t_,f_,f_,f_,f_,f_] rfl rfl (by kernel_rfl) (fun _ _ _ h => h) (Or.inl ⟨by rfl, ?_⟩) ?_ ?_
              rotate_left
              · intro w'
                go_simp
                with_reducible rfl
              rotate_left
              · simp only [Act.put, List.setIfInBounds_toArray, List.set_cons_zero, List.set_cons_succ, i64_w, i32_w]
                rfl
              refine pure_ (i := 16) (N := some 73) (v := ?_) (a' := ?_) #[t_,t_,t_,t_,t_,t_,t_,t_,t_,t_,t_,t_,t_,t_,t_,t_,t_,f_,f_,f_,f_] rfl rfl (by kernel_rfl) (fun _ _ _ h => h) (Or.inl ⟨by rfl, ?_⟩) ?_ ?_
              rotate_left
              · intro w'
                go_simp
                with_reducible rfl
              rotate_left
              · simp only [Act.put, List.setIfInBounds_toArray, List.set_cons_zero, List.set_cons_succ, i64_w, i32_w]
                rfl
              refine take_ (i := 17) (N := some 74) (v := ?_) (a' := ?_) #[t_,t_,t_,t_,t_,t_,t_,t_,t_,t_,t_,t_,t_,t_,t_,t_,t_,t_,f_,f_,f_] rfl rfl (by kernel_rfl) (fun _ _ _ h => h) (Or.inl ⟨by rfl, ?_⟩) hHeld ?_ ?_
              rotate_left
              · rintro w' ⟨s0, s1, s2, s3, s4, s5⟩
                go_simp
                with_reducible rfl
              rotate_left
              · simp only [Act.put, List.setIfInBounds_toArray, List.set_cons_zero, List.set_cons_succ, i64_w, i32_w]
                rfl
              refine last_ (i := 18) (N := some 75) #[t_,t_,t_,t_,t_,t_,t_,t_,t_,t_,t_,t_,t_,t_,t_,t_,t_,t_,t_,f_,f_] rfl rfl (by kernel_rfl) (by decide) (fun K hK => ?_)
              refine goes_ Try.func47 (by kernel_rfl) rfl #[.agg #[.int .i64 cl, .int .i64 sq, .slice Ao acc.length co]] (by rfl) rfl rfl (by simp only [List.map_toArray, List.map_cons, List.map_nil]; rfl) ?_
              with_reducible refine (HMA.out _ HAC.out).mono ?_
              rintro e w5 ⟨rfl, hB5⟩
              refine ⟨_, rfl, ?_⟩
              have HB5 := Aside0.mk hB5
              clear hB5
              refine hK.out _ _ ?_
              clear hK K
              refine norm_ (a' := ?_) ?_ ?_
              rotate_left
              · show Act.put _ (some 75) _ = _
                simp only [Act.put, List.setIfInBounds_toArray, List.set_cons_zero, List.set_cons_succ, i64_w, i32_w]
                rfl
              refine pure_ (i := 19) (N := some 76) (v := ?_) (a' := ?_) #[t_,t_,t_,t_,t_,t_,t_,t_,t_,t_,t_,t_,t_,t_,t_,t_,t_,t_,t_,t_,f_] rfl rfl (by kernel_rfl) (fun _ _ _ h => h) (Or.inl ⟨by rfl, ?_⟩) ?_ ?_
              rotate_left
              · intro w'
                go_simp
                with_reducible rfl
              rotate_left
              · simp only [Act.put, List.setIfInBounds_toArray, List.set_cons_zero, List.set_cons_succ, i64_w, i32_w]
                rfl
              refine pure_ (i := 20) (N := some 77) (v := ?_) (a' := ?_) #[t_,t_,t_,t_,t_,t_,t_,t_,t_,t_,t_,t_,t_,t_,t_,t_,t_,t_,t_,t_,t_] rfl rfl (by kernel_rfl) (fun _ _ _ h => h) (Or.inl ⟨by rfl, ?_⟩) ?_ ?_
              rotate_left
              · intro w'
                go_simp
                with_reducible rfl
              rotate_left
              · simp only [Act.put, List.setIfInBounds_toArray, List.set_cons_zero, List.set_cons_succ, i64_w, i32_w]
                rfl
              refine done_ (by kernel_rfl) ?_
              have HBZ5 : Aside0 (w5.heap[w.heap.size]? = some (.cells #[.int .i64 0, .int .i64 0, .slice none 0 0] 31 (0, 0))) := Aside0.mk ((HB5.out.block _ (blk_lt HBZ.out)).trans HBZ.out)
              have HBW5 := Aside0.mk (Below.trans HBW.out (HB5.out.mono HBW.out.size))
              have hbx5 := (HB5.out.block _ (blk_lt BX0.out)).trans BX0.out
              have OW5 := Aside0.mk (Kd.R_below OW0.out HB5.out)
              clear x0 x1 x2
              have x0 : w5.cell? ⟨bx, 0, none⟩ = some (.int .i64 cl) := PAll.blk_cell hbx5 0
              have x1 : w5.cell? ⟨bx, 1, none⟩ = some (.int .i64 sq) := PAll.blk_cell hbx5 1
              have x2 : w5.cell? ⟨bx, 2, none⟩ = some (.slice Ao acc.length co) := PAll.blk_cell hbx5 2
              clear hbx5
              have f0 := PAll.blk_frozen HBZ5.out 0
              have f1 := PAll.blk_frozen HBZ5.out 1
              have f2 := PAll.blk_frozen HBZ5.out 2
              have e0 : w5.cell? ⟨w.heap.size, 0, none⟩ = some (.int .i64 0) := PAll.blk_cell HBZ5.out 0
              have e1 : w5.cell? ⟨w.heap.size, 1, none⟩ = some (.int .i64 0) := PAll.blk_cell HBZ5.out 1
              have e2 : w5.cell? ⟨w.heap.size, 2, none⟩ = some (.slice none 0 0) := PAll.blk_cell HBZ5.out 2
              go_wp2_with (fail)
              have z := st3_blk HBZ5.out (.int .i64 cl) (.int .i64 sq) (.slice Ao acc.length co)
              have zB := ((HBW5.out.setCell (p := ⟨w.heap.size, 0, none⟩) (Nat.le_refl _) (.int .i64 cl)).setCell (p := ⟨w.heap.size, 1, none⟩) (Nat.le_refl _) (.int .i64 sq)).setCell (p := ⟨w.heap.size, 2, none⟩) (Nat.le_refl _) (.slice Ao acc.length co)
              have zR := own_st3 OW5.out HBZ5.out (.int .i64 cl) (.int .i64 sq) (.slice Ao acc.length co)
              generalize ((w5.setCell ⟨w.heap.size, 0, none⟩ (.int .i64 cl)).setCell ⟨w.heap.size, 1, none⟩ (.int .i64 sq)).setCell ⟨w.heap.size, 2, none⟩ (.slice Ao acc.length co) = wz at *
              have d0 : wz.cell? ⟨w.heap.size, 0, none⟩ = some (.int .i64 cl) := PAll.blk_cell z 0
              have d1 : wz.cell? ⟨w.heap.size, 1, none⟩ = some (.int .i64 sq) := PAll.blk_cell z 1
              have d2 : wz.cell? ⟨w.heap.size, 2, none⟩ = some (.slice Ao acc.length co) := PAll.blk_cell z 2
              refine bodyPost_ret (v := .tuple #[.agg #[.int .i64 cl, .int .i64 sq, .slice Ao acc.length co], .int .i64 0]) (by simp [results, Try.results20, go_sem, d0, d1, d2]) rfl ⟨_, rfl, Kd.R_lower zR HW.out.size, zB⟩
          · have qa : (s.1 != (l.length : Int)) = true := bne_iff_ne.mpr hat
            rw [decide_eq_false hat, if_neg (fun h => by cases h.1)] at hE
            injection hE with h1 hE
            injection hE with h2 hE
            injection hE with h3 h4
            subst h1 h2 h3 h4
            clear hat hlt
            go_wp2_with (fail)
            replace HBZ := Aside0.mk (blk_drew HBZ.out)
            replace HBW := Aside0.mk (below_drew1 HBW.out)
            refine start_ (n := 21) (S := fun w' => w'.cell? ⟨g, 2, none⟩ = some (.bool false) ∧ w'.cell? ⟨g, 1, none⟩ = some (.int .i64 s.1) ∧ w'.cell? ⟨g, 0, none⟩ = some (.slice A9 l.length c9)) (ds := []) #[f_,f_,f_,f_,f_,f_,f_,f_,f_,f_,f_,f_,f_,f_,f_,f_,f_,f_,f_,f_,f_] (by kernel_rfl) rfl rfl ⟨cg2, cg1, cg0⟩ (fun hHeld => ?_)
            generalize wr.drew = wB at *
            refine pure_ (i := 0) (N := some 57) (v := ?_) (a' := ?_) #[t_,f_,f_,f_,f_,f_,f_,f_,f_,f_,f_,f_,f_,f_,f_,f_,f_,f_,f_,f_,f_] rfl rfl (by kernel_rfl) (fun _ _ _ h => h) (Or.inl ⟨by rfl, ?_⟩) ?_ ?_
            rotate_left
            · intro w'
              go_simp
              with_reducible rfl
            rotate_left
            · simp only [Act.put, List.setIfInBounds_toArray, List.set_cons_zero, List.set_cons_succ, i64_w, i32_w]
              rfl
            refine pure_ (i := 1) (N := some 58) (v := ?_) (a' := ?_) #[t_,t_,f_,f_,f_,f_,f_,f_,f_,f_,f_,f_,f_,f_,f_,f_,f_,f_,f_,f_,f_] rfl rfl (by kernel_rfl) (fun _ _ _ h => h) (Or.inl ⟨by rfl, ?_⟩) ?_ ?_
            rotate_left
            · intro w'
              go_simp
              with_reducible rfl
            rotate_left
            · simp only [Act.put, List.setIfInBounds_toArray, List.set_cons_zero, List.set_cons_succ, i64_w, i32_w]
              rfl
            refine pure_ (i := 2) (N := some 59) (v := ?_) (a' := ?_) #[t_,t_,t_,f_,f_,f_,f_,f_,f_,f_,f_,f_,f_,f_,f_,f_,f_,f_,f_,f_,f_] rfl rfl (by kernel_rfl) (fun _ _ _ h => h) (Or.inl ⟨by rfl, ?_⟩) ?_ ?_
            rotate_left
            · intro w'
              go_simp
              with_reducible rfl
            rotate_left
            · simp only [Act.put, List.setIfInBounds_toArray, List.set_cons_zero, List.set_cons_succ, i64_w, i32_w]
              rfl
            refine take_ (i := 3) (N := some 60) (v := ?_) (a' := ?_) #[t_,t_,t_,t_,f_,f_,f_,f_,f_,f_,f_,f_,f_,f_,f_,f_,f_,f_,f_,f_,f_] rfl rfl (by kernel_rfl) (fun _ _ _ h => h) (Or.inl ⟨by rfl, ?_⟩) hHeld ?_ ?_
            rotate_left
            · rintro w' ⟨s0, s1, s2⟩
              go_simp
              with_reducible rfl
            rotate_left
            · simp only [Act.put, List.setIfInBounds_toArray, List.set_cons_zero, List.set_cons_succ, i64_w, i32_w]
              rfl
            refine pure_ (i := 4) (N := some 61) (v := ?_) (a' := ?_) #[t_,t_,t_,t_,t_,f_,f_,f_,f_,f_,f_,f_,f_,f_,f_,f_,f_,f_,f_,f_,f_] rfl rfl (by kernel_rfl) (fun _ _ _ h => h) (Or.inl ⟨by rfl, ?_⟩) ?_ ?_
            rotate_left
            · intro w'
              go_simp
              with_reducible rfl
            rotate_left
            · simp only [Act.put, List.setIfInBounds_toArray, List.set_cons_zero, List.set_cons_succ, i64_w, i32_w]
              rfl
            refine pure_ (i := 5) (N := some 62) (v := ?_) (a' := ?_) #[t_,t_,t_,t_,t_,t_,f_,f_,f_,f_,f_,f_,f_,f_,f_,f_,f_,f_,f_,f_,f_] rfl rfl (by kernel_rfl) (fun _ _ _ h => h) (Or.inl ⟨by rfl, ?_⟩) ?_ ?_
            rotate_left
            · intro w'
              go_simp
              with_reducible rfl
            rotate_left
            · simp only [Act.put, List.setIfInBounds_toArray, List.set_cons_zero, List.set_cons_succ, i64_w, i32_w]
              rfl
            refine pure_ (i := 6) (N := some 63) (v := ?_) (a' := ?_) #[t_,t_,t_,t_,t_,t_,t_,f_,f_,f_,f_,f_,f_,f_,f_,f_,f_,f_,f_,f_,f_] rfl rfl (by kernel_rfl) (fun _ _ _ h => h) (Or.inl ⟨by rfl, ?_⟩) ?_ ?_
            rotate_left
            · intro w'
              go_simp
              with_reducible rfl
            rotate_left
            · simp only [Act.put, List.setIfInBounds_toArray, List.set_cons_zero, List.set_cons_succ, i64_w, i32_w]
              rfl
            refine pure_ (i := 7) (N := some 64) (v := ?_) (a' := ?_) #[t_,t_,t_,t_,t_,t_,t_,t_,f_,f_,f_,f_,f_,f_,f_,f_,f_,f_,f_,f_,f_] rfl rfl (by kernel_rfl) (fun _ _ _ h => h) (Or.inl ⟨by rfl, ?_⟩) ?_ ?_
            rotate_left
            · intro w'
              go_simp
              with_reducible rfl
            rotate_left
            · simp only [Act.put, List.setIfInBounds_toArray, List.set_cons_zero, List.set_cons_succ, i64_w, i32_w]
              rfl
            refine pure_ (i := 9) (N := some 66) (v := ?_) (a' := ?_) #[t_,t_,t_,t_,t_,t_,t_,t_,f_,t_,f_,f_,f_,f_,f_,f_,f_,f_,f_,f_,f_] rfl rfl (by kernel_rfl) (fun _ _ _ h => h) (Or.inl ⟨by rfl, ?_⟩) ?_ ?_
            rotate_left
            · intro w'
              go_simp
              with_reducible rfl
            rotate_left
            · simp only [Act.put, List.setIfInBounds_toArray, List.set_cons_zero, List.set_cons_succ, i64_w, i32_w]
              rfl
            refine pure_ (i := 10) (N := some 67) (v := ?_) (a' := ?_) #[t_,t_,t_,t_,t_,t_,t_,t_,f_,t_,t_,f_,f_,f_,f_,f_,f_,f_,f_,f_,f_] rfl rfl (by kernel_rfl) (fun _ _ _ h => h) (Or.inl ⟨by rfl, ?_⟩) ?_ ?_
            rotate_left
            · intro w'
              go_simp
              with_reducible rfl
            rotate_left
            · simp only [Act.put, List.setIfInBounds_toArray, List.set_cons_zero, List.set_cons_succ, i64_w, i32_w]
              rfl
            refine pure_ (i := 11) (N := some 68) (v := ?_) (a' := ?_) #[t_,t_,t_,t_,t_,t_,t_,t_,f_,t_,t_,t_,f_,f_,f_,f_,f_,f_,f_,f_,f_] rfl rfl (by kernel_rfl) (fun _ _ _ h => h) (Or.inl ⟨by rfl, ?_⟩) ?_ ?_
            rotate_left
            · intro w'
              go_simp
              with_reducible rfl
            rotate_left
            · simp only [Act.put, List.setIfInBounds_toArray, List.set_cons_zero, List.set_cons_succ, i64_w, i32_w]
              rfl
            refine take_ (i := 8) (N := some 65) (v := ?_) (a' := ?_) #[t_,t_,t_,t_,t_,t_,t_,t_,t_,t_,t_,t_,f_,f_,f_,f_,f_,f_,f_,f_,f_] rfl rfl (by kernel_rfl) (fun _ _ _ h => h) (Or.inl ⟨by rfl, ?_⟩) hHeld ?_ ?_
            rotate_left
            · rintro w' ⟨s0, s1, s2⟩
              go_simp
              with_reducible rfl
            rotate_left
            · simp only [Act.put, List.setIfInBounds_toArray, List.set_cons_zero, List.set_cons_succ, i64_w, i32_w]
              rfl
            refine take_ (i := 12) (N := some 69) (v := ?_) (a' := ?_) #[t_,t_,t_,t_,t_,t_,t_,t_,t_,t_,t_,t_,t_,f_,f_,f_,f_,f_,f_,f_,f_] rfl rfl (by kernel_rfl) (fun _ _ _ h => h) (Or.inl ⟨by rfl, ?_⟩) hHeld ?_ ?_
            rotate_left
            · rintro w' ⟨s0, s1, s2⟩
              go_simp
              with_reducible rfl
            rotate_left
            · simp only [Act.put, List.setIfInBounds_toArray, List.set_cons_zero, List.set_cons_succ, i64_w, i32_w]
              rfl
            refine pure_ (i := 13) (N := some 70) (v := ?_) (a' := ?_) #[t_,t_,t_,t_,t_,t_,t_,t_,t_,t_,t_,t_,t_,t_,f_,f_,f_,f_,f_,f_,f_] rfl rfl (by kernel_rfl) (fun _ _ _ h => h) (Or.inl ⟨by rfl, ?_⟩) ?_ ?_
            rotate_left
            · intro w'
              go_simp
              with_reducible rfl
            rotate_left
            · simp only [Act.put, List.setIfInBounds_toArray, List.set_cons_zero, List.set_cons_succ, i64_w, i32_w]
              rfl
            refine pure_ (i := 14) (N := some 71) (v := ?_) (a' := ?_) #[t_,t_,t_,t_,t_,t_,t_,t_,t_,t_,t_,t_,t_,t_,t_,f_,f_,f_,f_,f_,f_] rfl rfl (by kernel_rfl) (fun _ _ _ h => h) (Or.inl ⟨by rfl, ?_⟩) ?_ ?_
            rotate_left
            · intro w'
              go_simp
              with_reducible rfl
            rotate_left
            · simp only [Act.put, List.setIfInBounds_toArray, List.set_cons_zero, List.set_cons_succ, i64_w, i32_w]
              rfl
            refine pure_ (i := 15) (N := some 72) (v := ?_) (a' := ?_) #[t_,t_,t_,t_,t_,t_,t_,t_,t_,t_,t_,t_,t_,t_,t_,t_,f_,f_,f_,f_,f_] rfl rfl (by kernel_rfl) (fun _ _ _ h => h) (Or.inl ⟨by rfl, ?_⟩) ?_ ?_
            rotate_left
            · intro w'
              go_simp
              with_reducible rfl
            rotate_left
            · simp only [Act.put, List.setIfInBounds_toArray, List.set_cons_zero, List.set_cons_succ, i64_w, i32_w]
              rfl
            refine pure_ (i := 16) (N := some 73) (v := ?_) (a' := ?_) #[t_,t_,t_,t_,t_,t_,t_,t_,t_,t_,t_,t_,t_,t_,t_,t_,t_,f_,f_,f_,f_] rfl rfl (by kernel_rfl) (fun _ _ _ h => h) (Or.inl ⟨by rfl, ?_⟩) ?_ ?_
            rotate_left
            · intro w'
              go_simp
              with_reducible rfl
            rotate_left
            · simp only [Act.put, List.setIfInBounds_toArray, List.set_cons_zero, List.set_cons_succ, i64_w, i32_w]
              rfl
            refine pure_ (i := 17) (N := some 74) (v := undef) (a' := ?_) #[t_,t_,t_,t_,t_,t_,t_,t_,t_,t_,t_,t_,t_,t_,t_,t_,t_,t_,f_,f_,f_] rfl rfl (by kernel_rfl) (fun _ _ _ h => h) (Or.inr ⟨by rfl, rfl⟩) ?_ ?_
            rotate_left
            · simp only [Act.put, List.setIfInBounds_toArray, List.set_cons_zero, List.set_cons_succ, i64_w, i32_w]
              rfl
            refine pure_ (i := 18) (N := some 75) (v := undef) (a' := ?_) #[t_,t_,t_,t_,t_,t_,t_,t_,t_,t_,t_,t_,t_,t_,t_,t_,t_,t_,t_,f_,f_] rfl rfl (by kernel_rfl) (fun _ _ _ h => h) (Or.inr ⟨by rfl, rfl⟩) ?_ ?_
            rotate_left
            · simp only [Act.put, List.setIfInBounds_toArray, List.set_cons_zero, List.set_cons_succ, i64_w, i32_w]
              rfl
            refine pure_ (i := 19) (N := some 76) (v := undef) (a' := ?_) #[t_,t_,t_,t_,t_,t_,t_,t_,t_,t_,t_,t_,t_,t_,t_,t_,t_,t_,t_,t_,f_] rfl rfl (by kernel_rfl) (fun _ _ _ h => h) (Or.inr ⟨by rfl, rfl⟩) ?_ ?_
            rotate_left
            · simp only [Act.put, List.setIfInBounds_toArray, List.set_cons_zero, List.set_cons_succ, i64_w, i32_w]
              rfl
            refine pure_ (i := 20) (N := some 77) (v := ?_) (a' := ?_) #[t_,t_,t_,t_,t_,t_,t_,t_,t_,t_,t_,t_,t_,t_,t_,t_,t_,t_,t_,t_,t_] rfl rfl (by kernel_rfl) (fun _ _ _ h => h) (Or.inl ⟨by rfl, ?_⟩) ?_ ?_
            rotate_left
            · intro w'
              go_simp
              with_reducible rfl
            rotate_left
            · simp only [Act.put, List.setIfInBounds_toArray, List.set_cons_zero, List.set_cons_succ, i64_w, i32_w]
              rfl
            refine done_ (by kernel_rfl) ?_
            have f0 := PAll.blk_frozen HBZ.out 0
            have f1 := PAll.blk_frozen HBZ.out 1
            have f2 := PAll.blk_frozen HBZ.out 2
            have e0 : wB.cell? ⟨w.heap.size, 0, none⟩ = some (.int .i64 0) := PAll.blk_cell HBZ.out 0
            have e1 : wB.cell? ⟨w.heap.size, 1, none⟩ = some (.int .i64 0) := PAll.blk_cell HBZ.out 1
            have e2 : wB.cell? ⟨w.heap.size, 2, none⟩ = some (.slice none 0 0) := PAll.blk_cell HBZ.out 2
            go_wp2_with (fail)
            have z := st3_blk HBZ.out (.int .i64 0) (.int .i64 0) (.slice none 0 0)
            have zB := ((HBW.out.setCell (p := ⟨w.heap.size, 0, none⟩) (Nat.le_refl _) (.int .i64 0)).setCell (p := ⟨w.heap.size, 1, none⟩) (Nat.le_refl _) (.int .i64 0)).setCell (p := ⟨w.heap.size, 2, none⟩) (Nat.le_refl _) (.slice none 0 0)
            generalize ((wB.setCell ⟨w.heap.size, 0, none⟩ (.int .i64 0)).setCell ⟨w.heap.size, 1, none⟩ (.int .i64 0)).setCell ⟨w.heap.size, 2, none⟩ (.slice none 0 0) = wz at *
            have d0 : wz.cell? ⟨w.heap.size, 0, none⟩ = some (.int .i64 0) := PAll.blk_cell z 0
            have d1 : wz.cell? ⟨w.heap.size, 1, none⟩ = some (.int .i64 0) := PAll.blk_cell z 1
            have d2 : wz.cell? ⟨w.heap.size, 2, none⟩ = some (.slice none 0 0) := PAll.blk_cell z 2
            refine bodyPost_ret (v := .tuple #[.agg #[.int .i64 0, .int .i64 0, .slice none 0 0], .int .i64 80]) (by simp [results, Try.results20, go_sem, d0, d1, d2]) rfl ⟨_, rfl, Kd.R_nil _ _ _ _ _, zB⟩
      · rw [hok] at cg2
        have ht : t.2 = false := by
          rcases HT.out with ⟨h1, _⟩ | ⟨_, h2⟩
          · rw [hok] at h1; cases h1
          · exact h2
        obtain ⟨eo, es⟩ := l0_end HI.out (.inl ht)
        have hE := HE.out
        have hw : rwhole t = false := by unfold rwhole; rw [ht]; rfl
        rw [eo, es] at hE
        unfold reqOut at hE
        rw [hw, if_neg (fun h => by cases h.1)] at hE
        injection hE with h1 hE
        injection hE with h2 hE
        injection hE with h3 h4
        subst h1 h2 h3 h4
        clear ht eo es hw hok HI HT HV HE cg0 cg1
        obtain ⟨q, hq⟩ : ∃ q, decide (i < n) = q := ⟨_, rfl⟩
        cases q
        all_goals
          go_wp2_with (fail)
          replace HBZ := Aside0.mk (blk_drew HBZ.out)
          replace HBW := Aside0.mk (below_drew1 HBW.out)
          refine start_ (n := 21) (S := fun w' => w'.cell? ⟨g, 2, none⟩ = some (.bool true)) (ds := []) #[f_,f_,f_,f_,f_,f_,f_,f_,f_,f_,f_,f_,f_,f_,f_,f_,f_,f_,f_,f_,f_] (by kernel_rfl) rfl rfl (cg2) (fun hHeld => ?_)
          generalize wr.drew = wB at *
          refine pure_ (i := 0) (N := some 57) (v := ?_) (a' := ?_) #[t_,f_,f_,f_,f_,f_,f_,f_,f_,f_,f_,f_,f_,f_,f_,f_,f_,f_,f_,f_,f_] rfl rfl (by kernel_rfl) (fun _ _ _ h => h) (Or.inl ⟨by rfl, ?_⟩) ?_ ?_
          rotate_left
          · intro w'
            go_simp
            with_reducible rfl
          rotate_left
          · simp only [Act.put, List.setIfInBounds_toArray, List.set_cons_zero, List.set_cons_succ, i64_w, i32_w]
            rfl
          refine pure_ (i := 1) (N := some 58) (v := ?_) (a' := ?_) #[t_,t_,f_,f_,f_,f_,f_,f_,f_,f_,f_,f_,f_,f_,f_,f_,f_,f_,f_,f_,f_] rfl rfl (by kernel_rfl) (fun _ _ _ h => h) (Or.inl ⟨by rfl, ?_⟩) ?_ ?_
          rotate_left
          · intro w'
            go_simp
            with_reducible rfl
          rotate_left
          · simp only [Act.put, List.setIfInBounds_toArray, List.set_cons_zero, List.set_cons_succ, i64_w, i32_w]
            rfl
          refine pure_ (i := 2) (N := some 59) (v := ?_) (a' := ?_) #[t_,t_,t_,f_,f_,f_,f_,f_,f_,f_,f_,f_,f_,f_,f_,f_,f_,f_,f_,f_,f_] rfl rfl (by kernel_rfl) (fun _ _ _ h => h) (Or.inl ⟨by rfl, ?_⟩) ?_ ?_
          rotate_left
          · intro w'
            go_simp
            with_reducible rfl
          rotate_left
          · simp only [Act.put, List.setIfInBounds_toArray, List.set_cons_zero, List.set_cons_succ, i64_w, i32_w]
            rfl
          refine take_ (i := 3) (N := some 60) (v := ?_) (a' := ?_) #[t_,t_,t_,t_,f_,f_,f_,f_,f_,f_,f_,f_,f_,f_,f_,f_,f_,f_,f_,f_,f_] rfl rfl (by kernel_rfl) (fun _ _ _ h => h) (Or.inl ⟨by rfl, ?_⟩) hHeld ?_ ?_
          rotate_left
          · intro w' s0
            go_simp
            with_reducible rfl
          rotate_left
          · simp only [Act.put, List.setIfInBounds_toArray, List.set_cons_zero, List.set_cons_succ, i64_w, i32_w]
            rfl
          refine pure_ (i := 4) (N := some 61) (v := ?_) (a' := ?_) #[t_,t_,t_,t_,t_,f_,f_,f_,f_,f_,f_,f_,f_,f_,f_,f_,f_,f_,f_,f_,f_] rfl rfl (by kernel_rfl) (fun _ _ _ h => h) (Or.inl ⟨by rfl, ?_⟩) ?_ ?_
          rotate_left
          · intro w'
            go_simp
            with_reducible rfl
          rotate_left
          · simp only [Act.put, List.setIfInBounds_toArray, List.set_cons_zero, List.set_cons_succ, i64_w, i32_w]
            rfl
          refine pure_ (i := 5) (N := some 62) (v := undef) (a' := ?_) #[t_,t_,t_,t_,t_,t_,f_,f_,f_,f_,f_,f_,f_,f_,f_,f_,f_,f_,f_,f_,f_] rfl rfl (by kernel_rfl) (fun _ _ _ h => h) (Or.inr ⟨by rfl, rfl⟩) ?_ ?_
          rotate_left
          · simp only [Act.put, List.setIfInBounds_toArray, List.set_cons_zero, List.set_cons_succ, i64_w, i32_w]
            rfl
          refine pure_ (i := 6) (N := some 63) (v := undef) (a' := ?_) #[t_,t_,t_,t_,t_,t_,t_,f_,f_,f_,f_,f_,f_,f_,f_,f_,f_,f_,f_,f_,f_] rfl rfl (by kernel_rfl) (fun _ _ _ h => h) (Or.inr ⟨by rfl, rfl⟩) ?_ ?_
          rotate_left
          · simp only [Act.put, List.setIfInBounds_toArray, List.set_cons_zero, List.set_cons_succ, i64_w, i32_w]
            rfl
          refine pure_ (i := 7) (N := some 64) (v := undef) (a' := ?_) #[t_,t_,t_,t_,t_,t_,t_,t_,f_,f_,f_,f_,f_,f_,f_,f_,f_,f_,f_,f_,f_] rfl rfl (by kernel_rfl) (fun _ _ _ h => h) (Or.inr ⟨by rfl, rfl⟩) ?_ ?_
          rotate_left
          · simp only [Act.put, List.setIfInBounds_toArray, List.set_cons_zero, List.set_cons_succ, i64_w, i32_w]
            rfl
          refine pure_ (i := 8) (N := some 65) (v := undef) (a' := ?_) #[t_,t_,t_,t_,t_,t_,t_,t_,t_,f_,f_,f_,f_,f_,f_,f_,f_,f_,f_,f_,f_] rfl rfl (by kernel_rfl) (fun _ _ _ h => h) (Or.inr ⟨by rfl, rfl⟩) ?_ ?_
          rotate_left
          · simp only [Act.put, List.setIfInBounds_toArray, List.set_cons_zero, List.set_cons_succ, i64_w, i32_w]
            rfl
          refine pure_ (i := 9) (N := some 66) (v := undef) (a' := ?_) #[t_,t_,t_,t_,t_,t_,t_,t_,t_,t_,f_,f_,f_,f_,f_,f_,f_,f_,f_,f_,f_] rfl rfl (by kernel_rfl) (fun _ _ _ h => h) (Or.inr ⟨by rfl, rfl⟩) ?_ ?_
          rotate_left
          · simp only [Act.put, List.setIfInBounds_toArray, List.set_cons_zero, List.set_cons_succ, i64_w, i32_w]
            rfl
          refine pure_ (i := 10) (N := some 67) (v := undef) (a' := ?_) #[t_,t_,t_,t_,t_,t_,t_,t_,t_,t_,t_,f_,f_,f_,f_,f_,f_,f_,f_,f_,f_] rfl rfl (by kernel_rfl) (fun _ _ _ h => h) (Or.inr ⟨by rfl, rfl⟩) ?_ ?_
          rotate_left
          · simp only [Act.put, List.setIfInBounds_toArray, List.set_cons_zero, List.set_cons_succ, i64_w, i32_w]
            rfl
          refine pure_ (i := 11) (N := some 68) (v := undef) (a' := ?_) #[t_,t_,t_,t_,t_,t_,t_,t_,t_,t_,t_,t_,f_,f_,f_,f_,f_,f_,f_,f_,f_] rfl rfl (by kernel_rfl) (fun _ _ _ h => h) (Or.inr ⟨by rfl, rfl⟩) ?_ ?_
          rotate_left
          · simp only [Act.put, List.setIfInBounds_toArray, List.set_cons_zero, List.set_cons_succ, i64_w, i32_w]
            rfl
          refine pure_ (i := 12) (N := some 69) (v := undef) (a' := ?_) #[t_,t_,t_,t_,t_,t_,t_,t_,t_,t_,t_,t_,t_,f_,f_,f_,f_,f_,f_,f_,f_] rfl rfl (by kernel_rfl) (fun _ _ _ h => h) (Or.inr ⟨by rfl, rfl⟩) ?_ ?_
          rotate_left
          · simp only [Act.put, List.setIfInBounds_toArray, List.set_cons_zero, List.set_cons_succ, i64_w, i32_w]
            rfl
          refine pure_ (i := 13) (N := some 70) (v := undef) (a' := ?_) #[t_,t_,t_,t_,t_,t_,t_,t_,t_,t_,t_,t_,t_,t_,f_,f_,f_,f_,f_,f_,f_] rfl rfl (by kernel_rfl) (fun _ _ _ h => h) (Or.inr ⟨by rfl, rfl⟩) ?_ ?_
          rotate_left
          · simp only [Act.put, List.setIfInBounds_toArray, List.set_cons_zero, List.set_cons_succ, i64_w, i32_w]
            rfl
          refine pure_ (i := 14) (N := some 71) (v := undef) (a' := ?_) #[t_,t_,t_,t_,t_,t_,t_,t_,t_,t_,t_,t_,t_,t_,t_,f_,f_,f_,f_,f_,f_] rfl rfl (by kernel_rfl) (fun _ _ _ h => h) (Or.inr ⟨by rfl, rfl⟩) ?_ ?_
          rotate_left
          · simp only [Act.put, List.setIfInBounds_toArray, List.set_cons_zero, List.set_cons_succ, i64_w, i32_w]
            rfl
          refine pure_ (i := 15) (N := some 72) (v := ?_) (a' := ?_) #[t_,t_,t_,t_,t_,t_,t_,t_,t_,t_,t_,t_,t_,t_,t_,t_,f_,f_,f_,f_,f_] rfl rfl (by kernel_rfl) (fun _ _ _ h => h) (Or.inl ⟨by rfl, ?_⟩) ?_ ?_
          rotate_left
          · intro w'
            go_simp
            with_reducible rfl
          rotate_left
          · simp only [Act.put, List.setIfInBounds_toArray, List.set_cons_zero, List.set_cons_succ, i64_w, i32_w]
            rfl
          refine pure_ (i := 16) (N := some 73) (v := ?_) (a' := ?_) #[t_,t_,t_,t_,t_,t_,t_,t_,t_,t_,t_,t_,t_,t_,t_,t_,t_,f_,f_,f_,f_] rfl rfl (by kernel_rfl) (fun _ _ _ h => h) (Or.inl ⟨by rfl, ?_⟩) ?_ ?_
          rotate_left
          · intro w'
            go_simp
            with_reducible rfl
          rotate_left
          · simp only [Act.put, List.setIfInBounds_toArray, List.set_cons_zero, List.set_cons_succ, i64_w, i32_w]
            rfl
          refine pure_ (i := 17) (N := some 74) (v := undef) (a' := ?_) #[t_,t_,t_,t_,t_,t_,t_,t_,t_,t_,t_,t_,t_,t_,t_,t_,t_,t_,f_,f_,f_] rfl rfl (by kernel_rfl) (fun _ _ _ h => h) (Or.inr ⟨by rfl, rfl⟩) ?_ ?_
          rotate_left
          · simp only [Act.put, List.setIfInBounds_toArray, List.set_cons_zero, List.set_cons_succ, i64_w, i32_w]
            rfl
          refine pure_ (i := 18) (N := some 75) (v := undef) (a' := ?_) #[t_,t_,t_,t_,t_,t_,t_,t_,t_,t_,t_,t_,t_,t_,t_,t_,t_,t_,t_,f_,f_] rfl rfl (by kernel_rfl) (fun _ _ _ h => h) (Or.inr ⟨by rfl, rfl⟩) ?_ ?_
          rotate_left
          · simp only [Act.put, List.setIfInBounds_toArray, List.set_cons_zero, List.set_cons_succ, i64_w, i32_w]
            rfl
          refine pure_ (i := 19) (N := some 76) (v := undef) (a' := ?_) #[t_,t_,t_,t_,t_,t_,t_,t_,t_,t_,t_,t_,t_,t_,t_,t_,t_,t_,t_,t_,f_] rfl rfl (by kernel_rfl) (fun _ _ _ h => h) (Or.inr ⟨by rfl, rfl⟩) ?_ ?_
          rotate_left
          · simp only [Act.put, List.setIfInBounds_toArray, List.set_cons_zero, List.set_cons_succ, i64_w, i32_w]
            rfl
          refine pure_ (i := 20) (N := some 77) (v := ?_) (a' := ?_) #[t_,t_,t_,t_,t_,t_,t_,t_,t_,t_,t_,t_,t_,t_,t_,t_,t_,t_,t_,t_,t_] rfl rfl (by kernel_rfl) (fun _ _ _ h => h) (Or.inl ⟨by rfl, ?_⟩) ?_ ?_
          rotate_left
          · intro w'
            go_simp
            with_reducible rfl
          rotate_left
          · simp only [Act.put, List.setIfInBounds_toArray, List.set_cons_zero, List.set_cons_succ, i64_w, i32_w]
            rfl
          refine done_ (by kernel_rfl) ?_
          have f0 := PAll.blk_frozen HBZ.out 0
          have f1 := PAll.blk_frozen HBZ.out 1
          have f2 := PAll.blk_frozen HBZ.out 2
          have e0 : wB.cell? ⟨w.heap.size, 0, none⟩ = some (.int .i64 0) := PAll.blk_cell HBZ.out 0
          have e1 : wB.cell? ⟨w.heap.size, 1, none⟩ = some (.int .i64 0) := PAll.blk_cell HBZ.out 1
          have e2 : wB.cell? ⟨w.heap.size, 2, none⟩ = some (.slice none 0 0) := PAll.blk_cell HBZ.out 2
          go_wp2_with (fail)
          have z := st3_blk HBZ.out (.int .i64 0) (.int .i64 0) (.slice none 0 0)
          have zB := ((HBW.out.setCell (p := ⟨w.heap.size, 0, none⟩) (Nat.le_refl _) (.int .i64 0)).setCell (p := ⟨w.heap.size, 1, none⟩) (Nat.le_refl _) (.int .i64 0)).setCell (p := ⟨w.heap.size, 2, none⟩) (Nat.le_refl _) (.slice none 0 0)
          generalize ((wB.setCell ⟨w.heap.size, 0, none⟩ (.int .i64 0)).setCell ⟨w.heap.size, 1, none⟩ (.int .i64 0)).setCell ⟨w.heap.size, 2, none⟩ (.slice none 0 0) = wz at *
          have d0 : wz.cell? ⟨w.heap.size, 0, none⟩ = some (.int .i64 0) := PAll.blk_cell z 0
          have d1 : wz.cell? ⟨w.heap.size, 1, none⟩ = some (.int .i64 0) := PAll.blk_cell z 1
          have d2 : wz.cell? ⟨w.heap.size, 2, none⟩ = some (.slice none 0 0) := PAll.blk_cell z 2
          refine bodyPost_ret (v := .tuple #[.agg #[.int .i64 0, .int .i64 0, .slice none 0 0], .int .i64 80]) (by simp [results, Try.results20, go_sem, d0, d1, d2]) rfl ⟨_, rfl, Kd.R_nil _ _ _ _ _, zB⟩
end Go.Proofs.Ytafmdlegelbfpaa.Pure
