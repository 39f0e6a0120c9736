import Derived.Test.YtkmbbipempbilaaPAllx13
import Derived.Test.YtkmbbipempbilaaPureCodeBack
/-! CodeCuts: what it computes is true. -/
namespace Go.Proofs.Ytkmbbipempbilaa.Pure
set_option linter.unusedVariables false
set_option linter.unusedSimpArgs false
open Go Go.RowKit Go.Proofs.Ytkmbbipempbilaa.PAll Go.Proofs.YtkmbbipempbilaaW.PrintWords Go.Proofs.YtkmbbipempbilaaW.PrintLast Go.Proofs.Ytkmbbipempbilaa.Bytes Go.Proofs.Ytkmbbipempbilaa.Fn

theorem fld_short (c : UInt8) (hc : ¬ (c ≠ 78 ∧ c ≠ 84)) (n : Nat) (hn : n < 256 ^ 8) (t : List UInt8) (k : Nat) (hk0 : 0 < k) (hk : k < (c :: num n ++ t).length)
    (h78 : c = 78 → t = []) (h84 : c ≠ 78 → n = t.length ∧ n ≤ 262144) : fld ((c :: num n ++ t).take k) = .error 11 := by
  have h8 := digs_length 8 n hn
  have hm : (UInt8.ofNat (digs n).length).toNat = (digs n).length := by rw [UInt8.toNat_ofNat']; omega
  simp only [List.cons_append, List.length_cons, List.length_append, num_length] at hk
  match k, hk0 with
  | 1, _ =>
    show fld [c] = _
    simp only [fld]
    rw [if_neg hc]
  | k + 2, _ =>
    by_cases hd : k < (digs n).length
    · show fld (c :: UInt8.ofNat (digs n).length :: (digs n ++ t).take k) = _
      simp only [fld, hm]
      rw [if_neg hc, if_neg (by omega), if_pos (by rw [List.length_take, List.length_append]; omega)]
    · have e : (c :: num n ++ t).take (k + 2) = c :: num n ++ t.take (k - (digs n).length) := by
        show c :: UInt8.ofNat (digs n).length :: (digs n ++ t).take k = _
        rw [List.take_append, List.take_of_length_le (by omega)]
        rfl
      rw [e, fld_num c hc n hn]
      by_cases h7 : c = 78
      · have := h78 h7
        subst this
        simp at hk
        omega
      · obtain ⟨h1, h2⟩ := h84 h7
        rw [if_neg h7, if_neg (by omega), if_pos (by rw [List.length_take]; omega)]

theorem fld_cut {x : S35} (hs : x.f0 = true → x.f2.size ≤ 262144) (c : Nat) (h0 : 0 < c) (h : c < (one x).length) : fld ((one x).take c) = .error 11 := by
  unfold one at h ⊢
  by_cases hx : x.f0 = true
  · rw [if_pos hx] at h ⊢
    have := hs hx
    exact fld_short 84 (by decide) _ (by omega) _ c h0 h (fun e => absurd e (by decide)) (fun _ => ⟨by rw [L_length], this⟩)
  · rw [if_neg hx] at h ⊢
    have := fld_short 78 (by decide) (u64 x.f1) (u64_lt _) [] c h0 (by simpa using h) (fun _ => rfl) (fun e => absurd rfl e)
    simpa using this

/-- What the beginning of a list's bytes comes to: c bytes, of tot in all. -/
def cutR (tot : Nat) : List S35 → List S35 → Nat → List S35 × Int × Int
  | acc, [], _ => (acc, 0, 0)
  | acc, x :: l, c => if c = 0 then (acc, 0, 0) else if c < (one x).length then ([], (tot : Int) - (c : Int), 11) else cutR tot (acc ++ [x]) l (c - (one x).length)
theorem dec_cut (tot : Nat) : ∀ (l acc : List S35) (n c : Nat), fit l → c ≤ (enc l).length → c ≤ n → acc.length + l.length ≤ 4096 → dec tot n acc ((enc l).take c) = cutR tot acc l c := by
  intro l
  induction l with
  | nil =>
    intro acc n c _ hc _ _
    rw [enc_nil] at hc ⊢
    rw [List.take_nil]
    cases n <;> rfl
  | cons x l ih =>
    intro acc n c hf hc hn hl
    simp only [List.length_cons] at hl
    rcases Nat.eq_zero_or_pos c with rfl | h0
    · rw [List.take_zero]
      have : cutR tot acc (x :: l) 0 = (acc, 0, 0) := by simp [cutR]
      rw [this]
      cases n <;> rfl
    · obtain ⟨hx1, hx2, hx3⟩ := hf x (by simp)
      have hlen := one_length_pos x
      obtain ⟨n, rfl⟩ : ∃ j, n = j + 1 := ⟨n - 1, by omega⟩
      simp only [cutR]
      rw [if_neg (by omega)]
      by_cases hlt : c < (one x).length
      · rw [if_pos hlt]
        have e : (enc (x :: l)).take c = (one x).take c := by rw [enc_cons, List.take_append_of_le_length (by omega)]
        have hfc := fld_cut hx3 c h0 hlt
        have hne : ((one x).take c).length = c := by rw [List.length_take]; omega
        rw [e]
        cases hq : (one x).take c with
        | nil => rw [hq] at hne; simp at hne; omega
        | cons b r =>
          rw [hq] at hfc hne
          simp only [dec]
          rw [if_neg (by omega), hfc]
          simp only
          rw [hne]
      · rw [if_neg hlt]
        have e : (enc (x :: l)).take c = one x ++ (enc l).take (c - (one x).length) := by rw [enc_cons, List.take_append, List.take_of_length_le (by omega)]
        have hfo := fld_one x hx1 hx2 hx3 ((enc l).take (c - (one x).length))
        rw [enc_cons, List.length_append] at hc
        rw [e]
        cases hq : one x ++ (enc l).take (c - (one x).length) with
        | nil => rw [List.append_eq_nil_iff] at hq; rw [hq.1] at hlen; simp at hlen
        | cons b r =>
          rw [hq] at hfo
          simp only [dec]
          rw [if_neg (by omega), hfo]
          simp only
          exact ih (acc ++ [x]) n _ (fun y hy => hf y (by simp [hy])) (by omega) (by omega) (by simp; omega)

/-- The loop's own text. -/
theorem cuts_eq (k : Nat) (x0 : List S35) (x7 : Int) (x8 : List S35) (x10 x11 x296000 x296001 : Int) : skylarklaw01_CodeCuts.l0 (k + 1) x0 x7 x8 x10 x11 x296000 x296001 = (if x10 < (x0.length : Int) then (if 0 ≤ x10 then (if x10 ≤ (wrap64 (x10 + 1)) then (if (wrap64 (x10 + 1)) ≤ (x0.length : Int) then ((code_Encode.f k ((x0.take ((wrap64 (x10 + 1)) : Int).toNat).drop (x10 : Int).toNat)).bind fun bt300 => (if (wrap64 (x11 + (bt300.1.size : Int))) > x7 then (if x11 = x7 then (if (x296000 == 0 && (x296001 == 0)) = true then (if x10 ≤ (x0.length : Int) then ((skylarkbook_SameFields.f k x8 (x0.take (x10 : Int).toNat)).bind fun t306 => (some t306)) else (none)) else (some false)) else (if (x296000 == x11 && (x296001 == 11)) = true then (some ((x8.length : Int) == 0)) else (some false))) else (skylarklaw01_CodeCuts.l0 k x0 x7 x8 (wrap64 (x10 + 1)) (wrap64 (x11 + (bt300.1.size : Int))) x296000 x296001))) else (none)) else (none)) else (none)) else (if x11 = x7 then (if (x296000 == 0 && (x296001 == 0)) = true then (if 0 ≤ x10 then (if x10 ≤ (x0.length : Int) then ((skylarkbook_SameFields.f k x8 (x0.take (x10 : Int).toNat)).bind fun t311 => (some t311)) else (none)) else (none)) else (some false)) else (if (x296000 == x11 && (x296001 == 11)) = true then (some ((x8.length : Int) == 0)) else (some false)))) := by
  rw [skylarklaw01_CodeCuts.l0]
/-- What a round of the loop says. -/
theorem cuts_step (l pre : List S35) (x : S35) (c : Nat) (x8 : List S35) (a e : Int) (k : Nat) (hlp : pre.length < l.length) (hl : l.length ≤ 60) (hx : (l.take (pre.length + 1)).drop pre.length = [x]) (htk : l.take pre.length = pre)
    (s : ByteArray) (hs : s.size = (one x).length) (h1 : code_Encode.f k [x] = some (s, 0)) (hb : (enc pre).length + (one x).length ≤ 20000) :
    skylarklaw01_CodeCuts.l0 (k + 1) l (c : Int) x8 (pre.length : Int) ((enc pre).length : Int) a e = (if ((enc pre).length : Int) + ((one x).length : Int) > (c : Int) then (if ((enc pre).length : Int) = (c : Int) then (if (a == 0 && (e == 0)) = true then ((skylarkbook_SameFields.f k x8 pre).bind fun t306 => (some t306)) else (some false)) else (if (a == ((enc pre).length : Int) && (e == 11)) = true then (some ((x8.length : Int) == 0)) else (some false))) else (skylarklaw01_CodeCuts.l0 k l (c : Int) x8 ((pre.length : Int) + 1) (((enc pre).length : Int) + ((one x).length : Int)) a e)) := by
  have w1 : wrap64 ((pre.length : Int) + 1) = (pre.length : Int) + 1 := wrap64_id (by omega) (by omega)
  have e1 : ((pre.length : Int) + 1).toNat = pre.length + 1 := by omega
  have w2 : wrap64 (((enc pre).length : Int) + ((one x).length : Int)) = ((enc pre).length : Int) + ((one x).length : Int) := wrap64_id (by omega) (by omega)
  have q1 : (pre.length : Int) < (l.length : Int) := by omega
  have q2 : 0 ≤ (pre.length : Int) := by omega
  have q3 : (pre.length : Int) ≤ (pre.length : Int) + 1 := by omega
  have q4 : (pre.length : Int) + 1 ≤ (l.length : Int) := by omega
  have q5 : (pre.length : Int) ≤ (l.length : Int) := by omega
  rw [cuts_eq, if_pos q1, if_pos q2, w1, if_pos q3, if_pos q4, e1, Int.toNat_natCast, hx, h1, Option.bind_some]
  dsimp only
  rw [hs, w2, htk, if_pos q5]

theorem cuts_l0 (l : List S35) (hf : fit l) (hl : l.length ≤ 60) (hn : (enc l).length ≤ 20000) (c : Nat) (hc : c ≤ (enc l).length) : ∀ (rest pre : List S35) (x8 : List S35) (a e : Int), l = pre ++ rest → (enc pre).length ≤ c →
    cutR c pre rest (c - (enc pre).length) = (x8, a, e) → Ev (fun k => skylarklaw01_CodeCuts.l0 k l (c : Int) x8 (pre.length : Int) ((enc pre).length : Int) a e) true := by
  intro rest
  induction rest with
  | nil =>
    intro pre x8 a e hp hq hr
    rw [List.append_nil] at hp
    subst hp
    have hcc : c = (enc l).length := by omega
    obtain ⟨rfl, rfl, rfl⟩ : l = x8 ∧ 0 = a ∧ 0 = e := by simpa [cutR] using hr
    obtain ⟨K, hs⟩ := same_f l (by omega)
    dsimp only at hs
    refine ⟨K + 1, fun k hk => ?_⟩
    obtain ⟨k, rfl⟩ : ∃ j, k = j + 1 := ⟨k - 1, by omega⟩
    have q1 : ¬ ((l.length : Int) < (l.length : Int)) := by omega
    have q2 : ((enc l).length : Int) = (c : Int) := by omega
    have q3 : 0 ≤ (l.length : Int) := by omega
    have q4 : (l.length : Int) ≤ (l.length : Int) := by omega
    have q5 : ((0 : Int) == 0 && (0 : Int) == 0) = true := by decide
    show skylarklaw01_CodeCuts.l0 (k + 1) l (c : Int) l (l.length : Int) ((enc l).length : Int) 0 0 = some true
    rw [cuts_eq, if_neg q1, if_pos q2, if_pos q5, if_pos q3, if_pos q4, Int.toNat_natCast, List.take_length, hs k (by omega)]
    rfl
  | cons x rest ih =>
    intro pre x8 a e hp hq hr
    have hlp : pre.length < l.length := by rw [hp]; simp
    have hen : (enc l).length = (enc pre).length + ((one x).length + (enc rest).length) := by rw [hp, enc_append, enc_cons, List.length_append, List.length_append]
    have hlen := one_length_pos x
    have hx : (l.take (pre.length + 1)).drop pre.length = [x] := by
      rw [hp, List.take_append, List.take_of_length_le (by omega), List.drop_append]
      simp
    have hfx : fit [x] := fun y hy => by simp at hy; subst hy; exact hf y (by rw [hp]; simp)
    have hex : enc [x] = one x := by simp [enc]
    have hef := encode_fit hfx (by simp) (by rw [hex]; omega)
    obtain ⟨K1, h1⟩ := encode_f [x] (wide_of_fit hfx (by rw [hex]; omega))
    rw [hef] at h1
    have htk : l.take pre.length = pre := by rw [hp]; exact List.take_left
    obtain ⟨K2, h2⟩ := same_f pre (by omega)
    dsimp only at h1 h2
    have hs1 : (strOfNums (I (enc [x]))).size = (one x).length := by rw [← L_length, strOf_I, hex]
    have head := fun k (hk : K1 ≤ k) => cuts_step l pre x c x8 a e k hlp hl hx htk _ hs1 (h1 k hk) (by omega)
    by_cases hz : c = (enc pre).length
    · have er : cutR c pre (x :: rest) (c - (enc pre).length) = (pre, 0, 0) := by simp only [cutR]; rw [if_pos (by omega)]
      rw [er] at hr
      obtain ⟨rfl, rfl, rfl⟩ : pre = x8 ∧ 0 = a ∧ 0 = e := by simpa using hr
      refine ⟨max K1 K2 + 1, fun k hk => ?_⟩
      obtain ⟨k, rfl⟩ : ∃ j, k = j + 1 := ⟨k - 1, by omega⟩
      have q1 : ((enc pre).length : Int) + ((one x).length : Int) > (c : Int) := by omega
      have q2 : ((enc pre).length : Int) = (c : Int) := by omega
      have q5 : ((0 : Int) == 0 && (0 : Int) == 0) = true := by decide
      dsimp only
      rw [head k (by omega), if_pos q1, if_pos q2, if_pos q5, h2 k (by omega)]
      rfl
    · by_cases hlt : c - (enc pre).length < (one x).length
      · have er : cutR c pre (x :: rest) (c - (enc pre).length) = ([], ((enc pre).length : Int), 11) := by
          simp only [cutR]
          rw [if_neg (by omega), if_pos hlt]
          congr 2
          omega
        rw [er] at hr
        obtain ⟨rfl, rfl, rfl⟩ : [] = x8 ∧ ((enc pre).length : Int) = a ∧ 11 = e := by simpa using hr
        refine ⟨K1 + 1, fun k hk => ?_⟩
        obtain ⟨k, rfl⟩ : ∃ j, k = j + 1 := ⟨k - 1, by omega⟩
        have q1 : ((enc pre).length : Int) + ((one x).length : Int) > (c : Int) := by omega
        have q2 : ¬ (((enc pre).length : Int) = (c : Int)) := by omega
        dsimp only
        rw [head k (by omega), if_pos q1, if_neg q2]
        simp
      · have er : cutR c pre (x :: rest) (c - (enc pre).length) = cutR c (pre ++ [x]) rest (c - (enc (pre ++ [x])).length) := by
          conv => lhs; unfold cutR
          rw [if_neg (by omega), if_neg hlt, enc_append, hex, List.length_append, Nat.sub_sub]
        rw [er] at hr
        obtain ⟨K3, h3⟩ := ih (pre ++ [x]) x8 a e (by rw [hp]; simp) (by rw [enc_append, hex, List.length_append]; omega) hr
        dsimp only at h3
        refine ⟨max K1 K3 + 1, fun k hk => ?_⟩
        obtain ⟨k, rfl⟩ : ∃ j, k = j + 1 := ⟨k - 1, by omega⟩
        have q1 : ¬ (((enc pre).length : Int) + ((one x).length : Int) > (c : Int)) := by omega
        dsimp only
        rw [head k (by omega), if_neg q1]
        have := h3 k (by omega)
        rw [show ((pre ++ [x]).length : Int) = (pre.length : Int) + 1 by simp, show ((enc (pre ++ [x])).length : Int) = ((enc pre).length : Int) + ((one x).length : Int) by rw [enc_append, hex, List.length_append]; omega] at this
        exact this

theorem cuts_t (l : List S35) (a : Int) (s : ByteArray) : Ev (fun k => skylarklaw01_CodeCuts.j0 k l a s true) true := by
  refine ⟨1, fun k hk => ?_⟩
  obtain ⟨k, rfl⟩ : ∃ j, k = j + 1 := ⟨k - 1, by omega⟩
  unfold skylarklaw01_CodeCuts.j0
  rfl
theorem u64w (a : Int) : IntKind.u64.wrap a = a % 18446744073709551616 := by simp [IntKind.wrap, IntKind.bits, IntKind.signed]
theorem cuts_f (l : List S35) (a : Int) (hf : fit l) (hl : l.length ≤ 60) (hn : (enc l).length ≤ 20000) : Ev (fun k => skylarklaw01_CodeCuts.j0 k l a (strOfNums (I (enc l))) false) true := by
  have hs : (strOfNums (I (enc l))).size = (enc l).length := by rw [← L_length, strOf_I]
  have w1 : wrap64 (((enc l).length : Int) + 1) = ((enc l).length : Int) + 1 := wrap64_id (by omega) (by omega)
  have w2 : IntKind.u64.wrap (((enc l).length : Int) + 1) = ((enc l).length : Int) + 1 := by rw [u64w]; omega
  have hb0 := Int.tmod_nonneg (((enc l).length : Int) + 1) (show 0 ≤ IntKind.u64.wrap a by rw [u64w]; omega)
  have hb1 := Int.tmod_lt_of_pos (IntKind.u64.wrap a) (show 0 < ((enc l).length : Int) + 1 by omega)
  have w3 : wrap64 (Int.tmod (IntKind.u64.wrap a) (((enc l).length : Int) + 1)) = Int.tmod (IntKind.u64.wrap a) (((enc l).length : Int) + 1) := wrap64_id (by omega) (by omega)
  obtain ⟨c, hc⟩ : ∃ c : Nat, Int.tmod (IntKind.u64.wrap a) (((enc l).length : Int) + 1) = (c : Int) := ⟨_, (Int.toNat_of_nonneg hb0).symm⟩
  rw [hc] at w3 hb0 hb1
  have hcl : c ≤ (enc l).length := by omega
  have hLc : L ((strOfNums (I (enc l))).extract 0 c) = (enc l).take c := by rw [L_extract, strOf_I, List.drop_zero]
  have hd : Fn.decode ((strOfNums (I (enc l))).extract 0 c) = cutR c [] l c := by
    have h1 : ((enc l).take c).length = c := by rw [List.length_take]; omega
    unfold Fn.decode
    rw [hLc, h1, if_neg (by omega), dec_cut c l [] c c hf hcl (Nat.le_refl _) (by simp; omega)]
  obtain ⟨K1, h1⟩ := decode_f ((strOfNums (I (enc l))).extract 0 c)
  obtain ⟨K2, h2⟩ := cuts_l0 l hf hl hn c hcl l [] (cutR c [] l c).1 (cutR c [] l c).2.1 (cutR c [] l c).2.2 rfl (by simp [enc_nil]) rfl
  dsimp only at h1 h2
  refine ⟨max K1 K2 + 1, fun k hk => ?_⟩
  obtain ⟨k, rfl⟩ : ∃ j, k = j + 1 := ⟨k - 1, by omega⟩
  have q0 : ¬ (((enc l).length : Int) + 1 = 0) := by omega
  have q1 : 0 ≤ (c : Int) := by omega
  have q2 : (c : Int) ≤ ((enc l).length : Int) := by omega
  have hh := h2 k (by omega)
  unfold skylarklaw01_CodeCuts.j0
  simp only [Bool.false_eq_true, if_false, hs, w1, w2, hc, w3, if_neg q0, if_pos q1, if_pos q2, Int.toNat_natCast, h1 k (by omega), hd, Option.bind_some]
  exact hh

theorem CodeCuts (l : List S35) (hw : Wide l) (hl : l.length ≤ 9223372036854775806) (a : Int) : ∃ k, skylarklaw01_CodeCuts.f k l a = some true := by
  obtain ⟨K1, h1⟩ := works_f
  obtain ⟨K2, h2⟩ := encode_f l (fun x hx => (hw x hx).2)
  obtain ⟨K3, h3⟩ := cuts_t l a (encode l).1
  dsimp only at h1 h2 h3
  by_cases hall : (encode l).2 = 0 ∧ l.length ≤ 60 ∧ (enc l).length ≤ 20000
  · obtain ⟨e1, e2, e3⟩ := hall
    obtain ⟨_, _, _, q⟩ := encode_ok e1
    obtain ⟨K4, h4⟩ := cuts_f l a (fit_of hw e1) e2 e3
    dsimp only at h4
    have hs : (strOfNums (I (enc l))).size = (enc l).length := by rw [← L_length, strOf_I]
    refine ⟨max K1 (max K2 K4), ?_⟩
    unfold skylarklaw01_CodeCuts.f
    rw [h1 _ (by omega)]
    simp only [Option.bind_some, if_true]
    rw [h2 _ (by omega)]
    simp only [Option.bind_some]
    rw [if_pos e1, if_neg (by omega), q, hs, decide_eq_false (by omega)]
    exact h4 _ (by omega)
  · refine ⟨max K1 (max K2 K3), ?_⟩
    unfold skylarklaw01_CodeCuts.f
    rw [h1 _ (by omega)]
    simp only [Option.bind_some, if_true]
    rw [h2 _ (by omega)]
    simp only [Option.bind_some]
    by_cases e1 : (encode l).2 = 0
    · obtain ⟨_, _, _, q⟩ := encode_ok e1
      have hs : (encode l).1.size = (enc l).length := by rw [q, ← L_length, strOf_I]
      rw [if_pos e1]
      by_cases e2 : (l.length : Int) > 60
      · rw [if_pos e2]
        exact h3 _ (by omega)
      · rw [if_neg e2, hs, decide_eq_true (by omega)]
        exact h3 _ (by omega)
    · rw [if_neg e1]
      exact h3 _ (by omega)

theorem cuts_walk (A0 : Option Addr) (len0 cap0 : Nat) (rows0 : List (List Value)) (a1 : Int) (w : World)
    (w0 : Open.Rows w [.bool, .int .i64, .str] A0 len0 cap0 rows0) (y0 : len0 * Try.prog.bytesOf 35 ≤ 140737488351232) (w1 : (Lit.int .i64 a1).wf = true) :
    Calls Try.prog 7 #[.slice A0 len0 cap0, .int .i64 a1] w fun e w' => e = .returned (.bool true) ∧ Below w.heap.size w w' := by
  obtain ⟨xs, rfl, hC, hc, hw⟩ := lists_of w0
  have hb : Try.prog.bytesOf 35 = 32 := by kernel_rfl
  rw [hb] at y0
  obtain ⟨k, hk⟩ := CodeCuts xs hw (by omega) a1
  exact skylarklaw01_CodeCuts.calls k A0 cap0 xs a1 true w hC hc hk
end Go.Proofs.Ytkmbbipempbilaa.Pure
