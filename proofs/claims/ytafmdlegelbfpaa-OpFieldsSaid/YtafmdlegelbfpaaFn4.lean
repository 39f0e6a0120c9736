-- written by a program of ours (a template of wip/pure, filled for this seat)
import Derived.Test.YtafmdlegelbfpaaPAllx0
import Derived.Test.YtafmdlegelbfpaaPAllx1062
import Derived.Test.YtafmdlegelbfpaaFn3
/-! What the functions of package code come to: Decode; Sum; the chapter's examples. -/
namespace Go.Proofs.Ytafmdlegelbfpaa.Fn
set_option linter.unusedVariables false
set_option linter.unusedSimpArgs false
open Go.RowKit Go.Proofs.YtafmdlegelbfpaaW.PrintWords Go.Proofs.Ytafmdlegelbfpaa.PAll Go.Proofs.Ytafmdlegelbfpaa.Bytes

def dec (tot : Nat) : Nat → List S110 → List UInt8 → List S110 × Int × Int
  | _, acc, [] => (acc, 0, 0)
  | 0, acc, _ :: _ => (acc, 0, 0)
  | n + 1, acc, c :: l =>
    if acc.length = 4096 then ([], (tot : Int) - ((c :: l).length : Int), 2)
    else match fld (c :: l) with
      | .error e => ([], (tot : Int) - ((c :: l).length : Int), e)
      | .ok (x, r) => dec tot n (acc ++ [x]) r
/-- What Decode comes to. -/
def decode (b : ByteArray) : List S110 × Int × Int := if (L b).length > 262144 then ([], 0, 2) else dec (L b).length (L b).length [] (L b)
theorem fld_shorter {l : List UInt8} {x : S110} {r : List UInt8} (h : fld l = .ok (x, r)) : r.length < l.length := by
  have := fld_back h
  have h2 := one_length_pos x
  have := congrArg List.length this.1
  rw [List.length_append] at this
  omega

theorem decode_l0 (s : ByteArray) (hs : s.size ≤ 262144) : ∀ (n : Nat) (acc : List S110) (r : ByteArray), r.size ≤ n → r.size ≤ s.size → acc.length ≤ 4096 →
    Ev (fun k => code_Decode.l0 k s acc r) (dec s.size n acc (L r)) := by
  intro n
  induction n with
  | zero =>
    intro acc r hr _ _
    have hL : L r = [] := List.eq_nil_of_length_eq_zero (by rw [L_length]; omega)
    rw [hL]
    refine Ev.step (f := fun _ => some (acc, 0, 0)) (fun k => ?_) (Ev.now _)
    simp only [code_Decode.l0]
    rw [if_pos (by rw [toList_L, hL])]
  | succ n ih =>
    intro acc r hr hrs ha
    cases hL : L r with
    | nil =>
      refine Ev.step (f := fun _ => some (acc, 0, 0)) (fun k => ?_) (Ev.now _)
      simp only [code_Decode.l0]
      rw [if_pos (by rw [toList_L, hL])]
    | cons c l =>
      have hsz : r.size = (c :: l).length := by rw [← L_length, hL]
      have hpos : 0 < r.size := by rw [hsz]; simp
      have hw : wrap64 ((s.size : Int) - (r.size : Int)) = (s.size : Int) - ((c :: l).length : Int) := by rw [wrap64_id (by omega) (by omega), hsz]
      by_cases h4 : acc.length = 4096
      · refine Ev.step (f := fun _ => some (([] : List S110), (s.size : Int) - ((c :: l).length : Int), 2)) (fun k => ?_) (by simp only [dec]; rw [if_pos h4]; exact Ev.now _)
        simp only [code_Decode.l0]
        rw [if_neg (by rw [toList_L, hL]; simp), if_pos (by omega), hw]
      · obtain ⟨K1, h1⟩ := field_f r hpos
        rw [hL] at h1
        dsimp only at h1
        cases hf : fld (c :: l) with
        | error e =>
          have he := fld_err (by simp) hf
          refine ⟨K1 + 1, fun k hk => ?_⟩
          obtain ⟨k, rfl⟩ : ∃ m, k = m + 1 := ⟨k - 1, by omega⟩
          simp only [code_Decode.l0, dec]
          rw [if_neg (by rw [toList_L, hL]; simp), if_neg (by omega), h1 k (by omega), if_neg h4, hf, hw]
          simp only [fldR, hf, Option.bind_some]
          rw [if_neg (by omega)]
        | ok p =>
          obtain ⟨x, t⟩ := p
          have hsh := fld_shorter hf
          have hts : (⟨t.toArray⟩ : ByteArray).size = t.length := by rw [← L_length, L_mk]
          obtain ⟨K2, h2⟩ := ih (acc ++ [x]) ⟨t.toArray⟩ (by omega) (by omega) (by rw [List.length_append, List.length_singleton]; omega)
          rw [L_mk] at h2
          dsimp only at h2
          refine ⟨max K1 K2 + 1, fun k hk => ?_⟩
          obtain ⟨k, rfl⟩ : ∃ m, k = m + 1 := ⟨k - 1, by omega⟩
          simp only [code_Decode.l0, dec]
          rw [if_neg (by rw [toList_L, hL]; simp), if_neg (by omega), h1 k (by omega), if_neg h4, hf]
          simp only [fldR, hf, Option.bind_some]
          rw [if_pos trivial, if_pos (by omega)]
          exact h2 k (by omega)
theorem decode_f (b : ByteArray) : Ev (fun k => code_Decode.f k b) (decode b) := by
  unfold decode
  rw [L_length]
  by_cases h : b.size > 262144
  · rw [if_pos h]
    refine Ev.const fun k => ?_
    simp only [code_Decode.f]
    rw [if_pos (by omega)]
  · rw [if_neg h]
    obtain ⟨K, hk⟩ := decode_l0 b (by omega) b.size [] b (Nat.le_refl _) (Nat.le_refl _) (by simp)
    refine ⟨K, fun k hkk => ?_⟩
    simp only [code_Decode.f]
    rw [if_neg (by omega)]
    exact hk k hkk

/-- A list as Encode takes it, whole. -/
def fit (l : List S110) : Prop := ∀ x ∈ l, wfS x ∧ ok x = true ∧ (x.f0 = true → x.f2.size ≤ 262144)
theorem dec_enc (tot : Nat) : ∀ (l acc : List S110) (n : Nat), fit l → (enc l).length ≤ n → acc.length + l.length ≤ 4096 → dec tot n acc (enc l) = (acc ++ l, 0, 0) := by
  intro l
  induction l with
  | nil => intro acc n _ _ _; cases n <;> simp [enc, dec]
  | cons x l ih =>
    intro acc n hf hn ha
    have h2 := one_length_pos x
    rw [enc_cons, List.length_append] at hn
    rw [List.length_cons] at ha
    obtain ⟨n, rfl⟩ : ∃ m, n = m + 1 := ⟨n - 1, by omega⟩
    have hx := hf x (by simp)
    have hff := fld_one x hx.1 hx.2.1 hx.2.2 (enc l)
    rw [enc_cons]
    cases ho : one x with
    | nil => rw [ho] at h2; simp at h2
    | cons c t =>
      rw [ho] at hff hn
      rw [List.cons_append] at hff ⊢
      simp only [dec]
      rw [if_neg (by omega), hff]
      simp only []
      rw [ih (acc ++ [x]) n (fun y hy => hf y (by simp [hy])) (by rw [List.length_cons] at hn; omega) (by rw [List.length_append, List.length_singleton]; omega), List.append_assoc]
      rfl
theorem dec_back (tot : Nat) : ∀ (n : Nat) (acc : List S110) (l : List UInt8) (out : List S110) (a : Int), l.length ≤ n → acc.length ≤ 4096 → dec tot n acc l = (out, a, 0) →
    a = 0 ∧ ∃ m, out = acc ++ m ∧ l = enc m ∧ fit m ∧ out.length ≤ 4096 := by
  intro n
  induction n with
  | zero =>
    intro acc l out a hl ha h
    obtain rfl : l = [] := List.eq_nil_of_length_eq_zero (by omega)
    simp only [dec, Prod.mk.injEq] at h
    obtain ⟨rfl, rfl, _⟩ := h
    exact ⟨rfl, [], by simp, rfl, (by intro x hx; cases hx), ha⟩
  | succ n ih =>
    intro acc l out a hl ha h
    cases l with
    | nil =>
      simp only [dec, Prod.mk.injEq] at h
      obtain ⟨rfl, rfl, _⟩ := h
      exact ⟨rfl, [], by simp, rfl, (by intro x hx; cases hx), ha⟩
    | cons c l =>
      simp only [dec] at h
      by_cases h4 : acc.length = 4096
      · rw [if_pos h4] at h
        simp at h
      rw [if_neg h4] at h
      cases hf : fld (c :: l) with
      | error e =>
        have he := fld_err (by simp) hf
        rw [hf] at h
        simp only [Prod.mk.injEq] at h
        omega
      | ok p =>
        obtain ⟨x, r⟩ := p
        rw [hf] at h
        simp only [] at h
        have hb := fld_back hf
        have hsh := fld_shorter hf
        rw [List.length_cons] at hl hsh
        obtain ⟨ha0, m, hm, hr, hfit, hlen⟩ := ih (acc ++ [x]) r out a (by omega) (by rw [List.length_append, List.length_singleton]; omega) h
        refine ⟨ha0, x :: m, by rw [hm]; simp, by rw [hb.1, enc_cons, hr], ?_, hlen⟩
        intro y hy
        rcases List.mem_cons.1 hy with rfl | hy
        · exact ⟨hb.2.2.1, hb.2.1, hb.2.2.2.1⟩
        · exact hfit y hy
/-- Beside an error nothing is told. -/
theorem dec_err (tot : Nat) : ∀ (n : Nat) (acc : List S110) (l : List UInt8), l.length ≤ n → (dec tot n acc l).2.2 ≠ 0 → (dec tot n acc l).1 = [] := by
  intro n
  induction n with
  | zero =>
    intro acc l hl h
    obtain rfl : l = [] := List.eq_nil_of_length_eq_zero (by omega)
    simp [dec] at h
  | succ n ih =>
    intro acc l hl h
    cases l with
    | nil => simp [dec] at h
    | cons c l =>
      simp only [dec] at h ⊢
      by_cases h4 : acc.length = 4096
      · rw [if_pos h4]
      rw [if_neg h4] at h ⊢
      cases hf : fld (c :: l) with
      | error e => rfl
      | ok p =>
        obtain ⟨x, r⟩ := p
        rw [hf] at h
        have hsh := fld_shorter hf
        rw [List.length_cons] at hl hsh
        exact ih _ _ (by omega) h
/-- A place is told beside an error alone. -/
theorem dec_at (tot : Nat) : ∀ (n : Nat) (acc : List S110) (l : List UInt8), l.length ≤ n → (dec tot n acc l).2.2 = 0 → (dec tot n acc l).2.1 = 0 := by
  intro n
  induction n with
  | zero =>
    intro acc l hl h
    obtain rfl : l = [] := List.eq_nil_of_length_eq_zero (by omega)
    simp [dec]
  | succ n ih =>
    intro acc l hl h
    cases l with
    | nil => simp [dec]
    | cons c l =>
      simp only [dec] at h ⊢
      by_cases h4 : acc.length = 4096
      · rw [if_pos h4] at h
        simp at h
      rw [if_neg h4] at h ⊢
      cases hf : fld (c :: l) with
      | error e =>
        rw [hf] at h
        have he := fld_err (by simp) hf
        simp only at h
        omega
      | ok p =>
        obtain ⟨x, r⟩ := p
        rw [hf] at h
        have hsh := fld_shorter hf
        rw [List.length_cons] at hl hsh
        exact ih _ _ (by omega) h

/-! Sum -/
theorem digs_ex (l : List UInt8) (n : Nat) (h : unl l = n) (hl : l.getLast? ≠ some 0) : digs n = l := by rw [← h]; exact digs_unl l (fun x hx e => hl (by rw [hx, e]))
end Go.Proofs.Ytafmdlegelbfpaa.Fn
