-- written by a program of ours (a template of wip/pure, filled for this seat)
import Derived.Test.YtafmdlegelbfpaaPAllx0
import Derived.Test.YtafmdlegelbfpaaFn2
/-! What the functions of package code come to: there and back; Decode; Sum; the chapter's examples. -/
namespace Go.Proofs.Ytafmdlegelbfpaa.Fn
set_option linter.unusedVariables false
set_option linter.unusedSimpArgs false
open Go.RowKit Go.Proofs.YtafmdlegelbfpaaW.PrintWords Go.Proofs.Ytafmdlegelbfpaa.PAll Go.Proofs.Ytafmdlegelbfpaa.Bytes

/-- A field as a program can hold it: its number is an int64. -/
def wfS (x : S110) : Prop := -9223372036854775808 ≤ x.f1 ∧ x.f1 ≤ 9223372036854775807
theorem getLast?_append_take (m : Nat) (l r : List UInt8) (h : l.length = m) : ((l ++ r).take m) = l := by subst h; exact List.take_left
theorem i64_u64 {n : Int} (h0 : -9223372036854775808 ≤ n) (h1 : n ≤ 9223372036854775807) : i64 (u64 n) = n := by unfold i64 u64 wrap64; omega
theorem u64_i64 {n : Nat} (h : n < 18446744073709551616) : u64 (i64 n) = n := by unfold i64 u64 wrap64; omega
theorem digs_no_zero (n : Nat) : (digs n).getLast? ≠ some 0 := by
  rcases Nat.eq_zero_or_pos n with rfl | h
  · rw [digs_zero]; simp
  · exact fun e => digs_last n h 0 e rfl
theorem fld_num (c : UInt8) (hc : ¬ (c ≠ 78 ∧ c ≠ 84)) (n : Nat) (hn : n < 256 ^ 8) (r : List UInt8) :
    fld (c :: num n ++ r) = if c = 78 then .ok (⟨false, i64 n, ⟨#[]⟩⟩, r) else if n > 262144 then .error 3 else if r.length < n then .error 11 else .ok (⟨true, 0, ⟨(r.take n).toArray⟩⟩, r.drop n) := by
  have h8 := digs_length 8 n hn
  have hm : (UInt8.ofNat (digs n).length).toNat = (digs n).length := by rw [UInt8.toNat_ofNat']; omega
  show fld (c :: UInt8.ofNat (digs n).length :: (digs n ++ r)) = _
  have ht : (digs n ++ r).take (digs n).length = digs n := List.take_left
  have hd : (digs n ++ r).drop (digs n).length = r := List.drop_left
  simp only [fld, hm, ht, hd, unl_digs]
  rw [if_neg hc, if_neg (by omega), if_neg (by rw [List.length_append]; omega), if_neg (digs_no_zero n)]
/-- THERE. -/
theorem fld_one (x : S110) (hw : wfS x) (ho : ok x = true) (hs : x.f0 = true → x.f2.size ≤ 262144) (r : List UInt8) : fld (one x ++ r) = .ok (x, r) := by
  obtain ⟨b, n, s⟩ := x
  unfold one
  cases b with
  | true =>
    simp only [ok, if_true, beq_iff_eq] at ho
    have hs : s.size ≤ 262144 := hs rfl
    subst ho
    simp only [if_true]
    rw [List.append_assoc, fld_num 84 (by decide) _ (by omega), if_neg (by decide), if_neg (by omega), if_neg (by rw [List.length_append, L_length]; omega)]
    have h1 : (L s ++ r).take s.size = L s := by rw [← L_length]; exact List.take_left
    have h2 : (L s ++ r).drop s.size = r := by rw [← L_length]; exact List.drop_left
    rw [h1, h2]
    rfl
  | false =>
    simp only [ok, Bool.false_eq_true, if_false] at ho
    simp only [Bool.false_eq_true, if_false]
    rw [fld_num 78 (by decide) _ (u64_lt n), if_pos rfl, i64_u64 hw.1 hw.2]
    have : s = ⟨#[]⟩ := of_L (by simpa using ho)
    rw [this]
/-- AND BACK. -/
theorem fld_back {l : List UInt8} {x : S110} {r : List UInt8} (h : fld l = .ok (x, r)) : l = one x ++ r ∧ ok x = true ∧ wfS x ∧ (x.f0 = true → x.f2.size ≤ 262144) ∧ 0 < l.length := by
  match l, h with
  | [c], h => simp only [fld] at h; split at h <;> cases h
  | c :: m :: t, h =>
    simp only [fld] at h
    by_cases h1 : c ≠ 78 ∧ c ≠ 84
    · rw [if_pos h1] at h; cases h
    rw [if_neg h1] at h
    by_cases h2 : m.toNat > 8
    · rw [if_pos h2] at h; cases h
    rw [if_neg h2] at h
    by_cases h3 : t.length < m.toNat
    · rw [if_pos h3] at h; cases h
    rw [if_neg h3] at h
    by_cases h4 : (t.take m.toNat).getLast? = some 0
    · rw [if_pos h4] at h; cases h
    rw [if_neg h4] at h
    have hlen : (t.take m.toNat).length = m.toNat := by rw [List.length_take]; omega
    have hdig : digs (unl (t.take m.toNat)) = t.take m.toNat := digs_unl _ (fun y hy e => h4 (by rw [hy, e]))
    have hlt : unl (t.take m.toNat) < 256 ^ 8 := Nat.lt_of_lt_of_le (unl_lt _) (Nat.pow_le_pow_right (by omega) (by omega))
    have hnum : m :: t = num (unl (t.take m.toNat)) ++ t.drop m.toNat := by
      rw [num, hdig, hlen, List.cons_append, List.take_append_drop]
      congr 1
      simp
    have h64 : unl (t.take m.toNat) < 18446744073709551616 := Nat.lt_of_lt_of_le hlt (by decide)
    generalize unl (t.take m.toNat) = n at *
    generalize t.drop m.toNat = b at *
    by_cases h5 : c = 78
    · rw [if_pos h5] at h
      injection h with h
      injection h with hx hr
      subst hx hr h5
      refine ⟨?_, rfl, ⟨?_, ?_⟩, (fun e => by cases e), by simp⟩
      · rw [hnum, one, if_neg (show ¬ (false = true) by decide), u64_i64 h64]; rfl
      · show -9223372036854775808 ≤ i64 n
        unfold i64 wrap64; omega
      · show i64 n ≤ 9223372036854775807
        unfold i64 wrap64; omega
    rw [if_neg h5] at h
    by_cases h6 : n > 262144
    · rw [if_pos h6] at h; cases h
    rw [if_neg h6] at h
    by_cases h7 : b.length < n
    · rw [if_pos h7] at h; cases h
    rw [if_neg h7] at h
    injection h with h
    injection h with hx hr
    subst hx hr
    have h84 : c = 84 := Classical.not_not.1 (fun e => h1 ⟨h5, e⟩)
    have hsz : (⟨(b.take n).toArray⟩ : ByteArray).size = n := by rw [← L_length, L_mk, List.length_take]; omega
    refine ⟨?_, rfl, ⟨show -9223372036854775808 ≤ (0 : Int) by decide, show (0 : Int) ≤ 9223372036854775807 by decide⟩, (fun _ => by rw [hsz]; omega), by simp⟩
    rw [hnum, one, if_pos rfl, hsz, L_mk, h84, List.cons_append, List.cons_append, List.append_assoc, List.take_append_drop]
/-- An error's number is none of OK's. -/
theorem fld_err {l : List UInt8} (hl : 0 < l.length) {e : Int} (h : fld l = .error e) : e = 3 ∨ e = 11 := by
  match l, h with
  | [c], h => simp only [fld] at h; split at h <;> (injection h with h; subst h; simp)
  | c :: m :: t, h =>
    simp only [fld] at h
    repeat' split at h
    all_goals first | (injection h with h; subst h; simp; done) | cases h
end Go.Proofs.Ytafmdlegelbfpaa.Fn
