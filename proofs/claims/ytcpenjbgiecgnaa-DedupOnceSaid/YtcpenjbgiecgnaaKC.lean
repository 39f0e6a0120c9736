-- written by a program of ours (several texts, one behind the other)
import Derived.Test.YtcpenjbgiecgnaaHField
import Derived.Test.YtcpenjbgiecgnaaPAllx0
import Derived.Test.YtcpenjbgiecgnaaPAllx1042
import Derived.Test.YtcpenjbgiecgnaaFn
import Derived.Laws.BitsAllLaws
import Derived.Test.YtcpenjbgiecgnaaPAllx1021
import Derived.Test.YtcpenjbgiecgnaaHDecodeReply
import Derived.Test.YtcpenjbgiecgnaaHEncodeReply
import Derived.Test.YtcpenjbgiecgnaaHReader
import Derived.Test.YtcpenjbgiecgnaaHReply
import Derived.Test.YtcpenjbgiecgnaaHWriter
/-! What the functions of package code come to: bytes that are read. -/
namespace Go.Proofs.Ytcpenjbgiecgnaa.Fn
set_option linter.unusedVariables false
set_option linter.unusedSimpArgs false
open Go.RowKit Go.Proofs.YtcpenjbgiecgnaaW.PrintWords Go.Proofs.Ytcpenjbgiecgnaa.PAll Go.Proofs.Ytcpenjbgiecgnaa.Bytes

theorem or_join (a b : Nat) (ha : a < 72057594037927936) (hb : b < 256) : Go.bits .or .u64 (IntKind.u64.wrap ((a : Int) * 256)) (IntKind.u64.wrap (b : Int)) = ((b + 256 * a : Nat) : Int) := by
  have h1 : IntKind.u64.wrap ((a : Int) * 256) = ((256 * a : Nat) : Int) := by rw [u64_wrap, u64]; omega
  have h2 : IntKind.u64.wrap (b : Int) = (b : Int) := by rw [u64_wrap, u64]; omega
  rw [h1, h2, u64_or_nat _ _ (by omega) (by omega), nat_join 8 (256 * a) b (by omega) (by omega), Nat.add_comm]

theorem unlow_l0 (s : ByteArray) (hs : s.size ≤ 8) : ∀ (j : Nat), j ≤ s.size →
    Ev (fun k => code_unlow_uint64.l0 k s (unl ((L s).drop j) : Int) ((j : Int) - 1)) (unl (L s) : Int) := by
  intro j
  induction j with
  | zero =>
    intro _
    refine Ev.step (f := fun _ => some (unl (L s) : Int)) (fun k => ?_) (Ev.now _)
    simp only [code_unlow_uint64.l0]
    rw [if_neg (by omega)]
    rfl
  | succ j ih =>
    intro hj
    have hlt : j < (L s).length := by rw [L_length]; omega
    have hd : (L s).drop j = (L s)[j] :: (L s).drop (j + 1) := List.drop_eq_getElem_cons hlt
    have hb := (L s)[j].toNat_lt
    have hu := unl_lt ((L s).drop (j + 1))
    have hl : ((L s).drop (j + 1)).length ≤ 7 := by rw [List.length_drop, L_length]; omega
    have hp : (256 : Nat) ^ ((L s).drop (j + 1)).length ≤ 256 ^ 7 := Nat.pow_le_pow_right (by omega) hl
    refine Ev.step (fun k => ?_) (ih (by omega))
    simp only [code_unlow_uint64.l0]
    rw [if_pos (by omega), if_pos (by omega), if_pos (by omega), show ((j + 1 : Nat) : Int) - 1 = (j : Int) by omega, bt_L s j hlt, or_join _ _ (by omega) hb, wrap64_id (by omega) (by omega), hd, unl]
theorem unlow_f (s : ByteArray) (hs : s.size ≤ 8) : Ev (fun k => code_unlow_uint64.f k s) (unl (L s) : Int) := by
  have := unlow_l0 s hs s.size (Nat.le_refl _)
  refine Ev.congr (fun k => ?_) this
  simp only [code_unlow_uint64.f]
  rw [wrap64_id (by omega) (by omega), List.drop_of_length_le (by rw [L_length]; omega)]
  rfl

/-- A number of 64 bits as an int64. -/
def i64 (n : Nat) : Int := wrap64 (n : Int)
/-- A field that stands ahead, and what is left; or what is wrong. -/
def fld : List UInt8 → Except Int (S62 × List UInt8)
  | [] => .error 0
  | [c] => if c ≠ 78 ∧ c ≠ 84 then .error 3 else .error 11
  | c :: m :: t =>
    if c ≠ 78 ∧ c ≠ 84 then .error 3
    else if m.toNat > 8 then .error 3
    else if t.length < m.toNat then .error 11
    else if (t.take m.toNat).getLast? = some 0 then .error 3
    else if c = 78 then .ok (⟨false, i64 (unl (t.take m.toNat)), ⟨#[]⟩⟩, t.drop m.toNat)
    else if unl (t.take m.toNat) > 262144 then .error 3
    else if (t.drop m.toNat).length < unl (t.take m.toNat) then .error 11
    else .ok (⟨true, 0, ⟨((t.drop m.toNat).take (unl (t.take m.toNat))).toArray⟩⟩, (t.drop m.toNat).drop (unl (t.take m.toNat)))
def fldR (l : List UInt8) : Bool × Int × ByteArray × ByteArray × Int :=
  match fld l with
  | .error e => (false, 0, ⟨#[]⟩, ⟨#[]⟩, e)
  | .ok (x, r) => (x.f0, x.f1, x.f2, ⟨r.toArray⟩, 0)
theorem of_L {s : ByteArray} {l : List UInt8} (h : L s = l) : s = ⟨l.toArray⟩ := L_inj (by rw [h, L_mk])
theorem i64_range (u : Nat) (h : u < 18446744073709551616) : i64 u = if u < 9223372036854775808 then (u : Int) else (u : Int) - 18446744073709551616 := by
  unfold i64 wrap64; split <;> omega
theorem i64_small {u : Nat} (h : ¬ u > 262144) : i64 u = (u : Int) := by unfold i64; rw [wrap64_id (by omega) (by omega)]
theorem i64_big {u : Nat} (h : u > 262144) (h2 : u < 18446744073709551616) : i64 u < 0 ∨ i64 u > 262144 := by unfold i64 wrap64; omega
theorem u8_ofNat_eq (c : UInt8) (n : Nat) (hn : n < 256) : ((c.toNat : Int) = (n : Int)) ↔ c = UInt8.ofNat n := by
  constructor
  · intro h
    apply UInt8.toNat_inj.1
    rw [UInt8.toNat_ofNat']
    omega
  · rintro rfl
    rw [UInt8.toNat_ofNat']
    omega
theorem c78 (c : UInt8) : ((c.toNat : Int) = 78) ↔ c = 78 := u8_ofNat_eq c 78 (by omega)
theorem c84 (c : UInt8) : ((c.toNat : Int) = 84) ↔ c = 84 := u8_ofNat_eq c 84 (by omega)
theorem c0 (c : UInt8) : ((c.toNat : Int) = 0) ↔ c = 0 := u8_ofNat_eq c 0 (by omega)

theorem field_f (s : ByteArray) (hs : 0 < s.size) : Ev (fun k => code_field.f k s) (fldR (L s)) := by
  cases hL : L s with
  | nil => have := L_length s; rw [hL] at this; simp at this; omega
  | cons c l =>
    have hsz : s.size = l.length + 1 := by rw [← L_length, hL]; rfl
    have hc : bt s 0 = (c.toNat : Int) := by
      have := bt_L s 0 (by rw [hL]; simp)
      simpa [hL] using this
    by_cases hk : c ≠ 78 ∧ c ≠ 84
    · refine Ev.const fun k => ?_
      have hr : fldR (c :: l) = (false, 0, ⟨#[]⟩, ⟨#[]⟩, 3) := by cases l <;> simp [fldR, fld, hk]
      rw [hr]
      simp only [code_field.f]
      rw [if_neg (by omega), hc, if_pos ⟨fun h => hk.1 ((c78 c).1 h), fun h => hk.2 ((c84 c).1 h)⟩]
      rfl
    · have hk' : ¬ ((c.toNat : Int) ≠ 78 ∧ (c.toNat : Int) ≠ 84) := by rw [Ne, Ne, c78, c84]; exact hk
      cases l with
      | nil =>
        refine Ev.const fun k => ?_
        simp only [code_field.f]
        rw [if_neg (by omega), hc, if_neg hk', if_pos (by simp at hsz; omega)]
        simp [fldR, fld, hk, code_field.r]
      | cons m t =>
        have hm : bt s 1 = (m.toNat : Int) := by
          have := bt_L s 1 (by rw [hL]; simp)
          simpa [hL] using this
        have hm8 := m.toNat_lt
        simp only [List.length_cons] at hsz
        have hb : s.extract 2 s.size = ⟨t.toArray⟩ := of_L (by
          rw [L_extract, hL, hsz, List.take_of_length_le (by simp)]; rfl)
        have hbs : (⟨t.toArray⟩ : ByteArray).size = t.length := by rw [← L_length, L_mk]
        by_cases h1 : m.toNat > 8
        · refine Ev.const fun k => ?_
          simp only [code_field.f, code_field.s]
          rw [if_neg (by omega), hc, if_neg hk', if_neg (by omega), hm, if_pos (by omega)]
          simp only [fldR, fld, if_neg hk, if_pos h1]
          rfl
        by_cases h2 : t.length < m.toNat
        · refine Ev.const fun k => ?_
          simp only [code_field.f, code_field.s]
          rw [if_neg (by omega), hc, if_neg hk', if_neg (by omega), hm, if_neg (by omega), hb, hbs, if_pos (by omega)]
          simp only [fldR, fld, if_neg hk, if_neg h1, if_pos h2]
          rfl
        have hlast : ((m.toNat : Int) > 0 ∧ bt ⟨t.toArray⟩ ((m.toNat : Int) - 1) = 0) ↔ (t.take m.toNat).getLast? = some 0 := by
          rw [List.getLast?_eq_getElem?, List.length_take, Nat.min_eq_left (by omega)]
          constructor
          · rintro ⟨hp, hz⟩
            have hlt : m.toNat - 1 < t.length := by omega
            have := bt_L ⟨t.toArray⟩ (m.toNat - 1) (by rw [L_mk]; exact hlt)
            rw [show ((m.toNat - 1 : Nat) : Int) = (m.toNat : Int) - 1 by omega, hz] at this
            simp only [L_mk] at this
            rw [List.getElem?_take_of_lt (by omega), List.getElem?_eq_getElem hlt, (c0 _).1 this.symm]
          · intro h
            by_cases hp : m.toNat = 0
            · rw [hp] at h; simp at h
            have hlt : m.toNat - 1 < t.length := by omega
            rw [List.getElem?_take_of_lt (by omega), List.getElem?_eq_getElem hlt] at h
            injection h with h
            refine ⟨by omega, ?_⟩
            have := bt_L ⟨t.toArray⟩ (m.toNat - 1) (by rw [L_mk]; exact hlt)
            rw [show ((m.toNat - 1 : Nat) : Int) = (m.toNat : Int) - 1 by omega] at this
            rw [this]
            simp only [L_mk, h]
            rfl
        by_cases h3 : (t.take m.toNat).getLast? = some 0
        · refine Ev.const fun k => ?_
          simp only [code_field.f, code_field.s]
          rw [if_neg (by omega), hc, if_neg hk', if_neg (by omega), hm, if_neg (by omega), hb, hbs, if_neg (by omega), if_pos (hlast.2 h3)]
          simp only [fldR, fld, if_neg hk, if_neg h1, if_neg h2, if_pos h3]
          rfl
        have he1 : (⟨t.toArray⟩ : ByteArray).extract 0 m.toNat = ⟨(t.take m.toNat).toArray⟩ := of_L (by rw [L_extract, L_mk]; rfl)
        have he2 : (⟨t.toArray⟩ : ByteArray).extract m.toNat (⟨t.toArray⟩ : ByteArray).size = ⟨(t.drop m.toNat).toArray⟩ := of_L (by rw [L_extract, L_mk, hbs, List.take_length])
        have hu := unlow_f ⟨(t.take m.toNat).toArray⟩ (by rw [← L_length, L_mk, List.length_take]; omega)
        rw [L_mk] at hu
        obtain ⟨K, hu⟩ := hu
        dsimp only at hu
        have hlt := unl_lt (t.take m.toNat)
        have hlt2 : (256 : Nat) ^ (t.take m.toNat).length ≤ 256 ^ 8 := Nat.pow_le_pow_right (by omega) (by rw [List.length_take]; omega)
        have h64 : unl (t.take m.toNat) < 18446744073709551616 := Nat.lt_of_lt_of_le hlt (Nat.le_trans hlt2 (by decide))
        clear hlt hlt2
        have hbs2 : (⟨(t.drop m.toNat).toArray⟩ : ByteArray).size = (t.drop m.toNat).length := by rw [← L_length, L_mk]
        refine ⟨K, fun k hkk => ?_⟩
        simp only [code_field.f, code_field.s]
        rw [if_neg (by omega), hc, if_neg hk', if_neg (by omega), hm, if_neg (by omega), hb, hbs, if_neg (by omega), if_neg (fun h => h3 (hlast.1 h)), Int.toNat_natCast, he1, hu k hkk]
        simp only [Option.bind_some]
        rw [← hbs, he2]
        simp only [fldR, fld, if_neg hk, if_neg h1, if_neg h2, if_neg h3, code_field.t]
        by_cases h4 : c = 78
        · rw [if_pos ((c78 c).2 h4), if_pos h4]
          rfl
        rw [if_neg (fun h => h4 ((c78 c).1 h)), if_neg h4]
        change (if i64 _ < 0 then _ else if i64 _ > 262144 then _ else if _ < i64 _ then _ else some (true, 0, ByteArray.extract _ 0 (i64 _).toNat, ByteArray.extract _ (i64 _).toNat _, 0)) = _
        by_cases h5 : unl (t.take m.toNat) > 262144
        · rw [if_pos h5]
          by_cases h6 : i64 (unl (t.take m.toNat)) < 0
          · rw [if_pos h6]; rfl
          · rw [if_neg h6, if_pos ((i64_big h5 h64).resolve_left h6)]; rfl
        rw [if_neg h5]
        rw [i64_small h5, if_neg (by omega), if_neg (by omega), hbs2]
        by_cases h7 : (t.drop m.toNat).length < unl (t.take m.toNat)
        · rw [if_pos (by omega), if_pos h7]; rfl
        · rw [if_neg (by omega), if_neg h7, Int.toNat_natCast]
          have e1 : (⟨(t.drop m.toNat).toArray⟩ : ByteArray).extract 0 (unl (t.take m.toNat)) = ⟨((t.drop m.toNat).take (unl (t.take m.toNat))).toArray⟩ := of_L (by rw [L_extract, L_mk]; rfl)
          have e2 : (⟨(t.drop m.toNat).toArray⟩ : ByteArray).extract (unl (t.take m.toNat)) (t.drop m.toNat).length = ⟨((t.drop m.toNat).drop (unl (t.take m.toNat))).toArray⟩ := of_L (by rw [L_extract, L_mk, List.take_length])
          rw [e1, e2]
end Go.Proofs.Ytcpenjbgiecgnaa.Fn
/-! What the functions of package code come to: there and back; Decode; Sum; the chapter's examples. -/
namespace Go.Proofs.Ytcpenjbgiecgnaa.Fn
set_option linter.unusedVariables false
set_option linter.unusedSimpArgs false
open Go.RowKit Go.Proofs.YtcpenjbgiecgnaaW.PrintWords Go.Proofs.Ytcpenjbgiecgnaa.PAll Go.Proofs.Ytcpenjbgiecgnaa.Bytes

/-- A field as a program can hold it: its number is an int64. -/
def wfS (x : S62) : Prop := -9223372036854775808 ≤ x.f1 ∧ x.f1 ≤ 9223372036854775807
theorem getLast?_append_take (m : Nat) (l r : List UInt8) (h : l.length = m) : ((l ++ r).take m) = l := by subst h; exact List.take_left
theorem i64_u64 {n : Int} (h0 : -9223372036854775808 ≤ n) (h1 : n ≤ 9223372036854775807) : i64 (u64 n) = n := by unfold i64 u64 wrap64; omega
theorem u64_i64 {n : Nat} (h : n < 18446744073709551616) : u64 (i64 n) = n := by unfold i64 u64 wrap64; omega
theorem digs_no_zero (n : Nat) : (digs n).getLast? ≠ some 0 := by
  rcases Nat.eq_zero_or_pos n with rfl | h
  · rw [digs_zero]; simp
  · exact fun e => digs_last n h 0 e rfl
theorem fld_num (c : UInt8) (hc : ¬ (c ≠ 78 ∧ c ≠ 84)) (n : Nat) (hn : n < 256 ^ 8) (r : List UInt8) :
    fld (c :: num n ++ r) = if c = 78 then .ok (⟨false, i64 n, ⟨#[]⟩⟩, r) else if n > 262144 then .error 3 else if r.length < n then .error 11 else .ok (⟨true, 0, ⟨(r.take n).toArray⟩⟩, r.drop n) := by
  have h8 := digs_length 8 n hn
  have hm : (UInt8.ofNat (digs n).length).toNat = (digs n).length := by rw [UInt8.toNat_ofNat']; omega
  show fld (c :: UInt8.ofNat (digs n).length :: (digs n ++ r)) = _
  have ht : (digs n ++ r).take (digs n).length = digs n := List.take_left
  have hd : (digs n ++ r).drop (digs n).length = r := List.drop_left
  simp only [fld, hm, ht, hd, unl_digs]
  rw [if_neg hc, if_neg (by omega), if_neg (by rw [List.length_append]; omega), if_neg (digs_no_zero n)]
/-- THERE. -/
theorem fld_one (x : S62) (hw : wfS x) (ho : ok x = true) (hs : x.f0 = true → x.f2.size ≤ 262144) (r : List UInt8) : fld (one x ++ r) = .ok (x, r) := by
  obtain ⟨b, n, s⟩ := x
  unfold one
  cases b with
  | true =>
    simp only [ok, if_true, beq_iff_eq] at ho
    have hs : s.size ≤ 262144 := hs rfl
    subst ho
    simp only [if_true]
    rw [List.append_assoc, fld_num 84 (by decide) _ (by omega), if_neg (by decide), if_neg (by omega), if_neg (by rw [List.length_append, L_length]; omega)]
    have h1 : (L s ++ r).take s.size = L s := by rw [← L_length]; exact List.take_left
    have h2 : (L s ++ r).drop s.size = r := by rw [← L_length]; exact List.drop_left
    rw [h1, h2]
    rfl
  | false =>
    simp only [ok, Bool.false_eq_true, if_false] at ho
    simp only [Bool.false_eq_true, if_false]
    rw [fld_num 78 (by decide) _ (u64_lt n), if_pos rfl, i64_u64 hw.1 hw.2]
    have : s = ⟨#[]⟩ := of_L (by simpa using ho)
    rw [this]
/-- AND BACK. -/
theorem fld_back {l : List UInt8} {x : S62} {r : List UInt8} (h : fld l = .ok (x, r)) : l = one x ++ r ∧ ok x = true ∧ wfS x ∧ (x.f0 = true → x.f2.size ≤ 262144) ∧ 0 < l.length := by
  match l, h with
  | [c], h => simp only [fld] at h; split at h <;> cases h
  | c :: m :: t, h =>
    simp only [fld] at h
    by_cases h1 : c ≠ 78 ∧ c ≠ 84
    · rw [if_pos h1] at h; cases h
    rw [if_neg h1] at h
    by_cases h2 : m.toNat > 8
    · rw [if_pos h2] at h; cases h
    rw [if_neg h2] at h
    by_cases h3 : t.length < m.toNat
    · rw [if_pos h3] at h; cases h
    rw [if_neg h3] at h
    by_cases h4 : (t.take m.toNat).getLast? = some 0
    · rw [if_pos h4] at h; cases h
    rw [if_neg h4] at h
    have hlen : (t.take m.toNat).length = m.toNat := by rw [List.length_take]; omega
    have hdig : digs (unl (t.take m.toNat)) = t.take m.toNat := digs_unl _ (fun y hy e => h4 (by rw [hy, e]))
    have hlt : unl (t.take m.toNat) < 256 ^ 8 := Nat.lt_of_lt_of_le (unl_lt _) (Nat.pow_le_pow_right (by omega) (by omega))
    have hnum : m :: t = num (unl (t.take m.toNat)) ++ t.drop m.toNat := by
      rw [num, hdig, hlen, List.cons_append, List.take_append_drop]
      congr 1
      simp
    have h64 : unl (t.take m.toNat) < 18446744073709551616 := Nat.lt_of_lt_of_le hlt (by decide)
    generalize unl (t.take m.toNat) = n at *
    generalize t.drop m.toNat = b at *
    by_cases h5 : c = 78
    · rw [if_pos h5] at h
      injection h with h
      injection h with hx hr
      subst hx hr h5
      refine ⟨?_, rfl, ⟨?_, ?_⟩, (fun e => by cases e), by simp⟩
      · rw [hnum, one, if_neg (show ¬ (false = true) by decide), u64_i64 h64]; rfl
      · show -9223372036854775808 ≤ i64 n
        unfold i64 wrap64; omega
      · show i64 n ≤ 9223372036854775807
        unfold i64 wrap64; omega
    rw [if_neg h5] at h
    by_cases h6 : n > 262144
    · rw [if_pos h6] at h; cases h
    rw [if_neg h6] at h
    by_cases h7 : b.length < n
    · rw [if_pos h7] at h; cases h
    rw [if_neg h7] at h
    injection h with h
    injection h with hx hr
    subst hx hr
    have h84 : c = 84 := Classical.not_not.1 (fun e => h1 ⟨h5, e⟩)
    have hsz : (⟨(b.take n).toArray⟩ : ByteArray).size = n := by rw [← L_length, L_mk, List.length_take]; omega
    refine ⟨?_, rfl, ⟨show -9223372036854775808 ≤ (0 : Int) by decide, show (0 : Int) ≤ 9223372036854775807 by decide⟩, (fun _ => by rw [hsz]; omega), by simp⟩
    rw [hnum, one, if_pos rfl, hsz, L_mk, h84, List.cons_append, List.cons_append, List.append_assoc, List.take_append_drop]
/-- An error's number is none of OK's. -/
theorem fld_err {l : List UInt8} (hl : 0 < l.length) {e : Int} (h : fld l = .error e) : e = 3 ∨ e = 11 := by
  match l, h with
  | [c], h => simp only [fld] at h; split at h <;> (injection h with h; subst h; simp)
  | c :: m :: t, h =>
    simp only [fld] at h
    repeat' split at h
    all_goals first | (injection h with h; subst h; simp; done) | cases h
end Go.Proofs.Ytcpenjbgiecgnaa.Fn
/-! What the functions of package code come to: Decode; Sum; the chapter's examples. -/
namespace Go.Proofs.Ytcpenjbgiecgnaa.Fn
set_option linter.unusedVariables false
set_option linter.unusedSimpArgs false
open Go.RowKit Go.Proofs.YtcpenjbgiecgnaaW.PrintWords Go.Proofs.Ytcpenjbgiecgnaa.PAll Go.Proofs.Ytcpenjbgiecgnaa.Bytes

def dec (tot : Nat) : Nat → List S62 → List UInt8 → List S62 × Int × Int
  | _, acc, [] => (acc, 0, 0)
  | 0, acc, _ :: _ => (acc, 0, 0)
  | n + 1, acc, c :: l =>
    if acc.length = 4096 then ([], (tot : Int) - ((c :: l).length : Int), 2)
    else match fld (c :: l) with
      | .error e => ([], (tot : Int) - ((c :: l).length : Int), e)
      | .ok (x, r) => dec tot n (acc ++ [x]) r
/-- What Decode comes to. -/
def decode (b : ByteArray) : List S62 × Int × Int := if (L b).length > 262144 then ([], 0, 2) else dec (L b).length (L b).length [] (L b)
theorem fld_shorter {l : List UInt8} {x : S62} {r : List UInt8} (h : fld l = .ok (x, r)) : r.length < l.length := by
  have := fld_back h
  have h2 := one_length_pos x
  have := congrArg List.length this.1
  rw [List.length_append] at this
  omega

theorem decode_l0 (s : ByteArray) (hs : s.size ≤ 262144) : ∀ (n : Nat) (acc : List S62) (r : ByteArray), r.size ≤ n → r.size ≤ s.size → acc.length ≤ 4096 →
    Ev (fun k => code_Decode.l0 k s acc r) (dec s.size n acc (L r)) := by
  intro n
  induction n with
  | zero =>
    intro acc r hr _ _
    have hL : L r = [] := List.eq_nil_of_length_eq_zero (by rw [L_length]; omega)
    rw [hL]
    refine Ev.step (f := fun _ => some (acc, 0, 0)) (fun k => ?_) (Ev.now _)
    simp only [code_Decode.l0]
    rw [if_pos (by rw [toList_L, hL])]
  | succ n ih =>
    intro acc r hr hrs ha
    cases hL : L r with
    | nil =>
      refine Ev.step (f := fun _ => some (acc, 0, 0)) (fun k => ?_) (Ev.now _)
      simp only [code_Decode.l0]
      rw [if_pos (by rw [toList_L, hL])]
    | cons c l =>
      have hsz : r.size = (c :: l).length := by rw [← L_length, hL]
      have hpos : 0 < r.size := by rw [hsz]; simp
      have hw : wrap64 ((s.size : Int) - (r.size : Int)) = (s.size : Int) - ((c :: l).length : Int) := by rw [wrap64_id (by omega) (by omega), hsz]
      by_cases h4 : acc.length = 4096
      · refine Ev.step (f := fun _ => some (([] : List S62), (s.size : Int) - ((c :: l).length : Int), 2)) (fun k => ?_) (by simp only [dec]; rw [if_pos h4]; exact Ev.now _)
        simp only [code_Decode.l0]
        rw [if_neg (by rw [toList_L, hL]; simp), if_pos (by omega), hw]
      · obtain ⟨K1, h1⟩ := field_f r hpos
        rw [hL] at h1
        dsimp only at h1
        cases hf : fld (c :: l) with
        | error e =>
          have he := fld_err (by simp) hf
          refine ⟨K1 + 1, fun k hk => ?_⟩
          obtain ⟨k, rfl⟩ : ∃ m, k = m + 1 := ⟨k - 1, by omega⟩
          simp only [code_Decode.l0, dec]
          rw [if_neg (by rw [toList_L, hL]; simp), if_neg (by omega), h1 k (by omega), if_neg h4, hf, hw]
          simp only [fldR, hf, Option.bind_some]
          rw [if_neg (by omega)]
        | ok p =>
          obtain ⟨x, t⟩ := p
          have hsh := fld_shorter hf
          have hts : (⟨t.toArray⟩ : ByteArray).size = t.length := by rw [← L_length, L_mk]
          obtain ⟨K2, h2⟩ := ih (acc ++ [x]) ⟨t.toArray⟩ (by omega) (by omega) (by rw [List.length_append, List.length_singleton]; omega)
          rw [L_mk] at h2
          dsimp only at h2
          refine ⟨max K1 K2 + 1, fun k hk => ?_⟩
          obtain ⟨k, rfl⟩ : ∃ m, k = m + 1 := ⟨k - 1, by omega⟩
          simp only [code_Decode.l0, dec]
          rw [if_neg (by rw [toList_L, hL]; simp), if_neg (by omega), h1 k (by omega), if_neg h4, hf]
          simp only [fldR, hf, Option.bind_some]
          rw [if_pos trivial, if_pos (by omega)]
          exact h2 k (by omega)
theorem decode_f (b : ByteArray) : Ev (fun k => code_Decode.f k b) (decode b) := by
  unfold decode
  rw [L_length]
  by_cases h : b.size > 262144
  · rw [if_pos h]
    refine Ev.const fun k => ?_
    simp only [code_Decode.f]
    rw [if_pos (by omega)]
  · rw [if_neg h]
    obtain ⟨K, hk⟩ := decode_l0 b (by omega) b.size [] b (Nat.le_refl _) (Nat.le_refl _) (by simp)
    refine ⟨K, fun k hkk => ?_⟩
    simp only [code_Decode.f]
    rw [if_neg (by omega)]
    exact hk k hkk

/-- A list as Encode takes it, whole. -/
def fit (l : List S62) : Prop := ∀ x ∈ l, wfS x ∧ ok x = true ∧ (x.f0 = true → x.f2.size ≤ 262144)
theorem dec_enc (tot : Nat) : ∀ (l acc : List S62) (n : Nat), fit l → (enc l).length ≤ n → acc.length + l.length ≤ 4096 → dec tot n acc (enc l) = (acc ++ l, 0, 0) := by
  intro l
  induction l with
  | nil => intro acc n _ _ _; cases n <;> simp [enc, dec]
  | cons x l ih =>
    intro acc n hf hn ha
    have h2 := one_length_pos x
    rw [enc_cons, List.length_append] at hn
    rw [List.length_cons] at ha
    obtain ⟨n, rfl⟩ : ∃ m, n = m + 1 := ⟨n - 1, by omega⟩
    have hx := hf x (by simp)
    have hff := fld_one x hx.1 hx.2.1 hx.2.2 (enc l)
    rw [enc_cons]
    cases ho : one x with
    | nil => rw [ho] at h2; simp at h2
    | cons c t =>
      rw [ho] at hff hn
      rw [List.cons_append] at hff ⊢
      simp only [dec]
      rw [if_neg (by omega), hff]
      simp only []
      rw [ih (acc ++ [x]) n (fun y hy => hf y (by simp [hy])) (by rw [List.length_cons] at hn; omega) (by rw [List.length_append, List.length_singleton]; omega), List.append_assoc]
      rfl
theorem dec_back (tot : Nat) : ∀ (n : Nat) (acc : List S62) (l : List UInt8) (out : List S62) (a : Int), l.length ≤ n → acc.length ≤ 4096 → dec tot n acc l = (out, a, 0) →
    a = 0 ∧ ∃ m, out = acc ++ m ∧ l = enc m ∧ fit m ∧ out.length ≤ 4096 := by
  intro n
  induction n with
  | zero =>
    intro acc l out a hl ha h
    obtain rfl : l = [] := List.eq_nil_of_length_eq_zero (by omega)
    simp only [dec, Prod.mk.injEq] at h
    obtain ⟨rfl, rfl, _⟩ := h
    exact ⟨rfl, [], by simp, rfl, (by intro x hx; cases hx), ha⟩
  | succ n ih =>
    intro acc l out a hl ha h
    cases l with
    | nil =>
      simp only [dec, Prod.mk.injEq] at h
      obtain ⟨rfl, rfl, _⟩ := h
      exact ⟨rfl, [], by simp, rfl, (by intro x hx; cases hx), ha⟩
    | cons c l =>
      simp only [dec] at h
      by_cases h4 : acc.length = 4096
      · rw [if_pos h4] at h
        simp at h
      rw [if_neg h4] at h
      cases hf : fld (c :: l) with
      | error e =>
        have he := fld_err (by simp) hf
        rw [hf] at h
        simp only [Prod.mk.injEq] at h
        omega
      | ok p =>
        obtain ⟨x, r⟩ := p
        rw [hf] at h
        simp only [] at h
        have hb := fld_back hf
        have hsh := fld_shorter hf
        rw [List.length_cons] at hl hsh
        obtain ⟨ha0, m, hm, hr, hfit, hlen⟩ := ih (acc ++ [x]) r out a (by omega) (by rw [List.length_append, List.length_singleton]; omega) h
        refine ⟨ha0, x :: m, by rw [hm]; simp, by rw [hb.1, enc_cons, hr], ?_, hlen⟩
        intro y hy
        rcases List.mem_cons.1 hy with rfl | hy
        · exact ⟨hb.2.2.1, hb.2.1, hb.2.2.2.1⟩
        · exact hfit y hy
/-- Beside an error nothing is told. -/
theorem dec_err (tot : Nat) : ∀ (n : Nat) (acc : List S62) (l : List UInt8), l.length ≤ n → (dec tot n acc l).2.2 ≠ 0 → (dec tot n acc l).1 = [] := by
  intro n
  induction n with
  | zero =>
    intro acc l hl h
    obtain rfl : l = [] := List.eq_nil_of_length_eq_zero (by omega)
    simp [dec] at h
  | succ n ih =>
    intro acc l hl h
    cases l with
    | nil => simp [dec] at h
    | cons c l =>
      simp only [dec] at h ⊢
      by_cases h4 : acc.length = 4096
      · rw [if_pos h4]
      rw [if_neg h4] at h ⊢
      cases hf : fld (c :: l) with
      | error e => rfl
      | ok p =>
        obtain ⟨x, r⟩ := p
        rw [hf] at h
        have hsh := fld_shorter hf
        rw [List.length_cons] at hl hsh
        exact ih _ _ (by omega) h
/-- A place is told beside an error alone. -/
theorem dec_at (tot : Nat) : ∀ (n : Nat) (acc : List S62) (l : List UInt8), l.length ≤ n → (dec tot n acc l).2.2 = 0 → (dec tot n acc l).2.1 = 0 := by
  intro n
  induction n with
  | zero =>
    intro acc l hl h
    obtain rfl : l = [] := List.eq_nil_of_length_eq_zero (by omega)
    simp [dec]
  | succ n ih =>
    intro acc l hl h
    cases l with
    | nil => simp [dec]
    | cons c l =>
      simp only [dec] at h ⊢
      by_cases h4 : acc.length = 4096
      · rw [if_pos h4] at h
        simp at h
      rw [if_neg h4] at h ⊢
      cases hf : fld (c :: l) with
      | error e =>
        rw [hf] at h
        have he := fld_err (by simp) hf
        simp only at h
        omega
      | ok p =>
        obtain ⟨x, r⟩ := p
        rw [hf] at h
        have hsh := fld_shorter hf
        rw [List.length_cons] at hl hsh
        exact ih _ _ (by omega) h

/-! Sum -/
theorem digs_ex (l : List UInt8) (n : Nat) (h : unl l = n) (hl : l.getLast? ≠ some 0) : digs n = l := by rw [← h]; exact digs_unl l (fun x hx e => hl (by rw [hx, e]))
end Go.Proofs.Ytcpenjbgiecgnaa.Fn
/-! Lists of fields that came in. -/
namespace Go.Proofs.Ytcpenjbgiecgnaa.Fn
set_option linter.unusedVariables false
set_option linter.unusedSimpArgs false
open Go Go.RowKit Go.Proofs.YtcpenjbgiecgnaaW.PrintWords Go.Proofs.Ytcpenjbgiecgnaa.PAll Go.Proofs.Ytcpenjbgiecgnaa.Bytes

theorem wf_i64 {x : Int} (h : (Lit.int .i64 x).wf = true) : -9223372036854775808 ≤ x ∧ x ≤ 9223372036854775807 := by
  simp [Lit.wf, IntKind.min, IntKind.max, IntKind.signed, IntKind.bits] at h
  omega
def Wide (xs : List S62) : Prop := ∀ x ∈ xs, wfS x ∧ x.f2.size ≤ 140737488351232
end Go.Proofs.Ytcpenjbgiecgnaa.Fn
/-! CodeBack: what it computes is true. -/
namespace Go.Proofs.Ytcpenjbgiecgnaa.Pure
set_option linter.unusedVariables false
set_option linter.unusedSimpArgs false
open Go Go.RowKit Go.Proofs.Ytcpenjbgiecgnaa.PAll Go.Proofs.YtcpenjbgiecgnaaW.PrintWords Go.Proofs.YtcpenjbgiecgnaaW.PrintLast Go.Proofs.Ytcpenjbgiecgnaa.Bytes Go.Proofs.Ytcpenjbgiecgnaa.Fn

theorem one_le_enc {x : S62} : ∀ {l : List S62}, x ∈ l → (one x).length ≤ (enc l).length
  | y :: l, h => by
    rw [enc_cons, List.length_append]
    rcases List.mem_cons.1 h with rfl | h
    · omega
    · have := one_le_enc h; omega
theorem text_le_one {x : S62} (h : x.f0 = true) : x.f2.size ≤ (one x).length := by
  unfold one
  rw [if_pos h]
  simp [L_length]
  omega
theorem fit_of {l : List S62} (hw : Wide l) (h : (encode l).2 = 0) : fit l := by
  obtain ⟨h1, h2, h3, _⟩ := encode_ok h
  intro x hx
  refine ⟨(hw x hx).1, List.all_eq_true.1 h2 x hx, fun h0 => ?_⟩
  have a := text_le_one h0
  have b := one_le_enc hx
  omega
theorem fit_append {a b : List S62} (ha : fit a) (hb : fit b) : fit (a ++ b) := by
  intro x hx
  rcases List.mem_append.1 hx with h | h
  · exact ha x h
  · exact hb x h
theorem encode_fit {l : List S62} (hf : fit l) (hl : l.length ≤ 4096) (he : (enc l).length ≤ 262144) : encode l = (strOfNums (I (enc l)), 0) := by
  unfold encode
  rw [if_neg (by omega), if_neg (by rw [List.all_eq_true.2 (fun x hx => (hf x hx).2.1)]; decide), if_neg (by omega)]
theorem decode_enc {l : List S62} (hf : fit l) (hl : l.length ≤ 4096) (he : (enc l).length ≤ 262144) (s : ByteArray) (hs : L s = enc l) : Fn.decode s = (l, 0, 0) := by
  unfold Fn.decode
  rw [hs, if_neg (by omega), dec_enc _ l [] _ hf (Nat.le_refl _) (by simpa using hl)]
  rfl
theorem decode_back {b : ByteArray} {x : List S62} {a : Int} (h : Fn.decode b = (x, a, 0)) : a = 0 ∧ L b = enc x ∧ fit x ∧ x.length ≤ 4096 ∧ (enc x).length ≤ 262144 := by
  unfold Fn.decode at h
  split at h
  · cases h
  · rename_i hb
    obtain ⟨h1, m, h2, h3, h4, h5⟩ := dec_back _ _ _ _ _ _ (Nat.le_refl _) (by simp) h
    rw [List.nil_append] at h2
    subst h2
    exact ⟨h1, h3, h4, h5, by rw [← h3]; omega⟩
theorem decode_err {b : ByteArray} (h : (Fn.decode b).2.2 ≠ 0) : (Fn.decode b).1 = [] := by
  unfold Fn.decode at h ⊢
  split
  · rfl
  · rename_i hb
    rw [if_neg hb] at h
    exact dec_err _ _ _ _ (Nat.le_refl _) h
theorem decode_at {b : ByteArray} (h : (Fn.decode b).2.2 = 0) : (Fn.decode b).2.1 = 0 := by
  unfold Fn.decode at h ⊢
  split
  · rfl
  · rename_i hb
    rw [if_neg hb] at h
    exact dec_at _ _ _ _ (Nat.le_refl _) h
theorem wide_of_fit {l : List S62} (hf : fit l) (he : (enc l).length ≤ 262144) : ∀ x ∈ l, x.f2.size ≤ 140737488351232 := by
  intro x hx
  obtain ⟨_, h2, h3⟩ := hf x hx
  by_cases h0 : x.f0 = true
  · have := h3 h0; omega
  · simp only [ok, h0] at h2
    have : L x.f2 = [] := by simpa using h2
    rw [← L_length, this]
    simp
end Go.Proofs.Ytcpenjbgiecgnaa.Pure
/-! A reply is decoded as it was encoded: plain (printed by wip/obj/rback.py). -/
namespace Go.Proofs.Ytcpenjbgiecgnaa.Pure
set_option linter.unusedVariables false
set_option linter.unusedSimpArgs false
open Go Go.RowKit Go.Proofs.Ytcpenjbgiecgnaa.PAll Go.Proofs.YtcpenjbgiecgnaaW.PrintWords Go.Proofs.YtcpenjbgiecgnaaW.PrintLast Go.Proofs.Ytcpenjbgiecgnaa.Bytes Go.Proofs.Ytcpenjbgiecgnaa.Fn

/-- Numbers as a reader takes them. -/
def NumR (n : Int) : Prop := 0 ≤ n ∧ n ≤ 1099511627776
theorem fldOk_fN {n : Int} (h : NumR n) : fldOk false (fN n) = true := by
  unfold fldOk fN
  rw [decide_eq_true (show 0 ≤ n ∧ n ≤ 1099511627776 from h)]
  rfl
theorem fldOk_fT (s : ByteArray) : fldOk true (fT s) = true := by
  unfold fldOk fT
  rw [decide_eq_true (by show (0 : Int) ≤ 0 ∧ (0 : Int) ≤ 1099511627776; omega)]
  rfl
theorem rnum_cons (x : S62) (l : List S62) (ok : Bool) : rnum (x :: l, ok) = if fldOk false x = true then (x.f1, (l, ok)) else (0, ([], false)) := by
  unfold rnum rdX rdL rdO
  by_cases h : fldOk false x = true
  · simp only [h, if_true]
  · simp only [h, if_false]; rfl
theorem rtxt_cons (x : S62) (l : List S62) (ok : Bool) : rtxt (x :: l, ok) = if fldOk true x = true then (x.f2, (l, ok)) else (⟨#[]⟩, ([], false)) := by
  unfold rtxt rdX rdL rdO
  by_cases h : fldOk true x = true
  · simp only [h, if_true]
  · simp only [h, if_false]; rfl
theorem rnum_fN {n : Int} (h : NumR n) (l : List S62) (ok : Bool) : rnum (fN n :: l, ok) = (n, (l, ok)) := by rw [rnum_cons, if_pos (fldOk_fN h)]; rfl
theorem rtxt_fT (s : ByteArray) (l : List S62) (ok : Bool) : rtxt (fT s :: l, ok) = (s, (l, ok)) := by rw [rtxt_cons, if_pos (fldOk_fT s)]; rfl
def RowR (y : S76) : Prop := NumR y.f1
theorem rrow_fwd (y : S76) (h : RowR y) (l : List S62) : rrow (rowF y ++ l, true) = (y, (l, true)) := by
  show rrow (fT y.f0 :: fN y.f1 :: fT y.f2 :: l, true) = _
  unfold rrow
  simp only [rtxt_fT, rnum_fN (show NumR y.f1 from h)]
theorem rows_fwd (rest : List S62) : ∀ (l : List S76) (i : Nat) (acc : List S76), (∀ x ∈ l, RowR x) → acc.length + l.length < 2199023255552 →
    Ev (fun k => op_DecodeReply.l1 k ((i + l.length : Nat) : Int) (i : Int) (l.flatMap rowF ++ rest, true) acc) (acc ++ l, (rest, true))
  | [], i, acc, _, _ => by
    refine Ev.step (f := fun _ => some (acc ++ [], (rest, true))) (fun k => ?_) (Ev.now _)
    rw [op_DecodeReply.l1, if_neg (by simp), List.append_nil]
    rfl
  | x :: l, i, acc, h, hl => by
    have ih := rows_fwd rest l (i + 1) (acc ++ [x]) (fun y hy => h y (List.mem_cons_of_mem _ hy)) (by simp only [List.length_append, List.length_cons, List.length_nil] at hl ⊢; omega)
    have e : acc ++ (x :: l) = (acc ++ [x]) ++ l := by simp
    rw [e]
    refine Ev.step (fun k => ?_) ih
    rw [op_DecodeReply.l1, if_pos (by simp only [List.length_cons]; omega), if_pos rfl, if_pos (by simp only [List.length_cons] at hl; omega)]
    rw [List.flatMap_cons, List.append_assoc, rrow_fwd x (h x List.mem_cons_self)]
    simp only [List.length_cons]
    rw [show i + (l.length + 1) = i + 1 + l.length by omega]
    rfl
def ResR (x : S59) : Prop := NumR x.f0 ∧ NumR x.f1 ∧ (∀ y ∈ x.f3, RowR y) ∧ x.f3.length ≤ 1048576
/-- A result's head: three values and how many rows. -/
def rhead (s : List S62 × Bool) : (Int × Int × ByteArray × Int) × (List S62 × Bool) :=
  (((rnum s).1, (rnum (rnum s).2).1, (rtxt (rnum (rnum s).2).2).1, (rnum (rtxt (rnum (rnum s).2).2).2).1), (rnum (rtxt (rnum (rnum s).2).2).2).2)
theorem rhead_fwd (x : S59) (h : ResR x) (l : List S62) : rhead (resF x ++ l, true) = ((x.f0, x.f1, x.f2, (x.f3.length : Int)), (x.f3.flatMap rowF ++ l, true)) := by
  obtain ⟨h0, h1, _, h3⟩ := h
  show rhead (fN x.f0 :: fN x.f1 :: fT x.f2 :: fN (x.f3.length : Int) :: (x.f3.flatMap rowF ++ l), true) = _
  unfold rhead
  have h4 : NumR (x.f3.length : Int) := ⟨by omega, by omega⟩
  simp only [rnum_fN h0, rtxt_fT, rnum_fN h1, rnum_fN h4]
theorem l0_one (k : Nat) (n i : Int) (s : List S62 × Bool) (acc : List S59) : op_DecodeReply.l0 (k + 1) n i s acc = if i < n then (if s.2 = true then ((op_DecodeReply.l1 k (rhead s).1.2.2.2 0 (rhead s).2 []).bind fun r =>
      if acc.length < 2199023255552 then op_DecodeReply.l0 k n (i + 1) r.2 (acc ++ [⟨(rhead s).1.1, (rhead s).1.2.1, (rhead s).1.2.2.1, r.1⟩]) else none) else some (acc, s)) else some (acc, s) := rfl
theorem ress_fwd (rest : List S62) : ∀ (l : List S59) (i : Nat) (acc : List S59), (∀ x ∈ l, ResR x) → acc.length + l.length < 2199023255552 →
    Ev (fun k => op_DecodeReply.l0 k ((i + l.length : Nat) : Int) (i : Int) (l.flatMap resF ++ rest, true) acc) (acc ++ l, (rest, true))
  | [], i, acc, _, _ => by
    refine Ev.step (f := fun _ => some (acc ++ [], (rest, true))) (fun k => ?_) (Ev.now _)
    rw [l0_one, if_neg (by simp), List.append_nil]
    rfl
  | x :: l, i, acc, h, hl => by
    have hx := h x List.mem_cons_self
    have ih := ress_fwd rest l (i + 1) (acc ++ [x]) (fun y hy => h y (List.mem_cons_of_mem _ hy)) (by simp only [List.length_append, List.length_cons, List.length_nil] at hl ⊢; omega)
    have hr := rows_fwd (l.flatMap resF ++ rest) x.f3 0 [] hx.2.2.1 (by have := hx.2.2.2; simp only [List.length_nil]; omega)
    have e : acc ++ (x :: l) = (acc ++ [x]) ++ l := by simp
    rw [e]
    refine Ev.step (f := fun k => (op_DecodeReply.l1 k (x.f3.length : Int) 0 (x.f3.flatMap rowF ++ (l.flatMap resF ++ rest), true) []).bind fun r => if acc.length < 2199023255552 then op_DecodeReply.l0 k ((i + (x :: l).length : Nat) : Int) ((i : Int) + 1) r.2 (acc ++ [⟨x.f0, x.f1, x.f2, r.1⟩]) else none) (fun k => ?_) ?_
    · rw [l0_one, if_pos (by simp only [List.length_cons]; omega), if_pos rfl, List.flatMap_cons, List.append_assoc, rhead_fwd x hx]
    · simp only [Nat.zero_add, List.nil_append] at hr
      refine Ev.bind hr ?_
      refine Ev.congr (fun k => ?_) ih
      rw [if_pos (by simp only [List.length_cons] at hl; omega)]
      simp only [List.length_cons]
      rw [show i + (l.length + 1) = i + 1 + l.length by omega]
      rfl
theorem wide_fN {n : Int} (h : NumR n) : wfS (fN n) ∧ (fN n).f2.size ≤ 140737488351232 := ⟨⟨by have := h.1; show (-9223372036854775808 : Int) ≤ n; omega, by have := h.2; show n ≤ 9223372036854775807; omega⟩, Nat.zero_le _⟩
theorem wide_fT {s : ByteArray} (h : s.size ≤ 8192) : wfS (fT s) ∧ (fT s).f2.size ≤ 140737488351232 := ⟨⟨by show (-9223372036854775808 : Int) ≤ 0; omega, by show (0 : Int) ≤ 9223372036854775807; omega⟩, Nat.le_trans h (by decide)⟩
/-- What is encoded well is decoded. -/
theorem there {l : List S62} (hw : Wide l) (h : (encode l).2 = 0) : Fn.decode (encode l).1 = (l, 0, 0) ∧ (encode l).1.size ≤ 262144 := by
  obtain ⟨h1, h2, h3, h4⟩ := encode_ok h
  have hL : L (encode l).1 = enc l := by rw [h4]; exact strOf_I _
  refine ⟨decode_enc (fit_of hw h) h1 h3 _ hL, ?_⟩
  rw [size_L, hL]
  exact h3
theorem of_enc {b : ByteArray} {l : List UInt8} (h : L b = l) : strOfNums (I l) = b := L_inj (by rw [strOf_I, h])
def repOut (s0 : Int × Int × Int × Int) (r : List S59 × (List S62 × Bool)) : Int × Int × List S59 × Int × Int × Int :=
  if rwhole r.2 = true ∧ repOk s0.1 s0.2.1 r.1 s0.2.2.1 s0.2.2.2 = true then (s0.1, s0.2.1, r.1, s0.2.2.1, s0.2.2.2, 0) else (0, 0, [], 0, 0, 80)
theorem dec_rep {b : ByteArray} {l : List S62} (h : Fn.decode b = (l, 0, 0)) (hs : b.size ≤ 262144) {r : List S59 × (List S62 × Bool)}
    (hr : Ev (fun k => op_DecodeReply.l0 k (rep4 l).1.2.2.2.2 0 (rep4 l).2 []) r) :
    Ev (fun k => op_DecodeReply.f k b) (repOut ((rep4 l).1.1, (rep4 l).1.2.1, (rep4 l).1.2.2.1, (rep4 l).1.2.2.2.1) r) := by
  obtain ⟨K, hK⟩ := decode_f b
  obtain ⟨K2, hK2⟩ := hr
  dsimp only at hK hK2
  refine ⟨max K K2, fun k hk => ?_⟩
  show op_DecodeReply.f k b = _
  unfold op_DecodeReply.f repOut
  rw [hK k (by omega), h, Option.bind_some, if_neg (by omega), if_neg (by simp), hK2 k (by omega), Option.bind_some]
  cases hw : rwhole r.2
  · simp
  · rw [if_pos rfl]
    dsimp only
    cases hq : repOk (rep4 l).1.1 (rep4 l).1.2.1 r.1 (rep4 l).1.2.2.1 (rep4 l).1.2.2.2.1
    · simp
    · rw [if_pos rfl, if_pos ⟨rfl, rfl⟩]
theorem rowOk_R {y : S76} (h : rowOk y = true) : RowR y ∧ y.f0.size ≤ 64 ∧ y.f2.size ≤ 8192 := by
  unfold rowOk at h
  simp only [Bool.and_eq_true, decide_eq_true_eq] at h
  exact ⟨⟨by omega, by omega⟩, by omega, by omega⟩
theorem resOk_R {x : S59} (h : resOk x = true) : ResR x ∧ x.f2.size ≤ 8192 ∧ x.f3.length ≤ 100 ∧ ∀ y ∈ x.f3, rowOk y = true := by
  unfold resOk at h
  simp only [Bool.and_eq_true, decide_eq_true_eq] at h
  have hr := List.all_eq_true.1 h.1
  exact ⟨⟨⟨by omega, by omega⟩, ⟨by omega, by omega⟩, fun y hy => (rowOk_R (hr y hy)).1, by omega⟩, by omega, by omega, hr⟩
theorem repOk_R {a b : Int} {l : List S59} {c d : Int} (h : repOk a b l c d = true) : NumR a ∧ NumR b ∧ NumR c ∧ NumR d ∧ l.length ≤ 32 ∧ ∀ x ∈ l, resOk x = true := by
  unfold repOk at h
  split at h
  · rename_i h0
    split at h
    · rename_i h1
      simp only [Bool.and_eq_true, decide_eq_true_eq] at h
      exact ⟨⟨by omega, by omega⟩, ⟨by omega, by omega⟩, ⟨by omega, by omega⟩, ⟨by omega, by omega⟩, by omega, fun x hx => by rw [List.length_eq_zero_iff.1 h1] at hx; cases hx⟩
    · simp only [Bool.and_eq_true, decide_eq_true_eq] at h
      exact ⟨⟨by omega, by omega⟩, ⟨by omega, by omega⟩, ⟨by omega, by omega⟩, ⟨by omega, by omega⟩, by omega, List.all_eq_true.1 h.2.2⟩
  · cases h
theorem repF_wide {a b : Int} {l : List S59} {c d : Int} (h : repOk a b l c d = true) : Wide (repF a b l c d) := by
  obtain ⟨ha, hb, hc, hd, hl, hx⟩ := repOk_R h
  intro y hy
  unfold repF at hy
  rcases List.mem_append.1 hy with hy | hy
  · simp only [List.mem_cons, List.not_mem_nil, or_false] at hy
    rcases hy with rfl | rfl | rfl | rfl | rfl
    · exact wide_fN ha
    · exact wide_fN hb
    · exact wide_fN hc
    · exact wide_fN hd
    · exact wide_fN ⟨by omega, by omega⟩
  · obtain ⟨x, hx', hy⟩ := List.mem_flatMap.1 hy
    obtain ⟨⟨h0, h1, _, _⟩, h2, h3, h4⟩ := resOk_R (hx x hx')
    unfold resF at hy
    rcases List.mem_append.1 hy with hy | hy
    · simp only [List.mem_cons, List.not_mem_nil, or_false] at hy
      rcases hy with rfl | rfl | rfl | rfl
      · exact wide_fN h0
      · exact wide_fN h1
      · exact wide_fT h2
      · exact wide_fN ⟨by omega, by omega⟩
    · obtain ⟨z, hz, hy⟩ := List.mem_flatMap.1 hy
      obtain ⟨q0, q1, q2⟩ := rowOk_R (h4 z hz)
      simp only [rowF, List.mem_cons, List.not_mem_nil, or_false] at hy
      rcases hy with rfl | rfl | rfl
      · exact wide_fT (Nat.le_trans q1 (by decide))
      · exact wide_fN q0
      · exact wide_fT q2
/-- What EncodeReply comes to. -/
def encRep (a b : Int) (l : List S59) (c d : Int) : ByteArray × Int := if repOk a b l c d = true then encode (repF a b l c d) else (⟨#[]⟩, 80)
theorem encodeRep_f (a b : Int) (l : List S59) (c d : Int) : Ev (fun k => op_EncodeReply.f k a b l c d) (encRep a b l c d) := by
  unfold encRep
  by_cases h : repOk a b l c d = true
  · rw [if_pos h]
    refine Ev.congr (fun k => ?_) (encode_f (repF a b l c d) (fun x hx => (repF_wide h x hx).2))
    unfold op_EncodeReply.f
    rw [if_pos h]
  · rw [if_neg h]
    refine Ev.congr (fun k => ?_) (Ev.now _)
    unfold op_EncodeReply.f
    rw [if_neg h]
/-- A reply there and back. -/
theorem rep_there {a b : Int} {l : List S59} {c d : Int} (h : (encRep a b l c d).2 = 0) : Ev (fun k => op_DecodeReply.f k (encRep a b l c d).1) (a, b, l, c, d, 0) := by
  by_cases hq : repOk a b l c d = true
  · have e : encRep a b l c d = encode (repF a b l c d) := by unfold encRep; rw [if_pos hq]
    rw [e] at h ⊢
    obtain ⟨h1, h2⟩ := there (repF_wide hq) h
    obtain ⟨ha, hb, hc, hd, hl, hx⟩ := repOk_R hq
    have hn : NumR (l.length : Int) := ⟨by omega, by omega⟩
    have hh : repF a b l c d = fN a :: fN b :: fN c :: fN d :: fN (l.length : Int) :: l.flatMap resF := rfl
    · have hf := ress_fwd [] l 0 [] (fun x hx' => (resOk_R (hx x hx')).1) (by simp only [List.length_nil]; omega)
      simp only [List.append_nil, List.nil_append, Nat.zero_add] at hf
      have hr : rep4 (repF a b l c d) = ((a, b, c, d, (l.length : Int)), (l.flatMap resF, true)) := by
        unfold rep4
        rw [hh]
        simp only [rnum_fN ha, rnum_fN hb, rnum_fN hc, rnum_fN hd, rnum_fN hn]
      have := dec_rep h1 h2 (r := (l, ([], true))) (by rw [hr]; exact hf)
      rw [hr] at this
      unfold repOut at this
      rw [if_pos ⟨rfl, hq⟩] at this
      exact this
  · unfold encRep at h
    rw [if_neg hq] at h
    exact absurd h (by decide)
end Go.Proofs.Ytcpenjbgiecgnaa.Pure
