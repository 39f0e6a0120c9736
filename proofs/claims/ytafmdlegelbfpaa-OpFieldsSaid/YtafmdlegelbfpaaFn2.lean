-- written by a program of ours (a template of wip/pure, filled for this seat)
import Derived.Test.YtafmdlegelbfpaaHField
import Derived.Test.YtafmdlegelbfpaaPAllx0
import Derived.Test.YtafmdlegelbfpaaPAllx1092
import Derived.Test.YtafmdlegelbfpaaFn
import Derived.Laws.BitsAllLaws
/-! What the functions of package code come to: bytes that are read. -/
namespace Go.Proofs.Ytafmdlegelbfpaa.Fn
set_option linter.unusedVariables false
set_option linter.unusedSimpArgs false
open Go.RowKit Go.Proofs.YtafmdlegelbfpaaW.PrintWords Go.Proofs.Ytafmdlegelbfpaa.PAll Go.Proofs.Ytafmdlegelbfpaa.Bytes

theorem or_join (a b : Nat) (ha : a < 72057594037927936) (hb : b < 256) : Go.bits .or .u64 (IntKind.u64.wrap ((a : Int) * 256)) (IntKind.u64.wrap (b : Int)) = ((b + 256 * a : Nat) : Int) := by
  have h1 : IntKind.u64.wrap ((a : Int) * 256) = ((256 * a : Nat) : Int) := by rw [u64_wrap, u64]; omega
  have h2 : IntKind.u64.wrap (b : Int) = (b : Int) := by rw [u64_wrap, u64]; omega
  rw [h1, h2, u64_or_nat _ _ (by omega) (by omega), nat_join 8 (256 * a) b (by omega) (by omega), Nat.add_comm]

theorem unlow_l0 (s : ByteArray) (hs : s.size ≤ 8) : ∀ (j : Nat), j ≤ s.size →
    Ev (fun k => code_unlow_uint64.l0 k s (unl ((L s).drop j) : Int) ((j : Int) - 1)) (unl (L s) : Int) := by
  intro j
  induction j with
  | zero =>
    intro _
    refine Ev.step (f := fun _ => some (unl (L s) : Int)) (fun k => ?_) (Ev.now _)
    simp only [code_unlow_uint64.l0]
    rw [if_neg (by omega)]
    rfl
  | succ j ih =>
    intro hj
    have hlt : j < (L s).length := by rw [L_length]; omega
    have hd : (L s).drop j = (L s)[j] :: (L s).drop (j + 1) := List.drop_eq_getElem_cons hlt
    have hb := (L s)[j].toNat_lt
    have hu := unl_lt ((L s).drop (j + 1))
    have hl : ((L s).drop (j + 1)).length ≤ 7 := by rw [List.length_drop, L_length]; omega
    have hp : (256 : Nat) ^ ((L s).drop (j + 1)).length ≤ 256 ^ 7 := Nat.pow_le_pow_right (by omega) hl
    refine Ev.step (fun k => ?_) (ih (by omega))
    simp only [code_unlow_uint64.l0]
    rw [if_pos (by omega), if_pos (by omega), if_pos (by omega), show ((j + 1 : Nat) : Int) - 1 = (j : Int) by omega, bt_L s j hlt, or_join _ _ (by omega) hb, wrap64_id (by omega) (by omega), hd, unl]
theorem unlow_f (s : ByteArray) (hs : s.size ≤ 8) : Ev (fun k => code_unlow_uint64.f k s) (unl (L s) : Int) := by
  have := unlow_l0 s hs s.size (Nat.le_refl _)
  refine Ev.congr (fun k => ?_) this
  simp only [code_unlow_uint64.f]
  rw [wrap64_id (by omega) (by omega), List.drop_of_length_le (by rw [L_length]; omega)]
  rfl

/-- A number of 64 bits as an int64. -/
def i64 (n : Nat) : Int := wrap64 (n : Int)
/-- A field that stands ahead, and what is left; or what is wrong. -/
def fld : List UInt8 → Except Int (S110 × List UInt8)
  | [] => .error 0
  | [c] => if c ≠ 78 ∧ c ≠ 84 then .error 3 else .error 11
  | c :: m :: t =>
    if c ≠ 78 ∧ c ≠ 84 then .error 3
    else if m.toNat > 8 then .error 3
    else if t.length < m.toNat then .error 11
    else if (t.take m.toNat).getLast? = some 0 then .error 3
    else if c = 78 then .ok (⟨false, i64 (unl (t.take m.toNat)), ⟨#[]⟩⟩, t.drop m.toNat)
    else if unl (t.take m.toNat) > 262144 then .error 3
    else if (t.drop m.toNat).length < unl (t.take m.toNat) then .error 11
    else .ok (⟨true, 0, ⟨((t.drop m.toNat).take (unl (t.take m.toNat))).toArray⟩⟩, (t.drop m.toNat).drop (unl (t.take m.toNat)))
def fldR (l : List UInt8) : Bool × Int × ByteArray × ByteArray × Int :=
  match fld l with
  | .error e => (false, 0, ⟨#[]⟩, ⟨#[]⟩, e)
  | .ok (x, r) => (x.f0, x.f1, x.f2, ⟨r.toArray⟩, 0)
theorem of_L {s : ByteArray} {l : List UInt8} (h : L s = l) : s = ⟨l.toArray⟩ := L_inj (by rw [h, L_mk])
theorem i64_range (u : Nat) (h : u < 18446744073709551616) : i64 u = if u < 9223372036854775808 then (u : Int) else (u : Int) - 18446744073709551616 := by
  unfold i64 wrap64; split <;> omega
theorem i64_small {u : Nat} (h : ¬ u > 262144) : i64 u = (u : Int) := by unfold i64; rw [wrap64_id (by omega) (by omega)]
theorem i64_big {u : Nat} (h : u > 262144) (h2 : u < 18446744073709551616) : i64 u < 0 ∨ i64 u > 262144 := by unfold i64 wrap64; omega
theorem u8_ofNat_eq (c : UInt8) (n : Nat) (hn : n < 256) : ((c.toNat : Int) = (n : Int)) ↔ c = UInt8.ofNat n := by
  constructor
  · intro h
    apply UInt8.toNat_inj.1
    rw [UInt8.toNat_ofNat']
    omega
  · rintro rfl
    rw [UInt8.toNat_ofNat']
    omega
theorem c78 (c : UInt8) : ((c.toNat : Int) = 78) ↔ c = 78 := u8_ofNat_eq c 78 (by omega)
theorem c84 (c : UInt8) : ((c.toNat : Int) = 84) ↔ c = 84 := u8_ofNat_eq c 84 (by omega)
theorem c0 (c : UInt8) : ((c.toNat : Int) = 0) ↔ c = 0 := u8_ofNat_eq c 0 (by omega)

theorem field_f (s : ByteArray) (hs : 0 < s.size) : Ev (fun k => code_field.f k s) (fldR (L s)) := by
  cases hL : L s with
  | nil => have := L_length s; rw [hL] at this; simp at this; omega
  | cons c l =>
    have hsz : s.size = l.length + 1 := by rw [← L_length, hL]; rfl
    have hc : bt s 0 = (c.toNat : Int) := by
      have := bt_L s 0 (by rw [hL]; simp)
      simpa [hL] using this
    by_cases hk : c ≠ 78 ∧ c ≠ 84
    · refine Ev.const fun k => ?_
      have hr : fldR (c :: l) = (false, 0, ⟨#[]⟩, ⟨#[]⟩, 3) := by cases l <;> simp [fldR, fld, hk]
      rw [hr]
      simp only [code_field.f]
      rw [if_neg (by omega), hc, if_pos ⟨fun h => hk.1 ((c78 c).1 h), fun h => hk.2 ((c84 c).1 h)⟩]
      rfl
    · have hk' : ¬ ((c.toNat : Int) ≠ 78 ∧ (c.toNat : Int) ≠ 84) := by rw [Ne, Ne, c78, c84]; exact hk
      cases l with
      | nil =>
        refine Ev.const fun k => ?_
        simp only [code_field.f]
        rw [if_neg (by omega), hc, if_neg hk', if_pos (by simp at hsz; omega)]
        simp [fldR, fld, hk, code_field.r]
      | cons m t =>
        have hm : bt s 1 = (m.toNat : Int) := by
          have := bt_L s 1 (by rw [hL]; simp)
          simpa [hL] using this
        have hm8 := m.toNat_lt
        simp only [List.length_cons] at hsz
        have hb : s.extract 2 s.size = ⟨t.toArray⟩ := of_L (by
          rw [L_extract, hL, hsz, List.take_of_length_le (by simp)]; rfl)
        have hbs : (⟨t.toArray⟩ : ByteArray).size = t.length := by rw [← L_length, L_mk]
        by_cases h1 : m.toNat > 8
        · refine Ev.const fun k => ?_
          simp only [code_field.f, code_field.s]
          rw [if_neg (by omega), hc, if_neg hk', if_neg (by omega), hm, if_pos (by omega)]
          simp only [fldR, fld, if_neg hk, if_pos h1]
          rfl
        by_cases h2 : t.length < m.toNat
        · refine Ev.const fun k => ?_
          simp only [code_field.f, code_field.s]
          rw [if_neg (by omega), hc, if_neg hk', if_neg (by omega), hm, if_neg (by omega), hb, hbs, if_pos (by omega)]
          simp only [fldR, fld, if_neg hk, if_neg h1, if_pos h2]
          rfl
        have hlast : ((m.toNat : Int) > 0 ∧ bt ⟨t.toArray⟩ ((m.toNat : Int) - 1) = 0) ↔ (t.take m.toNat).getLast? = some 0 := by
          rw [List.getLast?_eq_getElem?, List.length_take, Nat.min_eq_left (by omega)]
          constructor
          · rintro ⟨hp, hz⟩
            have hlt : m.toNat - 1 < t.length := by omega
            have := bt_L ⟨t.toArray⟩ (m.toNat - 1) (by rw [L_mk]; exact hlt)
            rw [show ((m.toNat - 1 : Nat) : Int) = (m.toNat : Int) - 1 by omega, hz] at this
            simp only [L_mk] at this
            rw [List.getElem?_take_of_lt (by omega), List.getElem?_eq_getElem hlt, (c0 _).1 this.symm]
          · intro h
            by_cases hp : m.toNat = 0
            · rw [hp] at h; simp at h
            have hlt : m.toNat - 1 < t.length := by omega
            rw [List.getElem?_take_of_lt (by omega), List.getElem?_eq_getElem hlt] at h
            injection h with h
            refine ⟨by omega, ?_⟩
            have := bt_L ⟨t.toArray⟩ (m.toNat - 1) (by rw [L_mk]; exact hlt)
            rw [show ((m.toNat - 1 : Nat) : Int) = (m.toNat : Int) - 1 by omega] at this
            rw [this]
            simp only [L_mk, h]
            rfl
        by_cases h3 : (t.take m.toNat).getLast? = some 0
        · refine Ev.const fun k => ?_
          simp only [code_field.f, code_field.s]
          rw [if_neg (by omega), hc, if_neg hk', if_neg (by omega), hm, if_neg (by omega), hb, hbs, if_neg (by omega), if_pos (hlast.2 h3)]
          simp only [fldR, fld, if_neg hk, if_neg h1, if_neg h2, if_pos h3]
          rfl
        have he1 : (⟨t.toArray⟩ : ByteArray).extract 0 m.toNat = ⟨(t.take m.toNat).toArray⟩ := of_L (by rw [L_extract, L_mk]; rfl)
        have he2 : (⟨t.toArray⟩ : ByteArray).extract m.toNat (⟨t.toArray⟩ : ByteArray).size = ⟨(t.drop m.toNat).toArray⟩ := of_L (by rw [L_extract, L_mk, hbs, List.take_length])
        have hu := unlow_f ⟨(t.take m.toNat).toArray⟩ (by rw [← L_length, L_mk, List.length_take]; omega)
        rw [L_mk] at hu
        obtain ⟨K, hu⟩ := hu
        dsimp only at hu
        have hlt := unl_lt (t.take m.toNat)
        have hlt2 : (256 : Nat) ^ (t.take m.toNat).length ≤ 256 ^ 8 := Nat.pow_le_pow_right (by omega) (by rw [List.length_take]; omega)
        have h64 : unl (t.take m.toNat) < 18446744073709551616 := Nat.lt_of_lt_of_le hlt (Nat.le_trans hlt2 (by decide))
        clear hlt hlt2
        have hbs2 : (⟨(t.drop m.toNat).toArray⟩ : ByteArray).size = (t.drop m.toNat).length := by rw [← L_length, L_mk]
        refine ⟨K, fun k hkk => ?_⟩
        simp only [code_field.f, code_field.s]
        rw [if_neg (by omega), hc, if_neg hk', if_neg (by omega), hm, if_neg (by omega), hb, hbs, if_neg (by omega), if_neg (fun h => h3 (hlast.1 h)), Int.toNat_natCast, he1, hu k hkk]
        simp only [Option.bind_some]
        rw [← hbs, he2]
        simp only [fldR, fld, if_neg hk, if_neg h1, if_neg h2, if_neg h3, code_field.t]
        by_cases h4 : c = 78
        · rw [if_pos ((c78 c).2 h4), if_pos h4]
          rfl
        rw [if_neg (fun h => h4 ((c78 c).1 h)), if_neg h4]
        change (if i64 _ < 0 then _ else if i64 _ > 262144 then _ else if _ < i64 _ then _ else some (true, 0, ByteArray.extract _ 0 (i64 _).toNat, ByteArray.extract _ (i64 _).toNat _, 0)) = _
        by_cases h5 : unl (t.take m.toNat) > 262144
        · rw [if_pos h5]
          by_cases h6 : i64 (unl (t.take m.toNat)) < 0
          · rw [if_pos h6]; rfl
          · rw [if_neg h6, if_pos ((i64_big h5 h64).resolve_left h6)]; rfl
        rw [if_neg h5]
        rw [i64_small h5, if_neg (by omega), if_neg (by omega), hbs2]
        by_cases h7 : (t.drop m.toNat).length < unl (t.take m.toNat)
        · rw [if_pos (by omega), if_pos h7]; rfl
        · rw [if_neg (by omega), if_neg h7, Int.toNat_natCast]
          have e1 : (⟨(t.drop m.toNat).toArray⟩ : ByteArray).extract 0 (unl (t.take m.toNat)) = ⟨((t.drop m.toNat).take (unl (t.take m.toNat))).toArray⟩ := of_L (by rw [L_extract, L_mk]; rfl)
          have e2 : (⟨(t.drop m.toNat).toArray⟩ : ByteArray).extract (unl (t.take m.toNat)) (t.drop m.toNat).length = ⟨((t.drop m.toNat).drop (unl (t.take m.toNat))).toArray⟩ := of_L (by rw [L_extract, L_mk, List.take_length])
          rw [e1, e2]
end Go.Proofs.Ytafmdlegelbfpaa.Fn
