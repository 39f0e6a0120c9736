-- written by a program of ours (a template of wip/pure, filled for this seat)
import Derived.Test.YtcpenjbgiecgnaaPAllx0
import Derived.Test.YtcpenjbgiecgnaaPAllx1020
import Derived.Test.YtcpenjbgiecgnaaPAllx1054
import Derived.Test.YtcpenjbgiecgnaaBytes
/-! What the functions of package code come to: numbers and lists of fields. -/
namespace Go.Proofs.Ytcpenjbgiecgnaa.Fn
set_option linter.unusedVariables false
set_option linter.unusedSimpArgs false
open Go.RowKit Go.Proofs.YtcpenjbgiecgnaaW.PrintWords Go.Proofs.Ytcpenjbgiecgnaa.PAll Go.Proofs.Ytcpenjbgiecgnaa.Bytes

theorem wrap64_id {n : Int} (h0 : -9223372036854775808 ≤ n) (h1 : n ≤ 9223372036854775807) : wrap64 n = n := by unfold wrap64; omega
theorem Ev.const {α : Type} {g : Nat → Option α} {r : α} (h : ∀ k, g k = some r) : Ev g r := ⟨0, fun k _ => h k⟩
theorem byte_toNat (n : Nat) : ((UInt8.ofNat (n % 256)).toNat : Int) = (n : Int) % 256 := by
  rw [UInt8.toNat_ofNat']; omega

theorem onto_l0 (y : Int) : ∀ (n : Nat) (m : Int) (i : Int) (l : List Int), (digs n).length = (m - i).toNat → 0 ≤ i → i ≤ m → m ≤ 8 → l.length + 8 ≤ 140737488355328 + i.toNat →
    Ev (fun k => code_little_uint64_onto.l0 k l m i (n : Int) y) (l ++ I (digs n)) := by
  intro n
  induction n using Nat.strongRecOn with
  | _ n ih =>
    intro m i l hd h0 h1 hm hl
    rcases Nat.eq_zero_or_pos n with rfl | hp
    · rw [digs_zero] at hd ⊢
      refine Ev.step (f := fun _ => some l) (fun k => ?_) (by simpa [I] using Ev.now l)
      simp only [code_little_uint64_onto.l0]
      simp only [List.length_nil] at hd
      rw [if_neg (by omega)]
    · rw [digs_pos hp, List.length_cons] at hd
      have hlt : i < m := by omega
      have := ih (n / 256) (by omega) m (i + 1) (l ++ [(n : Int) % 256]) (by omega) (by omega) (by omega) hm (by rw [List.length_append, List.length_singleton]; omega)
      rw [digs_pos hp, I_cons, byte_toNat, List.append_cons]
      refine Ev.step (fun k => ?_) this
      simp only [code_little_uint64_onto.l0]
      rw [if_pos hlt, if_pos (by omega), wrap64_id (by omega) (by omega)]
      congr 1

theorem number_l0 (n0 : Int) (N : Nat) (hN : IntKind.u64.wrap n0 = (N : Int)) : ∀ (r : Nat) (c : Nat) (l : List Int), c + (digs r).length = (digs N).length → (digs N).length ≤ 8 → l.length + 16 ≤ 140737488355328 →
    Ev (fun k => code_number.l0 k l n0 (c : Int) (r : Int)) (l ++ I (num N)) := by
  intro r
  induction r using Nat.strongRecOn with
  | _ r ih =>
    intro c l hc h8 hl
    rcases Nat.eq_zero_or_pos r with rfl | hp
    · rw [digs_zero, List.length_nil] at hc
      have hc' : c = (digs N).length := by omega
      subst hc'
      have ho := onto_l0 ((digs N).length : Int) N ((digs N).length : Int) 0 (l ++ [((digs N).length : Int) % 256]) (by omega) (by omega) (by omega) (by omega) (by rw [List.length_append, List.length_singleton]; omega)
      have hf : (l ++ [((digs N).length : Int) % 256]) ++ I (digs N) = l ++ I (num N) := by
        have := byte_toNat (digs N).length
        rw [Nat.mod_eq_of_lt (by omega : (digs N).length < 256)] at this
        rw [num, I_cons, this, List.append_assoc, List.singleton_append]
      rw [hf] at ho
      refine Ev.step (fun k => ?_) (Ev.bind (f := fun _ x => some x) (Ev.bind (f := fun _ x => some x) ho (Ev.now _)) (Ev.now _))
      simp only [code_number.l0]
      rw [if_neg (by omega), if_pos (by omega), hN]
      rfl
    · have hd := digs_pos hp
      have := ih (r / 256) (by omega) (c + 1) l (by rw [hd, List.length_cons] at hc; omega) h8 hl
      refine Ev.step (fun k => ?_) this
      simp only [code_number.l0]
      have : (c : Int) ≤ 8 := by rw [hd, List.length_cons] at hc; omega
      rw [if_pos (by omega), wrap64_id (by omega) (by omega)]
      rfl
theorem u64_wrap (n : Int) : IntKind.u64.wrap n = (u64 n : Int) := by
  have : IntKind.u64.wrap n = n % 18446744073709551616 := by simp [IntKind.wrap, IntKind.bits, IntKind.signed]
  rw [this, u64]; omega
theorem number_f (l : List Int) (n : Int) (hl : l.length + 16 ≤ 140737488355328) : Ev (fun k => code_number.f k l n) (l ++ I (num (u64 n))) := by
  have := number_l0 n (u64 n) (u64_wrap n) (u64 n) 0 l (by omega) (digs_u64 n) hl
  refine Ev.congr (fun k => ?_) this
  simp only [code_number.f]
  rw [u64_wrap]
  rfl

/-! Fields -/
/-- May a field be? -/
def ok (x : S62) : Bool := if x.f0 then x.f1 == 0 else (L x.f2).isEmpty
/-- A field's bytes. -/
def one (x : S62) : List UInt8 := if x.f0 then 84 :: num x.f2.size ++ L x.f2 else 78 :: num (u64 x.f1)
/-- The bytes of a list. -/
def enc (l : List S62) : List UInt8 := l.flatMap one
theorem enc_nil : enc [] = [] := rfl
theorem enc_cons (x : S62) (l : List S62) : enc (x :: l) = one x ++ enc l := rfl
theorem enc_append (a b : List S62) : enc (a ++ b) = enc a ++ enc b := by simp [enc]
theorem num_length (n : Nat) : (num n).length = (digs n).length + 1 := by simp [num]
theorem one_length_pos (x : S62) : 2 ≤ (one x).length := by
  unfold one
  split
  · simp [num_length]; omega
  · simp [num_length]
/-- What Encode comes to. -/
def encode (l : List S62) : ByteArray × Int :=
  if l.length > 4096 then (⟨#[]⟩, 2)
  else if l.all ok = false then (⟨#[]⟩, 4)
  else if (enc l).length > 262144 then (⟨#[]⟩, 2)
  else (strOfNums (I (enc l)), 0)
theorem rd_get (l : List S62) (i : Nat) (h : i < l.length) : rd_T62 l (i : Int) = l[i] := by
  unfold rd_T62
  rw [Int.toNat_natCast, List.getD_eq_getElem?_getD, List.getElem?_eq_getElem h]
  rfl
theorem isEmpty_toList (s : ByteArray) : s.toList = ([] : List UInt8) ↔ (L s).isEmpty = true := by rw [toList_L]; simp

theorem encode_l1 (l : List S62) (hl : l.length ≤ 4096) (hs : ∀ x ∈ l, x.f2.size ≤ 140737488351232) : ∀ (d i : Nat), i + d = l.length → (enc (l.take i)).length ≤ 262144 →
    Ev (fun k => code_Encode.l1 k (I (enc (l.take i))) l (l.length : Int) (i : Int)) (if (enc l).length > 262144 then (⟨#[]⟩, 2) else (strOfNums (I (enc l)), 0)) := by
  intro d
  induction d with
  | zero =>
    intro i hi hb
    have : i = l.length := by omega
    subst this
    rw [List.take_length] at hb ⊢
    rw [if_neg (by omega)]
    refine Ev.step (f := fun _ => some (strOfNums (I (enc l)), 0)) (fun k => ?_) (Ev.now _)
    simp only [code_Encode.l1]
    rw [if_neg (by omega)]
  | succ d ih =>
    intro i hi hb
    have hlt : i < l.length := by omega
    have hx := hs l[i] (List.getElem_mem hlt)
    have htk : l.take (i + 1) = l.take i ++ [l[i]] := List.take_succ_eq_append_getElem hlt
    have he : enc (l.take (i + 1)) = enc (l.take i) ++ one l[i] := by rw [htk, enc_append]; simp [enc]
    have hle : (enc (l.take (i + 1))).length ≤ (enc l).length := by
      have : enc l = enc (l.take (i + 1)) ++ enc (l.drop (i + 1)) := by rw [← enc_append, List.take_append_drop]
      rw [this, List.length_append]; omega
    have hlI : (I (enc (l.take i))).length ≤ 262144 := by rw [I_length]; exact hb
    have hfin : Ev (fun k => if ((I (enc (l.take (i + 1)))).length : Int) > 262144 then some ((⟨#[]⟩ : ByteArray), (2 : Int)) else code_Encode.l1 k (I (enc (l.take (i + 1)))) l (l.length : Int) ((i + 1 : Nat) : Int)) (if (enc l).length > 262144 then (⟨#[]⟩, 2) else (strOfNums (I (enc l)), 0)) := by
      by_cases hb2 : (enc (l.take (i + 1))).length > 262144
      · rw [if_pos (by omega)]
        refine Ev.const fun k => ?_
        rw [if_pos (by rw [I_length]; omega)]
      · refine Ev.congr (fun k => ?_) (ih (i + 1) (by omega) (by omega))
        rw [if_neg (by rw [I_length]; omega)]
    by_cases hf0 : l[i].f0 = true
    · have hn := number_f (I (enc (l.take i)) ++ [84]) (l[i].f2.size : Int) (by rw [List.length_append, List.length_singleton]; omega)
      rw [u64_nat (by omega)] at hn
      have he2 : (I (enc (l.take i)) ++ [84]) ++ I (num l[i].f2.size) ++ bytesOf l[i].f2 = I (enc (l.take (i + 1))) := by
        rw [he, I_append, one, if_pos hf0, bytesOf_I, I_append, I_cons]
        simp only [List.append_assoc, List.singleton_append, List.cons_append]
        rfl
      have hsz : ((I (enc (l.take i)) ++ [84]) ++ I (num l[i].f2.size)).length + l[i].f2.size < 141836999983104 := by
        have := digs_length 8 l[i].f2.size (by omega)
        simp only [List.length_append, List.length_singleton, I_length, num_length] at hlI ⊢
        omega
      obtain ⟨K1, h1⟩ := hn
      obtain ⟨K2, h2⟩ := hfin
      dsimp only at h1 h2
      refine ⟨max K1 K2 + 1, fun k hk => ?_⟩
      obtain ⟨k, rfl⟩ : ∃ m, k = m + 1 := ⟨k - 1, by omega⟩
      have h2 := h2 k (by omega)
      simp only [code_Encode.l1]
      rw [if_pos (by omega), if_pos (by omega), if_pos (by omega), rd_get l i hlt, if_pos hf0, if_pos (by omega), h1 k (by omega)]
      simp only [Option.bind_some]
      rw [if_pos hsz, he2, wrap64_id (by omega) (by omega)]
      exact h2
    · have hn := number_f (I (enc (l.take i)) ++ [78]) l[i].f1 (by rw [List.length_append, List.length_singleton]; omega)
      have he2 : (I (enc (l.take i)) ++ [78]) ++ I (num (u64 l[i].f1)) = I (enc (l.take (i + 1))) := by
        rw [he, I_append, one, if_neg hf0, I_cons]
        simp only [List.append_assoc, List.singleton_append]
        rfl
      rw [he2] at hn
      obtain ⟨K1, h1⟩ := hn
      obtain ⟨K2, h2⟩ := hfin
      dsimp only at h1 h2
      refine ⟨max K1 K2 + 1, fun k hk => ?_⟩
      obtain ⟨k, rfl⟩ : ∃ m, k = m + 1 := ⟨k - 1, by omega⟩
      have h2 := h2 k (by omega)
      simp only [code_Encode.l1]
      rw [if_pos (by omega), if_pos (by omega), if_pos (by omega), rd_get l i hlt, if_neg hf0, if_pos (by omega), h1 k (by omega)]
      simp only [Option.bind_some]
      rw [wrap64_id (by omega) (by omega)]
      exact h2

theorem encode_l0 (l : List S62) (hl : l.length ≤ 4096) (hs : ∀ x ∈ l, x.f2.size ≤ 140737488351232) : ∀ (d i : Nat), i + d = l.length →
    Ev (fun k => code_Encode.l0 k l l (l.length : Int) (i : Int)) (if (l.drop i).all ok = false then (⟨#[]⟩, 4) else if (enc l).length > 262144 then (⟨#[]⟩, 2) else (strOfNums (I (enc l)), 0)) := by
  intro d
  induction d with
  | zero =>
    intro i hi
    have : i = l.length := by omega
    subst this
    obtain ⟨K, h⟩ := encode_l1 l hl hs l.length 0 (by omega) (by simp [enc])
    refine ⟨K + 1, fun k hk => ?_⟩
    obtain ⟨k, rfl⟩ : ∃ m, k = m + 1 := ⟨k - 1, by omega⟩
    have h := h k (by omega)
    simp only [code_Encode.l0]
    rw [if_neg (by omega), List.drop_length, if_neg (by simp)]
    exact h
  | succ d ih =>
    intro i hi
    have hlt : i < l.length := by omega
    obtain ⟨K, h⟩ := ih (i + 1) (by omega)
    refine ⟨K + 1, fun k hk => ?_⟩
    obtain ⟨k, rfl⟩ : ∃ m, k = m + 1 := ⟨k - 1, by omega⟩
    have h := h k (by omega)
    have hw : wrap64 ((i : Int) + 1) = ((i + 1 : Nat) : Int) := by rw [wrap64_id (by omega) (by omega)]; rfl
    simp only [code_Encode.l0]
    rw [if_pos (by omega), if_pos (by omega), if_pos (by omega), rd_get l i hlt, hw, List.drop_eq_getElem_cons hlt, List.all_cons]
    by_cases hf0 : l[i].f0 = true
    · rw [if_pos hf0, if_pos hf0]
      by_cases hf1 : l[i].f1 = 0
      · have hok : ok l[i] = true := by simp [ok, hf0, hf1]
        rw [if_pos hf1, hok, Bool.true_and]
        exact h
      · have hok : ok l[i] = false := by simp [ok, hf0, hf1]
        rw [if_neg hf1, hok, Bool.false_and, if_pos rfl]
    · rw [if_neg hf0, if_neg hf0]
      by_cases hf2 : l[i].f2.toList = ([] : List UInt8)
      · have hok : ok l[i] = true := by simp only [ok, hf0]; exact (isEmpty_toList _).1 hf2
        rw [if_pos hf2, hok, Bool.true_and]
        exact h
      · have hok : ok l[i] = false := by
          simp only [ok, hf0]
          cases he : (L l[i].f2).isEmpty with
          | false => rfl
          | true => exact absurd ((isEmpty_toList _).2 he) hf2
        rw [if_neg hf2, hok, Bool.false_and, if_pos rfl]

theorem encode_f (l : List S62) (hs : ∀ x ∈ l, x.f2.size ≤ 140737488351232) : Ev (fun k => code_Encode.f k l) (encode l) := by
  unfold encode
  by_cases hl : l.length > 4096
  · rw [if_pos hl]
    refine Ev.const fun k => ?_
    simp only [code_Encode.f]
    rw [if_pos (by omega)]
  · rw [if_neg hl]
    obtain ⟨K, h⟩ := encode_l0 l (by omega) hs l.length 0 (by omega)
    refine ⟨K, fun k hk => ?_⟩
    have h := h k hk
    simp only [code_Encode.f]
    rw [if_neg (by omega)]
    exact h
theorem encode_ok {l : List S62} (h : (encode l).2 = 0) : l.length ≤ 4096 ∧ l.all ok = true ∧ (enc l).length ≤ 262144 ∧ encode l = (strOfNums (I (enc l)), 0) := by
  unfold encode at h ⊢
  split at h
  · exact absurd h (by decide)
  · split at h
    · exact absurd h (by decide)
    · split at h
      · exact absurd h (by decide)
      · rename_i h1 h2 h3
        rw [if_neg h1, if_neg h2, if_neg h3]
        exact ⟨by omega, by simpa using h2, by omega, rfl⟩
theorem encode_err {l : List S62} (h : (encode l).2 ≠ 0) : (encode l).1 = ⟨#[]⟩ := by
  unfold encode at h ⊢
  split
  · rfl
  · split
    · rfl
    · split
      · rfl
      · rename_i h1 h2 h3
        rw [if_neg h1, if_neg h2, if_neg h3] at h
        exact absurd rfl h
end Go.Proofs.Ytcpenjbgiecgnaa.Fn
