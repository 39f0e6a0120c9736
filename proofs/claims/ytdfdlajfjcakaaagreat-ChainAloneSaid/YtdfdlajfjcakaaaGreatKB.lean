-- written by a program of ours (several texts, one behind the other)
import Derived.Test.YtdfdlajfjcakaaaGreatQA
import Derived.Test.YtdfdlajfjcakaaaGreatPAllx0
import Derived.Test.YtdfdlajfjcakaaaGreatPAllx1087
import Derived.Test.YtdfdlajfjcakaaaGreatPAllx1122
import Derived.Test.YtdfdlajfjcakaaaGreatHField
import Derived.Test.YtdfdlajfjcakaaaGreatPAllx1101
import Derived.Laws.BitsAllLaws
import Derived.Test.YtdfdlajfjcakaaaGreatPAllx1069
import Derived.Test.YtdfdlajfjcakaaaGreatHCheck
import Derived.Test.YtdfdlajfjcakaaaGreatHCheckAll
import Derived.Test.YtdfdlajfjcakaaaGreatHEncode
import Derived.Test.YtdfdlajfjcakaaaGreatHWriter
import Derived.Test.YtdfdlajfjcakaaaGreatHDecode
import Derived.Test.YtdfdlajfjcakaaaGreatHReader
/-! Bytes of texts as lists: plain facts. -/
namespace Go.Proofs.YtdfdlajfjcakaaaGreat.Bytes
set_option linter.unusedVariables false
set_option linter.unusedSimpArgs false
open Go.RowKit Go.Proofs.YtdfdlajfjcakaaaGreatW.PrintWords

/-- A text's bytes. -/
def L (s : ByteArray) : List UInt8 := s.data.toList
theorem L_inj {s t : ByteArray} (h : L s = L t) : s = t := by
  cases s; cases t
  simp only [L, Array.toList_inj] at h
  rw [h]
theorem L_length (s : ByteArray) : (L s).length = s.size := Array.length_toList
theorem L_append (s t : ByteArray) : L (s ++ t) = L s ++ L t := by simp [L]
theorem L_mk (l : List UInt8) : L ⟨l.toArray⟩ = l := by simp [L]
theorem L_extract (s : ByteArray) (a b : Nat) : L (s.extract a b) = ((L s).take b).drop a := by
  show (s.extract a b).data.toList = _
  rw [ByteArray.data_extract, Array.toList_extract, List.extract_eq_take_drop, List.drop_take]
  rfl
theorem toList_loop (s : ByteArray) (n : Nat) : ∀ (i : Nat) (r : List UInt8), s.size - i = n → ByteArray.toList.loop s i r = r.reverse ++ (L s).drop i := by
  induction n with
  | zero =>
    intro i r h
    rw [ByteArray.toList.loop, if_neg (by omega), List.drop_of_length_le (by rw [L_length]; omega), List.append_nil]
  | succ n ih =>
    intro i r h
    have hi : i < s.size := by omega
    rw [ByteArray.toList.loop, if_pos hi, ih (i + 1) _ (by omega), List.drop_eq_getElem_cons (i := i) (by rw [L_length]; exact hi)]
    have : s.get! i = (L s)[i]'(by rw [L_length]; exact hi) := by
      cases s with
      | mk a =>
        have hi' : i < a.size := hi
        simp only [ByteArray.get!, L, Array.getElem_toList]
        exact getElem!_pos a i hi'
    rw [this]
    simp
theorem toList_L (s : ByteArray) : s.toList = L s := by
  rw [ByteArray.toList, toList_loop s s.size 0 [] (by omega)]
  simp
theorem size_L (s : ByteArray) : s.size = (L s).length := (L_length s).symm
/-- A byte told as a number. -/
def I (l : List UInt8) : List Int := l.map fun b => (b.toNat : Int)
theorem I_append (l m : List UInt8) : I (l ++ m) = I l ++ I m := by simp [I]
theorem I_length (l : List UInt8) : (I l).length = l.length := by simp [I]
theorem I_cons (b : UInt8) (l : List UInt8) : I (b :: l) = (b.toNat : Int) :: I l := rfl
theorem I_nil : I [] = [] := rfl
theorem bytesOf_I (s : ByteArray) : bytesOf s = I (L s) := rfl
theorem strOf_I (l : List UInt8) : L (strOfNums (I l)) = l := by
  show (strOfNums (I l)).data.toList = l
  rw [strOfNums_data, I, List.map_map]
  conv => rhs; rw [← List.map_id l]
  apply List.map_congr_left
  intro a _
  simp
theorem bt_L (s : ByteArray) (i : Nat) (h : i < (L s).length) : bt s (i : Int) = ((L s)[i].toNat : Int) := by
  have h' : i < s.size := by rw [← L_length]; exact h
  have := bt_at s (i : Int) h'
  rw [← this]
  rfl

/-! Numbers, lowest byte first -/
def digs (n : Nat) : List UInt8 := if h : n = 0 then [] else UInt8.ofNat (n % 256) :: digs (n / 256)
decreasing_by omega
theorem digs_zero : digs 0 = [] := by rw [digs]; simp
theorem digs_pos {n : Nat} (h : 0 < n) : digs n = UInt8.ofNat (n % 256) :: digs (n / 256) := by rw [digs, dif_neg (by omega)]
def unl : List UInt8 → Nat
  | [] => 0
  | b :: l => b.toNat + 256 * unl l
theorem unl_digs (n : Nat) : unl (digs n) = n := by
  induction n using Nat.strongRecOn with
  | _ n ih =>
    rcases Nat.eq_zero_or_pos n with rfl | h
    · rw [digs_zero]; rfl
    · rw [digs_pos h, unl, ih _ (by omega)]
      simp
      omega
theorem unl_lt (l : List UInt8) : unl l < 256 ^ l.length := by
  induction l with
  | nil => simp [unl]
  | cons b l ih =>
    have := b.toNat_lt
    simp only [unl, List.length_cons, Nat.pow_succ]
    omega
theorem digs_length (m : Nat) : ∀ n, n < 256 ^ m → (digs n).length ≤ m := by
  induction m with
  | zero => intro n h; have : n = 0 := by simpa using h
            subst this; rw [digs_zero]; simp
  | succ m ih =>
    intro n h
    rcases Nat.eq_zero_or_pos n with rfl | hp
    · rw [digs_zero]; simp
    · rw [digs_pos hp, List.length_cons]
      have := ih (n / 256) (by rw [Nat.pow_succ] at h; omega)
      omega
theorem digs_last (n : Nat) (h : 0 < n) : ∀ x, (digs n).getLast? = some x → x ≠ 0 := by
  induction n using Nat.strongRecOn with
  | _ n ih =>
    intro x hx
    rw [digs_pos h] at hx
    rcases Nat.eq_zero_or_pos (n / 256) with h0 | hp
    · rw [h0, digs_zero] at hx
      simp at hx
      subst hx
      intro e
      have := congrArg UInt8.toNat e
      simp at this
      omega
    · rw [digs_pos hp, List.getLast?_cons_cons, ← digs_pos hp] at hx
      exact ih _ (by omega) hp x hx
theorem unl_pos (l : List UInt8) : ∀ x, l.getLast? = some x → x ≠ 0 → 0 < unl l := by
  induction l with
  | nil => intro x h; cases h
  | cons b l ih =>
    intro x h hx
    cases l with
    | nil =>
      simp at h
      subst h
      have : b.toNat ≠ 0 := fun e => hx (by apply UInt8.toNat_inj.1; simpa using e)
      simp [unl]; omega
    | cons c l =>
      rw [List.getLast?_cons_cons] at h
      have := ih x h hx
      simp only [unl] at this ⊢
      omega
theorem digs_unl (l : List UInt8) (h : ∀ x, l.getLast? = some x → x ≠ 0) : digs (unl l) = l := by
  induction l with
  | nil => rw [unl, digs_zero]
  | cons b l ih =>
    have hb := b.toNat_lt
    have hl : ∀ x, l.getLast? = some x → x ≠ 0 := by
      intro x hx
      cases l with
      | nil => cases hx
      | cons c l => exact h x (by rw [List.getLast?_cons_cons]; exact hx)
    have hp : 0 < unl (b :: l) := by
      cases hg : (b :: l).getLast? with
      | none => simp at hg
      | some x => exact unl_pos _ x hg (h x hg)
    rw [digs_pos hp]
    have h1 : unl (b :: l) % 256 = b.toNat := by simp only [unl]; omega
    have h2 : unl (b :: l) / 256 = unl l := by simp only [unl]; omega
    rw [h1, h2, ih hl]
    simp
theorem unl_append (l m : List UInt8) : unl (l ++ m) = unl l + 256 ^ l.length * unl m := by
  induction l with
  | nil => simp [unl]
  | cons b l ih =>
    simp only [List.cons_append, unl, ih, List.length_cons, Nat.pow_succ, Nat.mul_add]
    rw [Nat.mul_comm (256 ^ l.length) 256, Nat.mul_assoc, Nat.add_assoc]
/-- A number's bytes: how many follow, and they. -/
def num (n : Nat) : List UInt8 := UInt8.ofNat (digs n).length :: digs n
/-- An int64 as one of 64 bits. -/
def u64 (n : Int) : Nat := (n % 18446744073709551616).toNat
theorem u64_lt (n : Int) : u64 n < 256 ^ 8 := by unfold u64; omega
theorem u64_nat {n : Nat} (h : n < 18446744073709551616) : u64 (n : Int) = n := by unfold u64; omega
theorem digs_u64 (n : Int) : (digs (u64 n)).length ≤ 8 := digs_length 8 _ (u64_lt n)
end Go.Proofs.YtdfdlajfjcakaaaGreat.Bytes
/-! What the functions of package code come to: numbers and lists of fields. -/
namespace Go.Proofs.YtdfdlajfjcakaaaGreat.Fn
set_option linter.unusedVariables false
set_option linter.unusedSimpArgs false
open Go.RowKit Go.Proofs.YtdfdlajfjcakaaaGreatW.PrintWords Go.Proofs.YtdfdlajfjcakaaaGreat.PAll Go.Proofs.YtdfdlajfjcakaaaGreat.Bytes

theorem wrap64_id {n : Int} (h0 : -9223372036854775808 ≤ n) (h1 : n ≤ 9223372036854775807) : wrap64 n = n := by unfold wrap64; omega
theorem Ev.const {α : Type} {g : Nat → Option α} {r : α} (h : ∀ k, g k = some r) : Ev g r := ⟨0, fun k _ => h k⟩
theorem byte_toNat (n : Nat) : ((UInt8.ofNat (n % 256)).toNat : Int) = (n : Int) % 256 := by
  rw [UInt8.toNat_ofNat']; omega

theorem onto_l0 (y : Int) : ∀ (n : Nat) (m : Int) (i : Int) (l : List Int), (digs n).length = (m - i).toNat → 0 ≤ i → i ≤ m → m ≤ 8 → l.length + 8 ≤ 140737488355328 + i.toNat →
    Ev (fun k => code_little_uint64_onto.l0 k l m i (n : Int) y) (l ++ I (digs n)) := by
  intro n
  induction n using Nat.strongRecOn with
  | _ n ih =>
    intro m i l hd h0 h1 hm hl
    rcases Nat.eq_zero_or_pos n with rfl | hp
    · rw [digs_zero] at hd ⊢
      refine Ev.step (f := fun _ => some l) (fun k => ?_) (by simpa [I] using Ev.now l)
      simp only [code_little_uint64_onto.l0]
      simp only [List.length_nil] at hd
      rw [if_neg (by omega)]
    · rw [digs_pos hp, List.length_cons] at hd
      have hlt : i < m := by omega
      have := ih (n / 256) (by omega) m (i + 1) (l ++ [(n : Int) % 256]) (by omega) (by omega) (by omega) hm (by rw [List.length_append, List.length_singleton]; omega)
      rw [digs_pos hp, I_cons, byte_toNat, List.append_cons]
      refine Ev.step (fun k => ?_) this
      simp only [code_little_uint64_onto.l0]
      rw [if_pos hlt, if_pos (by omega), wrap64_id (by omega) (by omega)]
      congr 1

theorem number_l0 (n0 : Int) (N : Nat) (hN : IntKind.u64.wrap n0 = (N : Int)) : ∀ (r : Nat) (c : Nat) (l : List Int), c + (digs r).length = (digs N).length → (digs N).length ≤ 8 → l.length + 16 ≤ 140737488355328 →
    Ev (fun k => code_number.l0 k l n0 (c : Int) (r : Int)) (l ++ I (num N)) := by
  intro r
  induction r using Nat.strongRecOn with
  | _ r ih =>
    intro c l hc h8 hl
    rcases Nat.eq_zero_or_pos r with rfl | hp
    · rw [digs_zero, List.length_nil] at hc
      have hc' : c = (digs N).length := by omega
      subst hc'
      have ho := onto_l0 ((digs N).length : Int) N ((digs N).length : Int) 0 (l ++ [((digs N).length : Int) % 256]) (by omega) (by omega) (by omega) (by omega) (by rw [List.length_append, List.length_singleton]; omega)
      have hf : (l ++ [((digs N).length : Int) % 256]) ++ I (digs N) = l ++ I (num N) := by
        have := byte_toNat (digs N).length
        rw [Nat.mod_eq_of_lt (by omega : (digs N).length < 256)] at this
        rw [num, I_cons, this, List.append_assoc, List.singleton_append]
      rw [hf] at ho
      refine Ev.step (fun k => ?_) (Ev.bind (f := fun _ x => some x) (Ev.bind (f := fun _ x => some x) ho (Ev.now _)) (Ev.now _))
      simp only [code_number.l0]
      rw [if_neg (by omega), if_pos (by omega), hN]
      rfl
    · have hd := digs_pos hp
      have := ih (r / 256) (by omega) (c + 1) l (by rw [hd, List.length_cons] at hc; omega) h8 hl
      refine Ev.step (fun k => ?_) this
      simp only [code_number.l0]
      have : (c : Int) ≤ 8 := by rw [hd, List.length_cons] at hc; omega
      rw [if_pos (by omega), wrap64_id (by omega) (by omega)]
      rfl
theorem u64_wrap (n : Int) : IntKind.u64.wrap n = (u64 n : Int) := by
  have : IntKind.u64.wrap n = n % 18446744073709551616 := by simp [IntKind.wrap, IntKind.bits, IntKind.signed]
  rw [this, u64]; omega
theorem number_f (l : List Int) (n : Int) (hl : l.length + 16 ≤ 140737488355328) : Ev (fun k => code_number.f k l n) (l ++ I (num (u64 n))) := by
  have := number_l0 n (u64 n) (u64_wrap n) (u64 n) 0 l (by omega) (digs_u64 n) hl
  refine Ev.congr (fun k => ?_) this
  simp only [code_number.f]
  rw [u64_wrap]
  rfl

/-! Fields -/
/-- May a field be? -/
def ok (x : S136) : Bool := if x.f0 then x.f1 == 0 else (L x.f2).isEmpty
/-- A field's bytes. -/
def one (x : S136) : List UInt8 := if x.f0 then 84 :: num x.f2.size ++ L x.f2 else 78 :: num (u64 x.f1)
/-- The bytes of a list. -/
def enc (l : List S136) : List UInt8 := l.flatMap one
theorem enc_nil : enc [] = [] := rfl
theorem enc_cons (x : S136) (l : List S136) : enc (x :: l) = one x ++ enc l := rfl
theorem enc_append (a b : List S136) : enc (a ++ b) = enc a ++ enc b := by simp [enc]
theorem num_length (n : Nat) : (num n).length = (digs n).length + 1 := by simp [num]
theorem one_length_pos (x : S136) : 2 ≤ (one x).length := by
  unfold one
  split
  · simp [num_length]; omega
  · simp [num_length]
/-- What Encode comes to. -/
def encode (l : List S136) : ByteArray × Int :=
  if l.length > 4096 then (⟨#[]⟩, 2)
  else if l.all ok = false then (⟨#[]⟩, 4)
  else if (enc l).length > 262144 then (⟨#[]⟩, 2)
  else (strOfNums (I (enc l)), 0)
theorem rd_get (l : List S136) (i : Nat) (h : i < l.length) : rd_T136 l (i : Int) = l[i] := by
  unfold rd_T136
  rw [Int.toNat_natCast, List.getD_eq_getElem?_getD, List.getElem?_eq_getElem h]
  rfl
theorem isEmpty_toList (s : ByteArray) : s.toList = ([] : List UInt8) ↔ (L s).isEmpty = true := by rw [toList_L]; simp

theorem encode_l1 (l : List S136) (hl : l.length ≤ 4096) (hs : ∀ x ∈ l, x.f2.size ≤ 140737488351232) : ∀ (d i : Nat), i + d = l.length → (enc (l.take i)).length ≤ 262144 →
    Ev (fun k => code_Encode.l1 k (I (enc (l.take i))) l (l.length : Int) (i : Int)) (if (enc l).length > 262144 then (⟨#[]⟩, 2) else (strOfNums (I (enc l)), 0)) := by
  intro d
  induction d with
  | zero =>
    intro i hi hb
    have : i = l.length := by omega
    subst this
    rw [List.take_length] at hb ⊢
    rw [if_neg (by omega)]
    refine Ev.step (f := fun _ => some (strOfNums (I (enc l)), 0)) (fun k => ?_) (Ev.now _)
    simp only [code_Encode.l1]
    rw [if_neg (by omega)]
  | succ d ih =>
    intro i hi hb
    have hlt : i < l.length := by omega
    have hx := hs l[i] (List.getElem_mem hlt)
    have htk : l.take (i + 1) = l.take i ++ [l[i]] := List.take_succ_eq_append_getElem hlt
    have he : enc (l.take (i + 1)) = enc (l.take i) ++ one l[i] := by rw [htk, enc_append]; simp [enc]
    have hle : (enc (l.take (i + 1))).length ≤ (enc l).length := by
      have : enc l = enc (l.take (i + 1)) ++ enc (l.drop (i + 1)) := by rw [← enc_append, List.take_append_drop]
      rw [this, List.length_append]; omega
    have hlI : (I (enc (l.take i))).length ≤ 262144 := by rw [I_length]; exact hb
    have hfin : Ev (fun k => if ((I (enc (l.take (i + 1)))).length : Int) > 262144 then some ((⟨#[]⟩ : ByteArray), (2 : Int)) else code_Encode.l1 k (I (enc (l.take (i + 1)))) l (l.length : Int) ((i + 1 : Nat) : Int)) (if (enc l).length > 262144 then (⟨#[]⟩, 2) else (strOfNums (I (enc l)), 0)) := by
      by_cases hb2 : (enc (l.take (i + 1))).length > 262144
      · rw [if_pos (by omega)]
        refine Ev.const fun k => ?_
        rw [if_pos (by rw [I_length]; omega)]
      · refine Ev.congr (fun k => ?_) (ih (i + 1) (by omega) (by omega))
        rw [if_neg (by rw [I_length]; omega)]
    by_cases hf0 : l[i].f0 = true
    · have hn := number_f (I (enc (l.take i)) ++ [84]) (l[i].f2.size : Int) (by rw [List.length_append, List.length_singleton]; omega)
      rw [u64_nat (by omega)] at hn
      have he2 : (I (enc (l.take i)) ++ [84]) ++ I (num l[i].f2.size) ++ bytesOf l[i].f2 = I (enc (l.take (i + 1))) := by
        rw [he, I_append, one, if_pos hf0, bytesOf_I, I_append, I_cons]
        simp only [List.append_assoc, List.singleton_append, List.cons_append]
        rfl
      have hsz : ((I (enc (l.take i)) ++ [84]) ++ I (num l[i].f2.size)).length + l[i].f2.size < 141836999983104 := by
        have := digs_length 8 l[i].f2.size (by omega)
        simp only [List.length_append, List.length_singleton, I_length, num_length] at hlI ⊢
        omega
      obtain ⟨K1, h1⟩ := hn
      obtain ⟨K2, h2⟩ := hfin
      dsimp only at h1 h2
      refine ⟨max K1 K2 + 1, fun k hk => ?_⟩
      obtain ⟨k, rfl⟩ : ∃ m, k = m + 1 := ⟨k - 1, by omega⟩
      have h2 := h2 k (by omega)
      simp only [code_Encode.l1]
      rw [if_pos (by omega), if_pos (by omega), if_pos (by omega), rd_get l i hlt, if_pos hf0, if_pos (by omega), h1 k (by omega)]
      simp only [Option.bind_some]
      rw [if_pos hsz, he2, wrap64_id (by omega) (by omega)]
      exact h2
    · have hn := number_f (I (enc (l.take i)) ++ [78]) l[i].f1 (by rw [List.length_append, List.length_singleton]; omega)
      have he2 : (I (enc (l.take i)) ++ [78]) ++ I (num (u64 l[i].f1)) = I (enc (l.take (i + 1))) := by
        rw [he, I_append, one, if_neg hf0, I_cons]
        simp only [List.append_assoc, List.singleton_append]
        rfl
      rw [he2] at hn
      obtain ⟨K1, h1⟩ := hn
      obtain ⟨K2, h2⟩ := hfin
      dsimp only at h1 h2
      refine ⟨max K1 K2 + 1, fun k hk => ?_⟩
      obtain ⟨k, rfl⟩ : ∃ m, k = m + 1 := ⟨k - 1, by omega⟩
      have h2 := h2 k (by omega)
      simp only [code_Encode.l1]
      rw [if_pos (by omega), if_pos (by omega), if_pos (by omega), rd_get l i hlt, if_neg hf0, if_pos (by omega), h1 k (by omega)]
      simp only [Option.bind_some]
      rw [wrap64_id (by omega) (by omega)]
      exact h2

theorem encode_l0 (l : List S136) (hl : l.length ≤ 4096) (hs : ∀ x ∈ l, x.f2.size ≤ 140737488351232) : ∀ (d i : Nat), i + d = l.length →
    Ev (fun k => code_Encode.l0 k l l (l.length : Int) (i : Int)) (if (l.drop i).all ok = false then (⟨#[]⟩, 4) else if (enc l).length > 262144 then (⟨#[]⟩, 2) else (strOfNums (I (enc l)), 0)) := by
  intro d
  induction d with
  | zero =>
    intro i hi
    have : i = l.length := by omega
    subst this
    obtain ⟨K, h⟩ := encode_l1 l hl hs l.length 0 (by omega) (by simp [enc])
    refine ⟨K + 1, fun k hk => ?_⟩
    obtain ⟨k, rfl⟩ : ∃ m, k = m + 1 := ⟨k - 1, by omega⟩
    have h := h k (by omega)
    simp only [code_Encode.l0]
    rw [if_neg (by omega), List.drop_length, if_neg (by simp)]
    exact h
  | succ d ih =>
    intro i hi
    have hlt : i < l.length := by omega
    obtain ⟨K, h⟩ := ih (i + 1) (by omega)
    refine ⟨K + 1, fun k hk => ?_⟩
    obtain ⟨k, rfl⟩ : ∃ m, k = m + 1 := ⟨k - 1, by omega⟩
    have h := h k (by omega)
    have hw : wrap64 ((i : Int) + 1) = ((i + 1 : Nat) : Int) := by rw [wrap64_id (by omega) (by omega)]; rfl
    simp only [code_Encode.l0]
    rw [if_pos (by omega), if_pos (by omega), if_pos (by omega), rd_get l i hlt, hw, List.drop_eq_getElem_cons hlt, List.all_cons]
    by_cases hf0 : l[i].f0 = true
    · rw [if_pos hf0, if_pos hf0]
      by_cases hf1 : l[i].f1 = 0
      · have hok : ok l[i] = true := by simp [ok, hf0, hf1]
        rw [if_pos hf1, hok, Bool.true_and]
        exact h
      · have hok : ok l[i] = false := by simp [ok, hf0, hf1]
        rw [if_neg hf1, hok, Bool.false_and, if_pos rfl]
    · rw [if_neg hf0, if_neg hf0]
      by_cases hf2 : l[i].f2.toList = ([] : List UInt8)
      · have hok : ok l[i] = true := by simp only [ok, hf0]; exact (isEmpty_toList _).1 hf2
        rw [if_pos hf2, hok, Bool.true_and]
        exact h
      · have hok : ok l[i] = false := by
          simp only [ok, hf0]
          cases he : (L l[i].f2).isEmpty with
          | false => rfl
          | true => exact absurd ((isEmpty_toList _).2 he) hf2
        rw [if_neg hf2, hok, Bool.false_and, if_pos rfl]

theorem encode_f (l : List S136) (hs : ∀ x ∈ l, x.f2.size ≤ 140737488351232) : Ev (fun k => code_Encode.f k l) (encode l) := by
  unfold encode
  by_cases hl : l.length > 4096
  · rw [if_pos hl]
    refine Ev.const fun k => ?_
    simp only [code_Encode.f]
    rw [if_pos (by omega)]
  · rw [if_neg hl]
    obtain ⟨K, h⟩ := encode_l0 l (by omega) hs l.length 0 (by omega)
    refine ⟨K, fun k hk => ?_⟩
    have h := h k hk
    simp only [code_Encode.f]
    rw [if_neg (by omega)]
    exact h
theorem encode_ok {l : List S136} (h : (encode l).2 = 0) : l.length ≤ 4096 ∧ l.all ok = true ∧ (enc l).length ≤ 262144 ∧ encode l = (strOfNums (I (enc l)), 0) := by
  unfold encode at h ⊢
  split at h
  · exact absurd h (by decide)
  · split at h
    · exact absurd h (by decide)
    · split at h
      · exact absurd h (by decide)
      · rename_i h1 h2 h3
        rw [if_neg h1, if_neg h2, if_neg h3]
        exact ⟨by omega, by simpa using h2, by omega, rfl⟩
theorem encode_err {l : List S136} (h : (encode l).2 ≠ 0) : (encode l).1 = ⟨#[]⟩ := by
  unfold encode at h ⊢
  split
  · rfl
  · split
    · rfl
    · split
      · rfl
      · rename_i h1 h2 h3
        rw [if_neg h1, if_neg h2, if_neg h3] at h
        exact absurd rfl h
end Go.Proofs.YtdfdlajfjcakaaaGreat.Fn
/-! What the functions of package code come to: bytes that are read. -/
namespace Go.Proofs.YtdfdlajfjcakaaaGreat.Fn
set_option linter.unusedVariables false
set_option linter.unusedSimpArgs false
open Go.RowKit Go.Proofs.YtdfdlajfjcakaaaGreatW.PrintWords Go.Proofs.YtdfdlajfjcakaaaGreat.PAll Go.Proofs.YtdfdlajfjcakaaaGreat.Bytes

theorem or_join (a b : Nat) (ha : a < 72057594037927936) (hb : b < 256) : Go.bits .or .u64 (IntKind.u64.wrap ((a : Int) * 256)) (IntKind.u64.wrap (b : Int)) = ((b + 256 * a : Nat) : Int) := by
  have h1 : IntKind.u64.wrap ((a : Int) * 256) = ((256 * a : Nat) : Int) := by rw [u64_wrap, u64]; omega
  have h2 : IntKind.u64.wrap (b : Int) = (b : Int) := by rw [u64_wrap, u64]; omega
  rw [h1, h2, u64_or_nat _ _ (by omega) (by omega), nat_join 8 (256 * a) b (by omega) (by omega), Nat.add_comm]

theorem unlow_l0 (s : ByteArray) (hs : s.size ≤ 8) : ∀ (j : Nat), j ≤ s.size →
    Ev (fun k => code_unlow_uint64.l0 k s (unl ((L s).drop j) : Int) ((j : Int) - 1)) (unl (L s) : Int) := by
  intro j
  induction j with
  | zero =>
    intro _
    refine Ev.step (f := fun _ => some (unl (L s) : Int)) (fun k => ?_) (Ev.now _)
    simp only [code_unlow_uint64.l0]
    rw [if_neg (by omega)]
    rfl
  | succ j ih =>
    intro hj
    have hlt : j < (L s).length := by rw [L_length]; omega
    have hd : (L s).drop j = (L s)[j] :: (L s).drop (j + 1) := List.drop_eq_getElem_cons hlt
    have hb := (L s)[j].toNat_lt
    have hu := unl_lt ((L s).drop (j + 1))
    have hl : ((L s).drop (j + 1)).length ≤ 7 := by rw [List.length_drop, L_length]; omega
    have hp : (256 : Nat) ^ ((L s).drop (j + 1)).length ≤ 256 ^ 7 := Nat.pow_le_pow_right (by omega) hl
    refine Ev.step (fun k => ?_) (ih (by omega))
    simp only [code_unlow_uint64.l0]
    rw [if_pos (by omega), if_pos (by omega), if_pos (by omega), show ((j + 1 : Nat) : Int) - 1 = (j : Int) by omega, bt_L s j hlt, or_join _ _ (by omega) hb, wrap64_id (by omega) (by omega), hd, unl]
theorem unlow_f (s : ByteArray) (hs : s.size ≤ 8) : Ev (fun k => code_unlow_uint64.f k s) (unl (L s) : Int) := by
  have := unlow_l0 s hs s.size (Nat.le_refl _)
  refine Ev.congr (fun k => ?_) this
  simp only [code_unlow_uint64.f]
  rw [wrap64_id (by omega) (by omega), List.drop_of_length_le (by rw [L_length]; omega)]
  rfl

/-- A number of 64 bits as an int64. -/
def i64 (n : Nat) : Int := wrap64 (n : Int)
/-- A field that stands ahead, and what is left; or what is wrong. -/
def fld : List UInt8 → Except Int (S136 × List UInt8)
  | [] => .error 0
  | [c] => if c ≠ 78 ∧ c ≠ 84 then .error 3 else .error 11
  | c :: m :: t =>
    if c ≠ 78 ∧ c ≠ 84 then .error 3
    else if m.toNat > 8 then .error 3
    else if t.length < m.toNat then .error 11
    else if (t.take m.toNat).getLast? = some 0 then .error 3
    else if c = 78 then .ok (⟨false, i64 (unl (t.take m.toNat)), ⟨#[]⟩⟩, t.drop m.toNat)
    else if unl (t.take m.toNat) > 262144 then .error 3
    else if (t.drop m.toNat).length < unl (t.take m.toNat) then .error 11
    else .ok (⟨true, 0, ⟨((t.drop m.toNat).take (unl (t.take m.toNat))).toArray⟩⟩, (t.drop m.toNat).drop (unl (t.take m.toNat)))
def fldR (l : List UInt8) : Bool × Int × ByteArray × ByteArray × Int :=
  match fld l with
  | .error e => (false, 0, ⟨#[]⟩, ⟨#[]⟩, e)
  | .ok (x, r) => (x.f0, x.f1, x.f2, ⟨r.toArray⟩, 0)
theorem of_L {s : ByteArray} {l : List UInt8} (h : L s = l) : s = ⟨l.toArray⟩ := L_inj (by rw [h, L_mk])
theorem i64_range (u : Nat) (h : u < 18446744073709551616) : i64 u = if u < 9223372036854775808 then (u : Int) else (u : Int) - 18446744073709551616 := by
  unfold i64 wrap64; split <;> omega
theorem i64_small {u : Nat} (h : ¬ u > 262144) : i64 u = (u : Int) := by unfold i64; rw [wrap64_id (by omega) (by omega)]
theorem i64_big {u : Nat} (h : u > 262144) (h2 : u < 18446744073709551616) : i64 u < 0 ∨ i64 u > 262144 := by unfold i64 wrap64; omega
theorem u8_ofNat_eq (c : UInt8) (n : Nat) (hn : n < 256) : ((c.toNat : Int) = (n : Int)) ↔ c = UInt8.ofNat n := by
  constructor
  · intro h
    apply UInt8.toNat_inj.1
    rw [UInt8.toNat_ofNat']
    omega
  · rintro rfl
    rw [UInt8.toNat_ofNat']
    omega
theorem c78 (c : UInt8) : ((c.toNat : Int) = 78) ↔ c = 78 := u8_ofNat_eq c 78 (by omega)
theorem c84 (c : UInt8) : ((c.toNat : Int) = 84) ↔ c = 84 := u8_ofNat_eq c 84 (by omega)
theorem c0 (c : UInt8) : ((c.toNat : Int) = 0) ↔ c = 0 := u8_ofNat_eq c 0 (by omega)

theorem field_f (s : ByteArray) (hs : 0 < s.size) : Ev (fun k => code_field.f k s) (fldR (L s)) := by
  cases hL : L s with
  | nil => have := L_length s; rw [hL] at this; simp at this; omega
  | cons c l =>
    have hsz : s.size = l.length + 1 := by rw [← L_length, hL]; rfl
    have hc : bt s 0 = (c.toNat : Int) := by
      have := bt_L s 0 (by rw [hL]; simp)
      simpa [hL] using this
    by_cases hk : c ≠ 78 ∧ c ≠ 84
    · refine Ev.const fun k => ?_
      have hr : fldR (c :: l) = (false, 0, ⟨#[]⟩, ⟨#[]⟩, 3) := by cases l <;> simp [fldR, fld, hk]
      rw [hr]
      simp only [code_field.f]
      rw [if_neg (by omega), hc, if_pos ⟨fun h => hk.1 ((c78 c).1 h), fun h => hk.2 ((c84 c).1 h)⟩]
      rfl
    · have hk' : ¬ ((c.toNat : Int) ≠ 78 ∧ (c.toNat : Int) ≠ 84) := by rw [Ne, Ne, c78, c84]; exact hk
      cases l with
      | nil =>
        refine Ev.const fun k => ?_
        simp only [code_field.f]
        rw [if_neg (by omega), hc, if_neg hk', if_pos (by simp at hsz; omega)]
        simp [fldR, fld, hk, code_field.r]
      | cons m t =>
        have hm : bt s 1 = (m.toNat : Int) := by
          have := bt_L s 1 (by rw [hL]; simp)
          simpa [hL] using this
        have hm8 := m.toNat_lt
        simp only [List.length_cons] at hsz
        have hb : s.extract 2 s.size = ⟨t.toArray⟩ := of_L (by
          rw [L_extract, hL, hsz, List.take_of_length_le (by simp)]; rfl)
        have hbs : (⟨t.toArray⟩ : ByteArray).size = t.length := by rw [← L_length, L_mk]
        by_cases h1 : m.toNat > 8
        · refine Ev.const fun k => ?_
          simp only [code_field.f, code_field.s]
          rw [if_neg (by omega), hc, if_neg hk', if_neg (by omega), hm, if_pos (by omega)]
          simp only [fldR, fld, if_neg hk, if_pos h1]
          rfl
        by_cases h2 : t.length < m.toNat
        · refine Ev.const fun k => ?_
          simp only [code_field.f, code_field.s]
          rw [if_neg (by omega), hc, if_neg hk', if_neg (by omega), hm, if_neg (by omega), hb, hbs, if_pos (by omega)]
          simp only [fldR, fld, if_neg hk, if_neg h1, if_pos h2]
          rfl
        have hlast : ((m.toNat : Int) > 0 ∧ bt ⟨t.toArray⟩ ((m.toNat : Int) - 1) = 0) ↔ (t.take m.toNat).getLast? = some 0 := by
          rw [List.getLast?_eq_getElem?, List.length_take, Nat.min_eq_left (by omega)]
          constructor
          · rintro ⟨hp, hz⟩
            have hlt : m.toNat - 1 < t.length := by omega
            have := bt_L ⟨t.toArray⟩ (m.toNat - 1) (by rw [L_mk]; exact hlt)
            rw [show ((m.toNat - 1 : Nat) : Int) = (m.toNat : Int) - 1 by omega, hz] at this
            simp only [L_mk] at this
            rw [List.getElem?_take_of_lt (by omega), List.getElem?_eq_getElem hlt, (c0 _).1 this.symm]
          · intro h
            by_cases hp : m.toNat = 0
            · rw [hp] at h; simp at h
            have hlt : m.toNat - 1 < t.length := by omega
            rw [List.getElem?_take_of_lt (by omega), List.getElem?_eq_getElem hlt] at h
            injection h with h
            refine ⟨by omega, ?_⟩
            have := bt_L ⟨t.toArray⟩ (m.toNat - 1) (by rw [L_mk]; exact hlt)
            rw [show ((m.toNat - 1 : Nat) : Int) = (m.toNat : Int) - 1 by omega] at this
            rw [this]
            simp only [L_mk, h]
            rfl
        by_cases h3 : (t.take m.toNat).getLast? = some 0
        · refine Ev.const fun k => ?_
          simp only [code_field.f, code_field.s]
          rw [if_neg (by omega), hc, if_neg hk', if_neg (by omega), hm, if_neg (by omega), hb, hbs, if_neg (by omega), if_pos (hlast.2 h3)]
          simp only [fldR, fld, if_neg hk, if_neg h1, if_neg h2, if_pos h3]
          rfl
        have he1 : (⟨t.toArray⟩ : ByteArray).extract 0 m.toNat = ⟨(t.take m.toNat).toArray⟩ := of_L (by rw [L_extract, L_mk]; rfl)
        have he2 : (⟨t.toArray⟩ : ByteArray).extract m.toNat (⟨t.toArray⟩ : ByteArray).size = ⟨(t.drop m.toNat).toArray⟩ := of_L (by rw [L_extract, L_mk, hbs, List.take_length])
        have hu := unlow_f ⟨(t.take m.toNat).toArray⟩ (by rw [← L_length, L_mk, List.length_take]; omega)
        rw [L_mk] at hu
        obtain ⟨K, hu⟩ := hu
        dsimp only at hu
        have hlt := unl_lt (t.take m.toNat)
        have hlt2 : (256 : Nat) ^ (t.take m.toNat).length ≤ 256 ^ 8 := Nat.pow_le_pow_right (by omega) (by rw [List.length_take]; omega)
        have h64 : unl (t.take m.toNat) < 18446744073709551616 := Nat.lt_of_lt_of_le hlt (Nat.le_trans hlt2 (by decide))
        clear hlt hlt2
        have hbs2 : (⟨(t.drop m.toNat).toArray⟩ : ByteArray).size = (t.drop m.toNat).length := by rw [← L_length, L_mk]
        refine ⟨K, fun k hkk => ?_⟩
        simp only [code_field.f, code_field.s]
        rw [if_neg (by omega), hc, if_neg hk', if_neg (by omega), hm, if_neg (by omega), hb, hbs, if_neg (by omega), if_neg (fun h => h3 (hlast.1 h)), Int.toNat_natCast, he1, hu k hkk]
        simp only [Option.bind_some]
        rw [← hbs, he2]
        simp only [fldR, fld, if_neg hk, if_neg h1, if_neg h2, if_neg h3, code_field.t]
        by_cases h4 : c = 78
        · rw [if_pos ((c78 c).2 h4), if_pos h4]
          rfl
        rw [if_neg (fun h => h4 ((c78 c).1 h)), if_neg h4]
        change (if i64 _ < 0 then _ else if i64 _ > 262144 then _ else if _ < i64 _ then _ else some (true, 0, ByteArray.extract _ 0 (i64 _).toNat, ByteArray.extract _ (i64 _).toNat _, 0)) = _
        by_cases h5 : unl (t.take m.toNat) > 262144
        · rw [if_pos h5]
          by_cases h6 : i64 (unl (t.take m.toNat)) < 0
          · rw [if_pos h6]; rfl
          · rw [if_neg h6, if_pos ((i64_big h5 h64).resolve_left h6)]; rfl
        rw [if_neg h5]
        rw [i64_small h5, if_neg (by omega), if_neg (by omega), hbs2]
        by_cases h7 : (t.drop m.toNat).length < unl (t.take m.toNat)
        · rw [if_pos (by omega), if_pos h7]; rfl
        · rw [if_neg (by omega), if_neg h7, Int.toNat_natCast]
          have e1 : (⟨(t.drop m.toNat).toArray⟩ : ByteArray).extract 0 (unl (t.take m.toNat)) = ⟨((t.drop m.toNat).take (unl (t.take m.toNat))).toArray⟩ := of_L (by rw [L_extract, L_mk]; rfl)
          have e2 : (⟨(t.drop m.toNat).toArray⟩ : ByteArray).extract (unl (t.take m.toNat)) (t.drop m.toNat).length = ⟨((t.drop m.toNat).drop (unl (t.take m.toNat))).toArray⟩ := of_L (by rw [L_extract, L_mk, List.take_length])
          rw [e1, e2]
end Go.Proofs.YtdfdlajfjcakaaaGreat.Fn
/-! What the functions of package code come to: there and back; Decode; Sum; the chapter's examples. -/
namespace Go.Proofs.YtdfdlajfjcakaaaGreat.Fn
set_option linter.unusedVariables false
set_option linter.unusedSimpArgs false
open Go.RowKit Go.Proofs.YtdfdlajfjcakaaaGreatW.PrintWords Go.Proofs.YtdfdlajfjcakaaaGreat.PAll Go.Proofs.YtdfdlajfjcakaaaGreat.Bytes

/-- A field as a program can hold it: its number is an int64. -/
def wfS (x : S136) : Prop := -9223372036854775808 ≤ x.f1 ∧ x.f1 ≤ 9223372036854775807
theorem getLast?_append_take (m : Nat) (l r : List UInt8) (h : l.length = m) : ((l ++ r).take m) = l := by subst h; exact List.take_left
theorem i64_u64 {n : Int} (h0 : -9223372036854775808 ≤ n) (h1 : n ≤ 9223372036854775807) : i64 (u64 n) = n := by unfold i64 u64 wrap64; omega
theorem u64_i64 {n : Nat} (h : n < 18446744073709551616) : u64 (i64 n) = n := by unfold i64 u64 wrap64; omega
theorem digs_no_zero (n : Nat) : (digs n).getLast? ≠ some 0 := by
  rcases Nat.eq_zero_or_pos n with rfl | h
  · rw [digs_zero]; simp
  · exact fun e => digs_last n h 0 e rfl
theorem fld_num (c : UInt8) (hc : ¬ (c ≠ 78 ∧ c ≠ 84)) (n : Nat) (hn : n < 256 ^ 8) (r : List UInt8) :
    fld (c :: num n ++ r) = if c = 78 then .ok (⟨false, i64 n, ⟨#[]⟩⟩, r) else if n > 262144 then .error 3 else if r.length < n then .error 11 else .ok (⟨true, 0, ⟨(r.take n).toArray⟩⟩, r.drop n) := by
  have h8 := digs_length 8 n hn
  have hm : (UInt8.ofNat (digs n).length).toNat = (digs n).length := by rw [UInt8.toNat_ofNat']; omega
  show fld (c :: UInt8.ofNat (digs n).length :: (digs n ++ r)) = _
  have ht : (digs n ++ r).take (digs n).length = digs n := List.take_left
  have hd : (digs n ++ r).drop (digs n).length = r := List.drop_left
  simp only [fld, hm, ht, hd, unl_digs]
  rw [if_neg hc, if_neg (by omega), if_neg (by rw [List.length_append]; omega), if_neg (digs_no_zero n)]
/-- THERE. -/
theorem fld_one (x : S136) (hw : wfS x) (ho : ok x = true) (hs : x.f0 = true → x.f2.size ≤ 262144) (r : List UInt8) : fld (one x ++ r) = .ok (x, r) := by
  obtain ⟨b, n, s⟩ := x
  unfold one
  cases b with
  | true =>
    simp only [ok, if_true, beq_iff_eq] at ho
    have hs : s.size ≤ 262144 := hs rfl
    subst ho
    simp only [if_true]
    rw [List.append_assoc, fld_num 84 (by decide) _ (by omega), if_neg (by decide), if_neg (by omega), if_neg (by rw [List.length_append, L_length]; omega)]
    have h1 : (L s ++ r).take s.size = L s := by rw [← L_length]; exact List.take_left
    have h2 : (L s ++ r).drop s.size = r := by rw [← L_length]; exact List.drop_left
    rw [h1, h2]
    rfl
  | false =>
    simp only [ok, Bool.false_eq_true, if_false] at ho
    simp only [Bool.false_eq_true, if_false]
    rw [fld_num 78 (by decide) _ (u64_lt n), if_pos rfl, i64_u64 hw.1 hw.2]
    have : s = ⟨#[]⟩ := of_L (by simpa using ho)
    rw [this]
/-- AND BACK. -/
theorem fld_back {l : List UInt8} {x : S136} {r : List UInt8} (h : fld l = .ok (x, r)) : l = one x ++ r ∧ ok x = true ∧ wfS x ∧ (x.f0 = true → x.f2.size ≤ 262144) ∧ 0 < l.length := by
  match l, h with
  | [c], h => simp only [fld] at h; split at h <;> cases h
  | c :: m :: t, h =>
    simp only [fld] at h
    by_cases h1 : c ≠ 78 ∧ c ≠ 84
    · rw [if_pos h1] at h; cases h
    rw [if_neg h1] at h
    by_cases h2 : m.toNat > 8
    · rw [if_pos h2] at h; cases h
    rw [if_neg h2] at h
    by_cases h3 : t.length < m.toNat
    · rw [if_pos h3] at h; cases h
    rw [if_neg h3] at h
    by_cases h4 : (t.take m.toNat).getLast? = some 0
    · rw [if_pos h4] at h; cases h
    rw [if_neg h4] at h
    have hlen : (t.take m.toNat).length = m.toNat := by rw [List.length_take]; omega
    have hdig : digs (unl (t.take m.toNat)) = t.take m.toNat := digs_unl _ (fun y hy e => h4 (by rw [hy, e]))
    have hlt : unl (t.take m.toNat) < 256 ^ 8 := Nat.lt_of_lt_of_le (unl_lt _) (Nat.pow_le_pow_right (by omega) (by omega))
    have hnum : m :: t = num (unl (t.take m.toNat)) ++ t.drop m.toNat := by
      rw [num, hdig, hlen, List.cons_append, List.take_append_drop]
      congr 1
      simp
    have h64 : unl (t.take m.toNat) < 18446744073709551616 := Nat.lt_of_lt_of_le hlt (by decide)
    generalize unl (t.take m.toNat) = n at *
    generalize t.drop m.toNat = b at *
    by_cases h5 : c = 78
    · rw [if_pos h5] at h
      injection h with h
      injection h with hx hr
      subst hx hr h5
      refine ⟨?_, rfl, ⟨?_, ?_⟩, (fun e => by cases e), by simp⟩
      · rw [hnum, one, if_neg (show ¬ (false = true) by decide), u64_i64 h64]; rfl
      · show -9223372036854775808 ≤ i64 n
        unfold i64 wrap64; omega
      · show i64 n ≤ 9223372036854775807
        unfold i64 wrap64; omega
    rw [if_neg h5] at h
    by_cases h6 : n > 262144
    · rw [if_pos h6] at h; cases h
    rw [if_neg h6] at h
    by_cases h7 : b.length < n
    · rw [if_pos h7] at h; cases h
    rw [if_neg h7] at h
    injection h with h
    injection h with hx hr
    subst hx hr
    have h84 : c = 84 := Classical.not_not.1 (fun e => h1 ⟨h5, e⟩)
    have hsz : (⟨(b.take n).toArray⟩ : ByteArray).size = n := by rw [← L_length, L_mk, List.length_take]; omega
    refine ⟨?_, rfl, ⟨show -9223372036854775808 ≤ (0 : Int) by decide, show (0 : Int) ≤ 9223372036854775807 by decide⟩, (fun _ => by rw [hsz]; omega), by simp⟩
    rw [hnum, one, if_pos rfl, hsz, L_mk, h84, List.cons_append, List.cons_append, List.append_assoc, List.take_append_drop]
/-- An error's number is none of OK's. -/
theorem fld_err {l : List UInt8} (hl : 0 < l.length) {e : Int} (h : fld l = .error e) : e = 3 ∨ e = 11 := by
  match l, h with
  | [c], h => simp only [fld] at h; split at h <;> (injection h with h; subst h; simp)
  | c :: m :: t, h =>
    simp only [fld] at h
    repeat' split at h
    all_goals first | (injection h with h; subst h; simp; done) | cases h
end Go.Proofs.YtdfdlajfjcakaaaGreat.Fn
/-! What the functions of package code come to: Decode; Sum; the chapter's examples. -/
namespace Go.Proofs.YtdfdlajfjcakaaaGreat.Fn
set_option linter.unusedVariables false
set_option linter.unusedSimpArgs false
open Go.RowKit Go.Proofs.YtdfdlajfjcakaaaGreatW.PrintWords Go.Proofs.YtdfdlajfjcakaaaGreat.PAll Go.Proofs.YtdfdlajfjcakaaaGreat.Bytes

def dec (tot : Nat) : Nat → List S136 → List UInt8 → List S136 × Int × Int
  | _, acc, [] => (acc, 0, 0)
  | 0, acc, _ :: _ => (acc, 0, 0)
  | n + 1, acc, c :: l =>
    if acc.length = 4096 then ([], (tot : Int) - ((c :: l).length : Int), 2)
    else match fld (c :: l) with
      | .error e => ([], (tot : Int) - ((c :: l).length : Int), e)
      | .ok (x, r) => dec tot n (acc ++ [x]) r
/-- What Decode comes to. -/
def decode (b : ByteArray) : List S136 × Int × Int := if (L b).length > 262144 then ([], 0, 2) else dec (L b).length (L b).length [] (L b)
theorem fld_shorter {l : List UInt8} {x : S136} {r : List UInt8} (h : fld l = .ok (x, r)) : r.length < l.length := by
  have := fld_back h
  have h2 := one_length_pos x
  have := congrArg List.length this.1
  rw [List.length_append] at this
  omega

theorem decode_l0 (s : ByteArray) (hs : s.size ≤ 262144) : ∀ (n : Nat) (acc : List S136) (r : ByteArray), r.size ≤ n → r.size ≤ s.size → acc.length ≤ 4096 →
    Ev (fun k => code_Decode.l0 k s acc r) (dec s.size n acc (L r)) := by
  intro n
  induction n with
  | zero =>
    intro acc r hr _ _
    have hL : L r = [] := List.eq_nil_of_length_eq_zero (by rw [L_length]; omega)
    rw [hL]
    refine Ev.step (f := fun _ => some (acc, 0, 0)) (fun k => ?_) (Ev.now _)
    simp only [code_Decode.l0]
    rw [if_pos (by rw [toList_L, hL])]
  | succ n ih =>
    intro acc r hr hrs ha
    cases hL : L r with
    | nil =>
      refine Ev.step (f := fun _ => some (acc, 0, 0)) (fun k => ?_) (Ev.now _)
      simp only [code_Decode.l0]
      rw [if_pos (by rw [toList_L, hL])]
    | cons c l =>
      have hsz : r.size = (c :: l).length := by rw [← L_length, hL]
      have hpos : 0 < r.size := by rw [hsz]; simp
      have hw : wrap64 ((s.size : Int) - (r.size : Int)) = (s.size : Int) - ((c :: l).length : Int) := by rw [wrap64_id (by omega) (by omega), hsz]
      by_cases h4 : acc.length = 4096
      · refine Ev.step (f := fun _ => some (([] : List S136), (s.size : Int) - ((c :: l).length : Int), 2)) (fun k => ?_) (by simp only [dec]; rw [if_pos h4]; exact Ev.now _)
        simp only [code_Decode.l0]
        rw [if_neg (by rw [toList_L, hL]; simp), if_pos (by omega), hw]
      · obtain ⟨K1, h1⟩ := field_f r hpos
        rw [hL] at h1
        dsimp only at h1
        cases hf : fld (c :: l) with
        | error e =>
          have he := fld_err (by simp) hf
          refine ⟨K1 + 1, fun k hk => ?_⟩
          obtain ⟨k, rfl⟩ : ∃ m, k = m + 1 := ⟨k - 1, by omega⟩
          simp only [code_Decode.l0, dec]
          rw [if_neg (by rw [toList_L, hL]; simp), if_neg (by omega), h1 k (by omega), if_neg h4, hf, hw]
          simp only [fldR, hf, Option.bind_some]
          rw [if_neg (by omega)]
        | ok p =>
          obtain ⟨x, t⟩ := p
          have hsh := fld_shorter hf
          have hts : (⟨t.toArray⟩ : ByteArray).size = t.length := by rw [← L_length, L_mk]
          obtain ⟨K2, h2⟩ := ih (acc ++ [x]) ⟨t.toArray⟩ (by omega) (by omega) (by rw [List.length_append, List.length_singleton]; omega)
          rw [L_mk] at h2
          dsimp only at h2
          refine ⟨max K1 K2 + 1, fun k hk => ?_⟩
          obtain ⟨k, rfl⟩ : ∃ m, k = m + 1 := ⟨k - 1, by omega⟩
          simp only [code_Decode.l0, dec]
          rw [if_neg (by rw [toList_L, hL]; simp), if_neg (by omega), h1 k (by omega), if_neg h4, hf]
          simp only [fldR, hf, Option.bind_some]
          rw [if_pos trivial, if_pos (by omega)]
          exact h2 k (by omega)
theorem decode_f (b : ByteArray) : Ev (fun k => code_Decode.f k b) (decode b) := by
  unfold decode
  rw [L_length]
  by_cases h : b.size > 262144
  · rw [if_pos h]
    refine Ev.const fun k => ?_
    simp only [code_Decode.f]
    rw [if_pos (by omega)]
  · rw [if_neg h]
    obtain ⟨K, hk⟩ := decode_l0 b (by omega) b.size [] b (Nat.le_refl _) (Nat.le_refl _) (by simp)
    refine ⟨K, fun k hkk => ?_⟩
    simp only [code_Decode.f]
    rw [if_neg (by omega)]
    exact hk k hkk

/-- A list as Encode takes it, whole. -/
def fit (l : List S136) : Prop := ∀ x ∈ l, wfS x ∧ ok x = true ∧ (x.f0 = true → x.f2.size ≤ 262144)
theorem dec_enc (tot : Nat) : ∀ (l acc : List S136) (n : Nat), fit l → (enc l).length ≤ n → acc.length + l.length ≤ 4096 → dec tot n acc (enc l) = (acc ++ l, 0, 0) := by
  intro l
  induction l with
  | nil => intro acc n _ _ _; cases n <;> simp [enc, dec]
  | cons x l ih =>
    intro acc n hf hn ha
    have h2 := one_length_pos x
    rw [enc_cons, List.length_append] at hn
    rw [List.length_cons] at ha
    obtain ⟨n, rfl⟩ : ∃ m, n = m + 1 := ⟨n - 1, by omega⟩
    have hx := hf x (by simp)
    have hff := fld_one x hx.1 hx.2.1 hx.2.2 (enc l)
    rw [enc_cons]
    cases ho : one x with
    | nil => rw [ho] at h2; simp at h2
    | cons c t =>
      rw [ho] at hff hn
      rw [List.cons_append] at hff ⊢
      simp only [dec]
      rw [if_neg (by omega), hff]
      simp only []
      rw [ih (acc ++ [x]) n (fun y hy => hf y (by simp [hy])) (by rw [List.length_cons] at hn; omega) (by rw [List.length_append, List.length_singleton]; omega), List.append_assoc]
      rfl
theorem dec_back (tot : Nat) : ∀ (n : Nat) (acc : List S136) (l : List UInt8) (out : List S136) (a : Int), l.length ≤ n → acc.length ≤ 4096 → dec tot n acc l = (out, a, 0) →
    a = 0 ∧ ∃ m, out = acc ++ m ∧ l = enc m ∧ fit m ∧ out.length ≤ 4096 := by
  intro n
  induction n with
  | zero =>
    intro acc l out a hl ha h
    obtain rfl : l = [] := List.eq_nil_of_length_eq_zero (by omega)
    simp only [dec, Prod.mk.injEq] at h
    obtain ⟨rfl, rfl, _⟩ := h
    exact ⟨rfl, [], by simp, rfl, (by intro x hx; cases hx), ha⟩
  | succ n ih =>
    intro acc l out a hl ha h
    cases l with
    | nil =>
      simp only [dec, Prod.mk.injEq] at h
      obtain ⟨rfl, rfl, _⟩ := h
      exact ⟨rfl, [], by simp, rfl, (by intro x hx; cases hx), ha⟩
    | cons c l =>
      simp only [dec] at h
      by_cases h4 : acc.length = 4096
      · rw [if_pos h4] at h
        simp at h
      rw [if_neg h4] at h
      cases hf : fld (c :: l) with
      | error e =>
        have he := fld_err (by simp) hf
        rw [hf] at h
        simp only [Prod.mk.injEq] at h
        omega
      | ok p =>
        obtain ⟨x, r⟩ := p
        rw [hf] at h
        simp only [] at h
        have hb := fld_back hf
        have hsh := fld_shorter hf
        rw [List.length_cons] at hl hsh
        obtain ⟨ha0, m, hm, hr, hfit, hlen⟩ := ih (acc ++ [x]) r out a (by omega) (by rw [List.length_append, List.length_singleton]; omega) h
        refine ⟨ha0, x :: m, by rw [hm]; simp, by rw [hb.1, enc_cons, hr], ?_, hlen⟩
        intro y hy
        rcases List.mem_cons.1 hy with rfl | hy
        · exact ⟨hb.2.2.1, hb.2.1, hb.2.2.2.1⟩
        · exact hfit y hy
/-- Beside an error nothing is told. -/
theorem dec_err (tot : Nat) : ∀ (n : Nat) (acc : List S136) (l : List UInt8), l.length ≤ n → (dec tot n acc l).2.2 ≠ 0 → (dec tot n acc l).1 = [] := by
  intro n
  induction n with
  | zero =>
    intro acc l hl h
    obtain rfl : l = [] := List.eq_nil_of_length_eq_zero (by omega)
    simp [dec] at h
  | succ n ih =>
    intro acc l hl h
    cases l with
    | nil => simp [dec] at h
    | cons c l =>
      simp only [dec] at h ⊢
      by_cases h4 : acc.length = 4096
      · rw [if_pos h4]
      rw [if_neg h4] at h ⊢
      cases hf : fld (c :: l) with
      | error e => rfl
      | ok p =>
        obtain ⟨x, r⟩ := p
        rw [hf] at h
        have hsh := fld_shorter hf
        rw [List.length_cons] at hl hsh
        exact ih _ _ (by omega) h
/-- A place is told beside an error alone. -/
theorem dec_at (tot : Nat) : ∀ (n : Nat) (acc : List S136) (l : List UInt8), l.length ≤ n → (dec tot n acc l).2.2 = 0 → (dec tot n acc l).2.1 = 0 := by
  intro n
  induction n with
  | zero =>
    intro acc l hl h
    obtain rfl : l = [] := List.eq_nil_of_length_eq_zero (by omega)
    simp [dec]
  | succ n ih =>
    intro acc l hl h
    cases l with
    | nil => simp [dec]
    | cons c l =>
      simp only [dec] at h ⊢
      by_cases h4 : acc.length = 4096
      · rw [if_pos h4] at h
        simp at h
      rw [if_neg h4] at h ⊢
      cases hf : fld (c :: l) with
      | error e =>
        rw [hf] at h
        have he := fld_err (by simp) hf
        simp only at h
        omega
      | ok p =>
        obtain ⟨x, r⟩ := p
        rw [hf] at h
        have hsh := fld_shorter hf
        rw [List.length_cons] at hl hsh
        exact ih _ _ (by omega) h

/-! Sum -/
theorem digs_ex (l : List UInt8) (n : Nat) (h : unl l = n) (hl : l.getLast? ≠ some 0) : digs n = l := by rw [← h]; exact digs_unl l (fun x hx e => hl (by rw [hx, e]))
end Go.Proofs.YtdfdlajfjcakaaaGreat.Fn
/-! Lists of fields that came in. -/
namespace Go.Proofs.YtdfdlajfjcakaaaGreat.Fn
set_option linter.unusedVariables false
set_option linter.unusedSimpArgs false
open Go Go.RowKit Go.Proofs.YtdfdlajfjcakaaaGreatW.PrintWords Go.Proofs.YtdfdlajfjcakaaaGreat.PAll Go.Proofs.YtdfdlajfjcakaaaGreat.Bytes

theorem wf_i64 {x : Int} (h : (Lit.int .i64 x).wf = true) : -9223372036854775808 ≤ x ∧ x ≤ 9223372036854775807 := by
  simp [Lit.wf, IntKind.min, IntKind.max, IntKind.signed, IntKind.bits] at h
  omega
def Wide (xs : List S136) : Prop := ∀ x ∈ xs, wfS x ∧ x.f2.size ≤ 140737488351232
end Go.Proofs.YtdfdlajfjcakaaaGreat.Fn
/-! CodeBack: what it computes is true. -/
namespace Go.Proofs.YtdfdlajfjcakaaaGreat.Pure
set_option linter.unusedVariables false
set_option linter.unusedSimpArgs false
open Go Go.RowKit Go.Proofs.YtdfdlajfjcakaaaGreat.PAll Go.Proofs.YtdfdlajfjcakaaaGreatW.PrintWords Go.Proofs.YtdfdlajfjcakaaaGreatW.PrintLast Go.Proofs.YtdfdlajfjcakaaaGreat.Bytes Go.Proofs.YtdfdlajfjcakaaaGreat.Fn

theorem one_le_enc {x : S136} : ∀ {l : List S136}, x ∈ l → (one x).length ≤ (enc l).length
  | y :: l, h => by
    rw [enc_cons, List.length_append]
    rcases List.mem_cons.1 h with rfl | h
    · omega
    · have := one_le_enc h; omega
theorem text_le_one {x : S136} (h : x.f0 = true) : x.f2.size ≤ (one x).length := by
  unfold one
  rw [if_pos h]
  simp [L_length]
  omega
theorem fit_of {l : List S136} (hw : Wide l) (h : (encode l).2 = 0) : fit l := by
  obtain ⟨h1, h2, h3, _⟩ := encode_ok h
  intro x hx
  refine ⟨(hw x hx).1, List.all_eq_true.1 h2 x hx, fun h0 => ?_⟩
  have a := text_le_one h0
  have b := one_le_enc hx
  omega
theorem fit_append {a b : List S136} (ha : fit a) (hb : fit b) : fit (a ++ b) := by
  intro x hx
  rcases List.mem_append.1 hx with h | h
  · exact ha x h
  · exact hb x h
theorem encode_fit {l : List S136} (hf : fit l) (hl : l.length ≤ 4096) (he : (enc l).length ≤ 262144) : encode l = (strOfNums (I (enc l)), 0) := by
  unfold encode
  rw [if_neg (by omega), if_neg (by rw [List.all_eq_true.2 (fun x hx => (hf x hx).2.1)]; decide), if_neg (by omega)]
theorem decode_enc {l : List S136} (hf : fit l) (hl : l.length ≤ 4096) (he : (enc l).length ≤ 262144) (s : ByteArray) (hs : L s = enc l) : Fn.decode s = (l, 0, 0) := by
  unfold Fn.decode
  rw [hs, if_neg (by omega), dec_enc _ l [] _ hf (Nat.le_refl _) (by simpa using hl)]
  rfl
theorem decode_back {b : ByteArray} {x : List S136} {a : Int} (h : Fn.decode b = (x, a, 0)) : a = 0 ∧ L b = enc x ∧ fit x ∧ x.length ≤ 4096 ∧ (enc x).length ≤ 262144 := by
  unfold Fn.decode at h
  split at h
  · cases h
  · rename_i hb
    obtain ⟨h1, m, h2, h3, h4, h5⟩ := dec_back _ _ _ _ _ _ (Nat.le_refl _) (by simp) h
    rw [List.nil_append] at h2
    subst h2
    exact ⟨h1, h3, h4, h5, by rw [← h3]; omega⟩
theorem decode_err {b : ByteArray} (h : (Fn.decode b).2.2 ≠ 0) : (Fn.decode b).1 = [] := by
  unfold Fn.decode at h ⊢
  split
  · rfl
  · rename_i hb
    rw [if_neg hb] at h
    exact dec_err _ _ _ _ (Nat.le_refl _) h
theorem decode_at {b : ByteArray} (h : (Fn.decode b).2.2 = 0) : (Fn.decode b).2.1 = 0 := by
  unfold Fn.decode at h ⊢
  split
  · rfl
  · rename_i hb
    rw [if_neg hb] at h
    exact dec_at _ _ _ _ (Nat.le_refl _) h
theorem wide_of_fit {l : List S136} (hf : fit l) (he : (enc l).length ≤ 262144) : ∀ x ∈ l, x.f2.size ≤ 140737488351232 := by
  intro x hx
  obtain ⟨_, h2, h3⟩ := hf x hx
  by_cases h0 : x.f0 = true
  · have := h3 h0; omega
  · simp only [ok, h0] at h2
    have : L x.f2 = [] := by simpa using h2
    rw [← L_length, this]
    simp
end Go.Proofs.YtdfdlajfjcakaaaGreat.Pure
/-! Operations, requests: plain. -/
namespace Go.Proofs.YtdfdlajfjcakaaaGreat.Pure
set_option linter.unusedVariables false
set_option linter.unusedSimpArgs false
open Go Go.RowKit Go.Proofs.YtdfdlajfjcakaaaGreat.PAll Go.Proofs.YtdfdlajfjcakaaaGreatW.PrintWords Go.Proofs.YtdfdlajfjcakaaaGreatW.PrintLast Go.Proofs.YtdfdlajfjcakaaaGreat.Bytes Go.Proofs.YtdfdlajfjcakaaaGreat.Fn

/-- May an operation be? -/
def opOk (x : S85) : Bool := op_Check.ok x.f0 x.f1 x.f2 x.f3 x.f4 x.f5
/-- May a request be? -/
def reqOk (a b : Int) (l : List S85) : Bool := decide (0 ≤ a ∧ a ≤ 1000 ∧ 1 ≤ b ∧ b ≤ 1048576 ∧ 1 ≤ l.length ∧ l.length ≤ 32) && l.all opOk
theorem check_f (k : Nat) (x : S85) : op_Check.f k x.f0 x.f1 x.f2 x.f3 x.f4 x.f5 = some (if opOk x = true then 0 else 80) := rfl
theorem any_f (k : Nat) : ∀ l, op_CheckAll.any k l = some (!l.all opOk)
  | [] => rfl
  | x :: l => by
    unfold op_CheckAll.any
    rw [check_f, Option.bind_some, List.all_cons]
    cases opOk x
    · rfl
    · rw [if_pos rfl, if_pos rfl, any_f k l]; rfl
theorem checkAll_f (k : Nat) (a b : Int) (l : List S85) : op_CheckAll.f k a b l = some (if reqOk a b l = true then 0 else 80) := by
  unfold op_CheckAll.f reqOk
  by_cases h : 0 ≤ a ∧ a ≤ 1000 ∧ 1 ≤ b ∧ b ≤ 1048576 ∧ 1 ≤ l.length ∧ l.length ≤ 32
  · rw [if_pos h, any_f, Option.bind_some, decide_eq_true h, Bool.true_and]
    cases l.all opOk <;> rfl
  · rw [if_neg h, decide_eq_false h, Bool.false_and]; rfl
theorem all_sizes {l : List S85} (h : l.all opOk = true) : ∀ x ∈ l, x.f1.size ≤ 64 ∧ x.f2.size ≤ 8192 := by
  intro x hx
  have := List.all_eq_true.1 h x hx
  unfold opOk op_Check.ok at this
  have := of_decide_eq_true this
  omega
theorem reqF_sizes {a b : Int} {l : List S85} (h : l.all opOk = true) : ∀ y ∈ reqF a b l, y.f2.size ≤ 8192 := by
  intro y hy
  unfold reqF at hy
  rcases List.mem_append.1 hy with hy | hy
  · simp only [List.mem_cons, List.not_mem_nil, or_false, fN] at hy
    rcases hy with rfl | rfl | rfl <;> exact Nat.zero_le _
  · obtain ⟨x, hx, hy⟩ := List.mem_flatMap.1 hy
    have := all_sizes h x hx
    simp only [opF, List.mem_cons, List.not_mem_nil, or_false, fN, fT] at hy
    rcases hy with rfl | rfl | rfl | rfl | rfl | rfl
    · exact Nat.zero_le _
    · exact Nat.le_trans this.1 (by decide)
    · exact this.2
    · exact Nat.zero_le _
    · exact Nat.zero_le _
    · exact Nat.zero_le _
/-- What Encode comes to. -/
def encReq (a b : Int) (l : List S85) : ByteArray × Int := if reqOk a b l = true then encode (reqF a b l) else (⟨#[]⟩, 80)
theorem encodeReq_f (a b : Int) (l : List S85) : Ev (fun k => op_Encode.f k a b l) (encReq a b l) := by
  unfold encReq
  by_cases h : reqOk a b l = true
  · rw [if_pos h]
    have ha : l.all opOk = true := by unfold reqOk at h; exact (Bool.and_eq_true_iff.1 h).2
    refine Ev.congr (fun k => ?_) (encode_f (reqF a b l) (fun x hx => Nat.le_trans (reqF_sizes ha x hx) (by decide)))
    unfold op_Encode.f
    rw [checkAll_f, if_pos h, Option.bind_some, if_pos rfl]
  · rw [if_neg h]
    refine Ev.congr (fun k => ?_) (Ev.now _)
    unfold op_Encode.f
    rw [checkAll_f, if_neg h, Option.bind_some, if_neg (by decide)]
end Go.Proofs.YtdfdlajfjcakaaaGreat.Pure
/-! Fields that are read. -/
namespace Go.Proofs.YtdfdlajfjcakaaaGreat.Pure
set_option linter.unusedVariables false
set_option linter.unusedSimpArgs false
open Go Go.RowKit Go.Proofs.YtdfdlajfjcakaaaGreat.PAll Go.Proofs.YtdfdlajfjcakaaaGreatW.PrintWords Go.Proofs.YtdfdlajfjcakaaaGreatW.PrintLast Go.Proofs.YtdfdlajfjcakaaaGreat.Bytes Go.Proofs.YtdfdlajfjcakaaaGreat.Fn

/-- Numbers as a reader takes them. -/
def NumR (n : Int) : Prop := 0 ≤ n ∧ n ≤ 1099511627776
theorem fldOk_fN {n : Int} (h : NumR n) : fldOk false (fN n) = true := by
  unfold fldOk fN
  rw [decide_eq_true (show 0 ≤ n ∧ n ≤ 1099511627776 from h)]
  rfl
theorem fldOk_fT (s : ByteArray) : fldOk true (fT s) = true := by
  unfold fldOk fT
  rw [decide_eq_true (by show (0 : Int) ≤ 0 ∧ (0 : Int) ≤ 1099511627776; omega)]
  rfl
theorem fldOk_TN (n : Int) : fldOk true (fN n) = false := rfl
theorem fldOk_NT (s : ByteArray) : fldOk false (fT s) = false := rfl
theorem rnum_cons (x : S136) (l : List S136) (ok : Bool) : rnum (x :: l, ok) = if fldOk false x = true then (x.f1, (l, ok)) else (0, ([], false)) := by
  unfold rnum rdX rdL rdO
  by_cases h : fldOk false x = true
  · simp only [h, if_true]
  · simp only [h, if_false]; rfl
theorem rtxt_cons (x : S136) (l : List S136) (ok : Bool) : rtxt (x :: l, ok) = if fldOk true x = true then (x.f2, (l, ok)) else (⟨#[]⟩, ([], false)) := by
  unfold rtxt rdX rdL rdO
  by_cases h : fldOk true x = true
  · simp only [h, if_true]
  · simp only [h, if_false]; rfl
theorem rnum_nil (ok : Bool) : rnum ([], ok) = (0, ([], false)) := rfl
theorem rtxt_nil (ok : Bool) : rtxt ([], ok) = (⟨#[]⟩, ([], false)) := rfl
theorem rnum_fN {n : Int} (h : NumR n) (l : List S136) (ok : Bool) : rnum (fN n :: l, ok) = (n, (l, ok)) := by rw [rnum_cons, if_pos (fldOk_fN h)]; rfl
theorem rtxt_fT (s : ByteArray) (l : List S136) (ok : Bool) : rtxt (fT s :: l, ok) = (s, (l, ok)) := by rw [rtxt_cons, if_pos (fldOk_fT s)]; rfl
theorem rnum_fT (s : ByteArray) (l : List S136) (ok : Bool) : rnum (fT s :: l, ok) = (0, ([], false)) := by rw [rnum_cons, fldOk_NT]; rfl
theorem rtxt_fN (n : Int) (l : List S136) (ok : Bool) : rtxt (fN n :: l, ok) = (⟨#[]⟩, ([], false)) := by rw [rtxt_cons, fldOk_TN]; rfl
/-- Fields as they are decoded: a number has no text, a text no number. -/
def Canon (l : List S136) : Prop := ∀ x ∈ l, (x.f0 = false → x.f2 = ⟨#[]⟩) ∧ (x.f0 = true → x.f1 = 0)
theorem canon_fit {l : List S136} (h : fit l) : Canon l := by
  intro x hx
  obtain ⟨_, ho, _⟩ := h x hx
  unfold ok at ho
  constructor
  · intro h0
    rw [h0] at ho
    have : L x.f2 = [] := by simpa using ho
    exact L_inj this
  · intro h0
    rw [h0] at ho
    simpa using ho
theorem rnum_back {s : List S136 × Bool} (hc : Canon s.1) (h : (rnum s).2.2 = true) : s.1 = fN (rnum s).1 :: (rnum s).2.1 ∧ s.2 = true ∧ Canon (rnum s).2.1 ∧ NumR (rnum s).1 := by
  obtain ⟨l, k⟩ := s
  cases l with
  | nil => rw [rnum_nil] at h; cases h
  | cons x l =>
    rw [rnum_cons] at h ⊢
    by_cases hx : fldOk false x = true
    · rw [if_pos hx] at h ⊢
      unfold fldOk at hx
      rw [Bool.and_eq_true] at hx
      have h0 : x.f0 = false := by simpa using hx.1
      have h2 := (hc x List.mem_cons_self).1 h0
      refine ⟨?_, h, fun y hy => hc y (List.mem_cons_of_mem _ hy), show 0 ≤ x.f1 ∧ x.f1 ≤ 1099511627776 from of_decide_eq_true hx.2⟩
      obtain ⟨a, b, c⟩ := x
      simp only at h0 h2
      subst h0 h2
      rfl
    · rw [if_neg hx] at h; cases h
theorem rtxt_back {s : List S136 × Bool} (hc : Canon s.1) (h : (rtxt s).2.2 = true) : s.1 = fT (rtxt s).1 :: (rtxt s).2.1 ∧ s.2 = true ∧ Canon (rtxt s).2.1 := by
  obtain ⟨l, k⟩ := s
  cases l with
  | nil => rw [rtxt_nil] at h; cases h
  | cons x l =>
    rw [rtxt_cons] at h ⊢
    by_cases hx : fldOk true x = true
    · rw [if_pos hx] at h ⊢
      unfold fldOk at hx
      rw [Bool.and_eq_true] at hx
      have h0 : x.f0 = true := by simpa using hx.1
      have h2 := (hc x List.mem_cons_self).2 h0
      refine ⟨?_, h, fun y hy => hc y (List.mem_cons_of_mem _ hy)⟩
      obtain ⟨a, b, c⟩ := x
      simp only at h0 h2
      subst h0 h2
      rfl
    · rw [if_neg hx] at h; cases h
def OpR (x : S85) : Prop := NumR x.f0 ∧ NumR x.f3 ∧ NumR x.f4 ∧ NumR x.f5
theorem rop_fwd (x : S85) (h : OpR x) (l : List S136) : rop (opF x ++ l, true) = (x, (l, true)) := by
  obtain ⟨h0, h3, h4, h5⟩ := h
  show rop (fN x.f0 :: fT x.f1 :: fT x.f2 :: fN x.f3 :: fN x.f4 :: fN x.f5 :: l, true) = _
  unfold rop
  simp only [rnum_fN h0, rtxt_fT, rnum_fN h3, rnum_fN h4, rnum_fN h5]
theorem rop_back {s : List S136 × Bool} (hc : Canon s.1) (h : (rop s).2.2 = true) : s.1 = opF (rop s).1 ++ (rop s).2.1 ∧ s.2 = true ∧ Canon (rop s).2.1 ∧ OpR (rop s).1 := by
  have h' : (rnum (rnum (rnum (rtxt (rtxt (rnum s).2).2).2).2).2).2.2 = true := h
  obtain ⟨a, ea⟩ : ∃ a, rnum s = a := ⟨_, rfl⟩
  obtain ⟨b, eb⟩ : ∃ b, rtxt a.2 = b := ⟨_, rfl⟩
  obtain ⟨c, ec⟩ : ∃ c, rtxt b.2 = c := ⟨_, rfl⟩
  obtain ⟨d, ed⟩ : ∃ d, rnum c.2 = d := ⟨_, rfl⟩
  obtain ⟨e, ee⟩ : ∃ e, rnum d.2 = e := ⟨_, rfl⟩
  obtain ⟨f, ef⟩ : ∃ f, rnum e.2 = f := ⟨_, rfl⟩
  have hr : rop s = (⟨a.1, b.1, c.1, d.1, e.1, f.1⟩, f.2) := by unfold rop; rw [ea, eb, ec, ed, ee, ef]
  rw [ea, eb, ec, ed, ee, ef] at h'
  -- marks: from the last one to the first
  have mk : ∀ {s : List S136 × Bool}, (rnum s).2.2 = true → s.2 = true := fun {s} h => by
    obtain ⟨l, k⟩ := s
    cases l with
    | nil => rw [rnum_nil] at h; cases h
    | cons x l =>
      rw [rnum_cons] at h
      split at h
      · exact h
      · cases h
  have mt : ∀ {s : List S136 × Bool}, (rtxt s).2.2 = true → s.2 = true := fun {s} h => by
    obtain ⟨l, k⟩ := s
    cases l with
    | nil => rw [rtxt_nil] at h; cases h
    | cons x l =>
      rw [rtxt_cons] at h
      split at h
      · exact h
      · cases h
  have e5 : (rnum e.2).2.2 = true := by rw [ef]; exact h'
  have e4 : (rnum d.2).2.2 = true := by rw [ee]; exact mk e5
  have e3 : (rnum c.2).2.2 = true := by rw [ed]; exact mk e4
  have e2 : (rtxt b.2).2.2 = true := by rw [ec]; exact mk e3
  have e1 : (rtxt a.2).2.2 = true := by rw [eb]; exact mt e2
  have e0 : (rnum s).2.2 = true := by rw [ea]; exact mt e1
  obtain ⟨g0, k0, c0, n0⟩ := rnum_back hc e0
  rw [ea] at g0 c0 n0
  obtain ⟨g1, _, c1⟩ := rtxt_back c0 e1
  rw [eb] at g1 c1
  obtain ⟨g2, _, c2⟩ := rtxt_back c1 e2
  rw [ec] at g2 c2
  obtain ⟨g3, _, c3, n3⟩ := rnum_back c2 e3
  rw [ed] at g3 c3 n3
  obtain ⟨g4, _, c4, n4⟩ := rnum_back c3 e4
  rw [ee] at g4 c4 n4
  obtain ⟨g5, _, c5, n5⟩ := rnum_back c4 e5
  rw [ef] at g5 c5 n5
  rw [hr]
  refine ⟨?_, k0, c5, n0, n3, n4, n5⟩
  rw [g0, g1, g2, g3, g4, g5]
  rfl
theorem ops_fwd (rest : List S136) : ∀ (l : List S85) (i : Nat) (acc : List S85), (∀ x ∈ l, OpR x) → acc.length + l.length < 2199023255552 →
    Ev (fun k => op_Decode.l0 k ((i + l.length : Nat) : Int) (i : Int) (l.flatMap opF ++ rest, true) acc) (acc ++ l, (rest, true))
  | [], i, acc, _, _ => by
    refine Ev.step (f := fun _ => some (acc ++ [], (rest, true))) (fun k => ?_) (Ev.now _)
    rw [op_Decode.l0, if_neg (by simp), List.append_nil]
    rfl
  | x :: l, i, acc, h, hl => by
    have ih := ops_fwd rest l (i + 1) (acc ++ [x]) (fun y hy => h y (List.mem_cons_of_mem _ hy)) (by simp only [List.length_append, List.length_cons, List.length_nil] at hl ⊢; omega)
    have e : acc ++ (x :: l) = (acc ++ [x]) ++ l := by simp
    rw [e]
    refine Ev.step (fun k => ?_) ih
    rw [op_Decode.l0, if_pos (by simp only [List.length_cons]; omega), if_pos rfl, if_pos (by simp only [List.length_cons] at hl; omega)]
    rw [List.flatMap_cons, List.append_assoc, rop_fwd x (h x List.mem_cons_self)]
    simp only [List.length_cons]
    rw [show i + (l.length + 1) = i + 1 + l.length by omega]
    rfl
theorem ops_ex (n : Int) : ∀ (m : Nat) (s : List S136 × Bool) (i : Int) (acc : List S85), s.1.length ≤ m → Canon s.1 → acc.length + m + 2 < 2199023255552 →
    ∃ (xs : List S85) (s' : List S136 × Bool), Ev (fun k => op_Decode.l0 k n i s acc) (acc ++ xs, s') ∧ (s'.2 = true → s.2 = true ∧ s.1 = xs.flatMap opF ++ s'.1 ∧ (xs.length : Int) = max 0 (n - i)) := by
  intro m
  induction m with
  | zero =>
    intro s i acc hm hc ha
    obtain ⟨l, k⟩ := s
    obtain rfl : l = [] := List.eq_nil_of_length_eq_zero (by simpa using hm)
    by_cases hi : i < n
    · cases k
      · refine ⟨[], ([], false), Ev.step (f := fun _ => some (acc ++ [], ([], false))) (fun k => ?_) (Ev.now _), fun h => by cases h⟩
        rw [op_Decode.l0, if_pos hi, if_neg (by decide), List.append_nil]
      · refine ⟨[(rop ([], true)).1], ([], false), Ev.step (f := fun k => op_Decode.l0 k n (i + 1) ([], false) (acc ++ [(rop ([], true)).1])) (fun k => ?_) (Ev.step (f := fun _ => some (acc ++ [(rop ([], true)).1], ([], false))) (fun k => ?_) (Ev.now _)), fun h => by cases h⟩
        · rw [op_Decode.l0, if_pos hi, if_pos rfl, if_pos (by omega)]
          rfl
        · rw [op_Decode.l0]
          by_cases h2 : i + 1 < n
          · rw [if_pos h2, if_neg (by decide)]
          · rw [if_neg h2]
    · refine ⟨[], ([], k), Ev.step (f := fun _ => some (acc ++ [], ([], k))) (fun k => ?_) (Ev.now _), fun h => ⟨h, rfl, by simp only [List.length_nil]; omega⟩⟩
      rw [op_Decode.l0, if_neg hi, List.append_nil]
  | succ m ih =>
    intro s i acc hm hc ha
    by_cases hi : i < n
    · cases hk : s.2
      · refine ⟨[], s, Ev.step (f := fun _ => some (acc ++ [], s)) (fun k => ?_) (Ev.now _), fun h => by rw [hk] at h; cases h⟩
        rw [op_Decode.l0, if_pos hi, if_neg (by rw [hk]; decide), List.append_nil]
      · cases hr : (rop s).2.2
        · refine ⟨[(rop s).1], (rop s).2, Ev.step (f := fun k => op_Decode.l0 k n (i + 1) (rop s).2 (acc ++ [(rop s).1])) (fun k => ?_) (Ev.step (f := fun _ => some (acc ++ [(rop s).1], (rop s).2)) (fun k => ?_) (Ev.now _)), fun h => by rw [hr] at h; cases h⟩
          · rw [op_Decode.l0, if_pos hi, if_pos hk, if_pos (by omega)]
          · rw [op_Decode.l0]
            by_cases h2 : i + 1 < n
            · rw [if_pos h2, if_neg (by rw [hr]; decide)]
            · rw [if_neg h2]
        · obtain ⟨g, _, c', _⟩ := rop_back hc hr
          have hlen : (rop s).2.1.length ≤ m := by
            have := congrArg List.length g
            simp only [List.length_append, opF, List.length_cons, List.length_nil] at this
            omega
          obtain ⟨xs, s', h1, h2⟩ := ih (rop s).2 (i + 1) (acc ++ [(rop s).1]) hlen c' (by simp only [List.length_append, List.length_cons, List.length_nil]; omega)
          refine ⟨(rop s).1 :: xs, s', ?_, fun h => ?_⟩
          · rw [show acc ++ (rop s).1 :: xs = (acc ++ [(rop s).1]) ++ xs by simp]
            refine Ev.step (fun k => ?_) h1
            rw [op_Decode.l0, if_pos hi, if_pos hk, if_pos (by omega)]
          · obtain ⟨_, g2, g3⟩ := h2 h
            refine ⟨rfl, ?_, ?_⟩
            · rw [g, g2, List.flatMap_cons, List.append_assoc]
            · simp only [List.length_cons]; omega
    · refine ⟨[], s, Ev.step (f := fun _ => some (acc ++ [], s)) (fun k => ?_) (Ev.now _), fun h => ⟨h, rfl, by simp only [List.length_nil]; omega⟩⟩
      rw [op_Decode.l0, if_neg hi, List.append_nil]
end Go.Proofs.YtdfdlajfjcakaaaGreat.Pure
/-! Marks of what is read. -/
namespace Go.Proofs.YtdfdlajfjcakaaaGreat.Pure
set_option linter.unusedVariables false
set_option linter.unusedSimpArgs false
open Go Go.RowKit Go.Proofs.YtdfdlajfjcakaaaGreat.PAll Go.Proofs.YtdfdlajfjcakaaaGreatW.PrintWords Go.Proofs.YtdfdlajfjcakaaaGreatW.PrintLast Go.Proofs.YtdfdlajfjcakaaaGreat.Bytes Go.Proofs.YtdfdlajfjcakaaaGreat.Fn

theorem rnum_mark {s : List S136 × Bool} (h : (rnum s).2.2 = true) : s.2 = true := by
  obtain ⟨l, k⟩ := s
  cases l with
  | nil => rw [rnum_nil] at h; cases h
  | cons x l =>
    rw [rnum_cons] at h
    split at h
    · exact h
    · cases h
theorem rtxt_mark {s : List S136 × Bool} (h : (rtxt s).2.2 = true) : s.2 = true := by
  obtain ⟨l, k⟩ := s
  cases l with
  | nil => rw [rtxt_nil] at h; cases h
  | cons x l =>
    rw [rtxt_cons] at h
    split at h
    · exact h
    · cases h
theorem rnum_sub (s : List S136 × Bool) : (rnum s).2.1.length ≤ s.1.length ∧ (Canon s.1 → Canon (rnum s).2.1) := by
  obtain ⟨l, k⟩ := s
  cases l with
  | nil => exact ⟨Nat.le_refl _, fun h => h⟩
  | cons x l =>
    rw [rnum_cons]
    split
    · exact ⟨by simp, fun h y hy => h y (List.mem_cons_of_mem _ hy)⟩
    · exact ⟨by simp, fun h y hy => by cases hy⟩
theorem rtxt_sub (s : List S136 × Bool) : (rtxt s).2.1.length ≤ s.1.length ∧ (Canon s.1 → Canon (rtxt s).2.1) := by
  obtain ⟨l, k⟩ := s
  cases l with
  | nil => exact ⟨Nat.le_refl _, fun h => h⟩
  | cons x l =>
    rw [rtxt_cons]
    split
    · exact ⟨by simp, fun h y hy => h y (List.mem_cons_of_mem _ hy)⟩
    · exact ⟨by simp, fun h y hy => by cases hy⟩
end Go.Proofs.YtdfdlajfjcakaaaGreat.Pure
/-! There and back: plain. -/
namespace Go.Proofs.YtdfdlajfjcakaaaGreat.Pure
set_option linter.unusedVariables false
set_option linter.unusedSimpArgs false
open Go Go.RowKit Go.Proofs.YtdfdlajfjcakaaaGreat.PAll Go.Proofs.YtdfdlajfjcakaaaGreatW.PrintWords Go.Proofs.YtdfdlajfjcakaaaGreatW.PrintLast Go.Proofs.YtdfdlajfjcakaaaGreat.Bytes Go.Proofs.YtdfdlajfjcakaaaGreat.Fn

theorem wide_fN {n : Int} (h : NumR n) : wfS (fN n) ∧ (fN n).f2.size ≤ 140737488351232 := ⟨⟨by have := h.1; show (-9223372036854775808 : Int) ≤ n; omega, by have := h.2; show n ≤ 9223372036854775807; omega⟩, Nat.zero_le _⟩
theorem wide_fT {s : ByteArray} (h : s.size ≤ 8192) : wfS (fT s) ∧ (fT s).f2.size ≤ 140737488351232 := ⟨⟨by show (-9223372036854775808 : Int) ≤ 0; omega, by show (0 : Int) ≤ 9223372036854775807; omega⟩, Nat.le_trans h (by decide)⟩
theorem opOk_R {x : S85} (h : opOk x = true) : OpR x := by
  unfold opOk op_Check.ok at h
  have h := of_decide_eq_true h
  refine ⟨⟨?_, ?_⟩, ⟨?_, ?_⟩, ⟨?_, ?_⟩, ⟨?_, ?_⟩⟩ <;> omega
theorem reqOk_R {a b : Int} {l : List S85} (h : reqOk a b l = true) : NumR a ∧ NumR b ∧ 1 ≤ l.length ∧ l.length ≤ 32 ∧ (∀ x ∈ l, OpR x) ∧ l.all opOk = true := by
  unfold reqOk at h
  obtain ⟨h1, h2⟩ := Bool.and_eq_true_iff.1 h
  have h1 := of_decide_eq_true h1
  exact ⟨⟨by omega, by omega⟩, ⟨by omega, by omega⟩, by omega, by omega, fun x hx => opOk_R (List.all_eq_true.1 h2 x hx), h2⟩
theorem reqF_wide {a b : Int} {l : List S85} (h : reqOk a b l = true) : Wide (reqF a b l) := by
  obtain ⟨ha, hb, _, hl, hx, hs⟩ := reqOk_R h
  intro y hy
  unfold reqF at hy
  rcases List.mem_append.1 hy with hy | hy
  · simp only [List.mem_cons, List.not_mem_nil, or_false] at hy
    rcases hy with rfl | rfl | rfl
    · exact wide_fN ha
    · exact wide_fN hb
    · exact wide_fN ⟨by omega, by omega⟩
  · obtain ⟨x, hx', hy⟩ := List.mem_flatMap.1 hy
    have h1 := hx x hx'
    have h2 := all_sizes hs x hx'
    simp only [opF, List.mem_cons, List.not_mem_nil, or_false] at hy
    rcases hy with rfl | rfl | rfl | rfl | rfl | rfl
    · exact wide_fN h1.1
    · exact wide_fT (Nat.le_trans h2.1 (by decide))
    · exact wide_fT h2.2
    · exact wide_fN h1.2.1
    · exact wide_fN h1.2.2.1
    · exact wide_fN h1.2.2.2
/-- What is encoded well is decoded. -/
theorem there {l : List S136} (hw : Wide l) (h : (encode l).2 = 0) : Fn.decode (encode l).1 = (l, 0, 0) ∧ (encode l).1.size ≤ 262144 := by
  obtain ⟨h1, h2, h3, h4⟩ := encode_ok h
  have hL : L (encode l).1 = enc l := by rw [h4]; exact strOf_I _
  refine ⟨decode_enc (fit_of hw h) h1 h3 _ hL, ?_⟩
  rw [size_L, hL]
  exact h3
/-- The fields of a request: what comes of them. -/
def reqOut (s0 : Int × Int) (r : List S85 × (List S136 × Bool)) : Int × Int × List S85 × Int :=
  if rwhole r.2 = true ∧ reqOk s0.1 s0.2 r.1 = true then (s0.1, s0.2, r.1, 0) else (0, 0, [], 80)
theorem dec_req {b : ByteArray} {l : List S136} (h : Fn.decode b = (l, 0, 0)) (hs : b.size ≤ 262144) {r : List S85 × (List S136 × Bool)}
    (hr : Ev (fun k => op_Decode.l0 k (rnum (rnum (rnum (l, true)).2).2).1 0 (rnum (rnum (rnum (l, true)).2).2).2 []) r) :
    Ev (fun k => op_Decode.f k b) (reqOut ((rnum (l, true)).1, (rnum (rnum (l, true)).2).1) r) := by
  obtain ⟨K, hK⟩ := decode_f b
  obtain ⟨K2, hK2⟩ := hr
  dsimp only at hK hK2
  refine ⟨max K K2, fun k hk => ?_⟩
  show op_Decode.f k b = _
  unfold op_Decode.f reqOut
  rw [hK k (by omega), h, Option.bind_some, if_neg (by omega), if_neg (by simp), hK2 k (by omega), Option.bind_some]
  cases hw : rwhole r.2
  · simp
  · rw [if_pos rfl, checkAll_f, Option.bind_some]
    dsimp only
    cases hq : reqOk (rnum (l, true)).1 (rnum (rnum (l, true)).2).1 r.1
    · simp
    · rw [if_pos rfl, if_pos rfl, if_pos ⟨rfl, rfl⟩]
theorem canon_rnum {s : List S136 × Bool} (h : Canon s.1) : Canon (rnum s).2.1 := (rnum_sub s).2 h
theorem of_enc {b : ByteArray} {l : List UInt8} (h : L b = l) : strOfNums (I l) = b := L_inj (by rw [strOf_I, h])
theorem dec_bad1 (b : ByteArray) (h : ¬ ((Fn.decode b).2.1 = 0 ∧ (Fn.decode b).2.2 = 0)) : ∃ c : Int, c ≠ 0 ∧ Ev (fun k => op_Decode.f k b) (0, 0, [], c) := by
  obtain ⟨K, hK⟩ := decode_f b
  dsimp only at hK
  by_cases hs : 262144 < b.size
  · refine ⟨2, by decide, ⟨K, fun k hk => ?_⟩⟩
    show op_Decode.f k b = _
    unfold op_Decode.f
    rw [hK k hk, Option.bind_some, if_pos hs]
  · refine ⟨80, by decide, ⟨K, fun k hk => ?_⟩⟩
    show op_Decode.f k b = _
    unfold op_Decode.f
    rw [hK k hk, Option.bind_some, if_neg hs, if_pos h]
/-- What is decoded, is encoded. -/
theorem req_back (b : ByteArray) : ∃ r, Ev (fun k => op_Decode.f k b) r ∧ (r.2.2.2 = 0 → encReq r.1 r.2.1 r.2.2.1 = (b, 0)) := by
  by_cases hd : (Fn.decode b).2.1 = 0 ∧ (Fn.decode b).2.2 = 0
  · obtain ⟨l, hl⟩ : ∃ l, Fn.decode b = (l, 0, 0) := ⟨(Fn.decode b).1, Prod.ext rfl (Prod.ext hd.1 hd.2)⟩
    obtain ⟨_, hL, hf, hlen, hle⟩ := decode_back hl
    have hs : b.size ≤ 262144 := by rw [size_L, hL]; exact hle
    have hc := canon_fit hf
    have c3 : Canon (rnum (rnum (rnum (l, true)).2).2).2.1 := canon_rnum (canon_rnum (canon_rnum hc))
    have l3 : (rnum (rnum (rnum (l, true)).2).2).2.1.length ≤ 4096 := by
      have h1 := (rnum_sub (l, true)).1
      have h2 := (rnum_sub (rnum (l, true)).2).1
      have h3 := (rnum_sub (rnum (rnum (l, true)).2).2).1
      dsimp only at h1
      omega
    obtain ⟨xs, s', he, hk⟩ := ops_ex (rnum (rnum (rnum (l, true)).2).2).1 4096 (rnum (rnum (rnum (l, true)).2).2).2 0 [] l3 c3 (by simp only [List.length_nil]; omega)
    refine ⟨_, dec_req hl hs he, fun h => ?_⟩
    unfold reqOut at h ⊢
    by_cases hw : rwhole s' = true ∧ reqOk (rnum (l, true)).1 (rnum (rnum (l, true)).2).1 ([] ++ xs) = true
    · rw [if_pos hw]
      dsimp only
      obtain ⟨hw, hq⟩ := hw
      unfold rwhole at hw
      obtain ⟨w1, w2⟩ := Bool.and_eq_true_iff.1 hw
      obtain ⟨k1, k2, k3⟩ := hk w1
      have k0 := List.isEmpty_iff.1 w2
      rw [k0, List.append_nil] at k2
      rw [List.nil_append] at hq ⊢
      obtain ⟨g2, m2, d2, n2⟩ := rnum_back (canon_rnum (canon_rnum hc)) k1
      obtain ⟨g1, m1, d1, n1⟩ := rnum_back (canon_rnum hc) m2
      obtain ⟨g0, m0, d0, n0⟩ := rnum_back (s := (l, true)) hc m1
      have el : l = reqF (rnum (l, true)).1 (rnum (rnum (l, true)).2).1 xs := by
        have hx : ((xs.length : Nat) : Int) = (rnum (rnum (rnum (l, true)).2).2).1 := by have := n2.1; omega
        unfold reqF
        rw [hx, ← k2]
        calc l = (l, true).1 := rfl
          _ = _ := g0
          _ = _ := by rw [g1, g2]; rfl
      unfold encReq
      rw [if_pos hq, ← el, encode_fit hf hlen hle, of_enc hL]
    · rw [if_neg hw] at h
      exact absurd h (by decide)
  · obtain ⟨c, hc, h1⟩ := dec_bad1 b hd
    exact ⟨_, h1, fun h => absurd h hc⟩
end Go.Proofs.YtdfdlajfjcakaaaGreat.Pure
/-! A request there and back: plain. -/
namespace Go.Proofs.YtdfdlajfjcakaaaGreat.Pure
set_option linter.unusedVariables false
set_option linter.unusedSimpArgs false
open Go Go.RowKit Go.Proofs.YtdfdlajfjcakaaaGreat.PAll Go.Proofs.YtdfdlajfjcakaaaGreatW.PrintWords Go.Proofs.YtdfdlajfjcakaaaGreatW.PrintLast Go.Proofs.YtdfdlajfjcakaaaGreat.Bytes Go.Proofs.YtdfdlajfjcakaaaGreat.Fn

/-- A request there and back. -/
theorem req_there1 {a b : Int} {l : List S85} (h : (encReq a b l).2 = 0) : Ev (fun k => op_Decode.f k (encReq a b l).1) (a, b, l, 0) := by
  by_cases hq : reqOk a b l = true
  · have e : encReq a b l = encode (reqF a b l) := by unfold encReq; rw [if_pos hq]
    rw [e] at h ⊢
    obtain ⟨h1, h2⟩ := there (reqF_wide hq) h
    obtain ⟨ha, hb, hl1, hl, hx, hs⟩ := reqOk_R hq
    have hn : NumR (l.length : Int) := ⟨by omega, by omega⟩
    have hf := ops_fwd [] l 0 [] hx (by simp only [List.length_nil]; omega)
    simp only [List.append_nil, List.nil_append, Nat.zero_add] at hf
    have hh : reqF a b l = fN a :: fN b :: fN (l.length : Int) :: l.flatMap opF := rfl
    have := dec_req h1 h2 (r := (l, ([], true))) (by rw [hh, rnum_fN ha, rnum_fN hb, rnum_fN hn]; exact hf)
    rw [hh, rnum_fN ha, rnum_fN hb] at this
    unfold reqOut at this
    rw [if_pos ⟨rfl, hq⟩] at this
    rw [hh]
    exact this
  · unfold encReq at h
    rw [if_neg hq] at h
    exact absurd h (by decide)
theorem req_none {a b : Int} {l : List S85} (h : (encReq a b l).2 ≠ 0) : (encReq a b l).1 = ⟨#[]⟩ := by
  unfold encReq at h ⊢
  split
  · rename_i hq
    rw [if_pos hq] at h
    exact encode_err h
  · rfl

end Go.Proofs.YtdfdlajfjcakaaaGreat.Pure
