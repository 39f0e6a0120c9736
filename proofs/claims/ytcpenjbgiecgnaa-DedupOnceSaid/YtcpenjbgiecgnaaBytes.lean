-- written by a program of ours (a template of wip/pure, filled for this seat)
import Derived.Test.YtcpenjbgiecgnaaQA
/-! Bytes of texts as lists: plain facts. -/
namespace Go.Proofs.Ytcpenjbgiecgnaa.Bytes
set_option linter.unusedVariables false
set_option linter.unusedSimpArgs false
open Go.RowKit Go.Proofs.YtcpenjbgiecgnaaW.PrintWords

/-- A text's bytes. -/
def L (s : ByteArray) : List UInt8 := s.data.toList
theorem L_inj {s t : ByteArray} (h : L s = L t) : s = t := by
  cases s; cases t
  simp only [L, Array.toList_inj] at h
  rw [h]
theorem L_length (s : ByteArray) : (L s).length = s.size := Array.length_toList
theorem L_append (s t : ByteArray) : L (s ++ t) = L s ++ L t := by simp [L]
theorem L_mk (l : List UInt8) : L ⟨l.toArray⟩ = l := by simp [L]
theorem L_extract (s : ByteArray) (a b : Nat) : L (s.extract a b) = ((L s).take b).drop a := by
  show (s.extract a b).data.toList = _
  rw [ByteArray.data_extract, Array.toList_extract, List.extract_eq_take_drop, List.drop_take]
  rfl
theorem toList_loop (s : ByteArray) (n : Nat) : ∀ (i : Nat) (r : List UInt8), s.size - i = n → ByteArray.toList.loop s i r = r.reverse ++ (L s).drop i := by
  induction n with
  | zero =>
    intro i r h
    rw [ByteArray.toList.loop, if_neg (by omega), List.drop_of_length_le (by rw [L_length]; omega), List.append_nil]
  | succ n ih =>
    intro i r h
    have hi : i < s.size := by omega
    rw [ByteArray.toList.loop, if_pos hi, ih (i + 1) _ (by omega), List.drop_eq_getElem_cons (i := i) (by rw [L_length]; exact hi)]
    have : s.get! i = (L s)[i]'(by rw [L_length]; exact hi) := by
      cases s with
      | mk a =>
        have hi' : i < a.size := hi
        simp only [ByteArray.get!, L, Array.getElem_toList]
        exact getElem!_pos a i hi'
    rw [this]
    simp
theorem toList_L (s : ByteArray) : s.toList = L s := by
  rw [ByteArray.toList, toList_loop s s.size 0 [] (by omega)]
  simp
theorem size_L (s : ByteArray) : s.size = (L s).length := (L_length s).symm
/-- A byte told as a number. -/
def I (l : List UInt8) : List Int := l.map fun b => (b.toNat : Int)
theorem I_append (l m : List UInt8) : I (l ++ m) = I l ++ I m := by simp [I]
theorem I_length (l : List UInt8) : (I l).length = l.length := by simp [I]
theorem I_cons (b : UInt8) (l : List UInt8) : I (b :: l) = (b.toNat : Int) :: I l := rfl
theorem I_nil : I [] = [] := rfl
theorem bytesOf_I (s : ByteArray) : bytesOf s = I (L s) := rfl
theorem strOf_I (l : List UInt8) : L (strOfNums (I l)) = l := by
  show (strOfNums (I l)).data.toList = l
  rw [strOfNums_data, I, List.map_map]
  conv => rhs; rw [← List.map_id l]
  apply List.map_congr_left
  intro a _
  simp
theorem bt_L (s : ByteArray) (i : Nat) (h : i < (L s).length) : bt s (i : Int) = ((L s)[i].toNat : Int) := by
  have h' : i < s.size := by rw [← L_length]; exact h
  have := bt_at s (i : Int) h'
  rw [← this]
  rfl

/-! Numbers, lowest byte first -/
def digs (n : Nat) : List UInt8 := if h : n = 0 then [] else UInt8.ofNat (n % 256) :: digs (n / 256)
decreasing_by omega
theorem digs_zero : digs 0 = [] := by rw [digs]; simp
theorem digs_pos {n : Nat} (h : 0 < n) : digs n = UInt8.ofNat (n % 256) :: digs (n / 256) := by rw [digs, dif_neg (by omega)]
def unl : List UInt8 → Nat
  | [] => 0
  | b :: l => b.toNat + 256 * unl l
theorem unl_digs (n : Nat) : unl (digs n) = n := by
  induction n using Nat.strongRecOn with
  | _ n ih =>
    rcases Nat.eq_zero_or_pos n with rfl | h
    · rw [digs_zero]; rfl
    · rw [digs_pos h, unl, ih _ (by omega)]
      simp
      omega
theorem unl_lt (l : List UInt8) : unl l < 256 ^ l.length := by
  induction l with
  | nil => simp [unl]
  | cons b l ih =>
    have := b.toNat_lt
    simp only [unl, List.length_cons, Nat.pow_succ]
    omega
theorem digs_length (m : Nat) : ∀ n, n < 256 ^ m → (digs n).length ≤ m := by
  induction m with
  | zero => intro n h; have : n = 0 := by simpa using h
            subst this; rw [digs_zero]; simp
  | succ m ih =>
    intro n h
    rcases Nat.eq_zero_or_pos n with rfl | hp
    · rw [digs_zero]; simp
    · rw [digs_pos hp, List.length_cons]
      have := ih (n / 256) (by rw [Nat.pow_succ] at h; omega)
      omega
theorem digs_last (n : Nat) (h : 0 < n) : ∀ x, (digs n).getLast? = some x → x ≠ 0 := by
  induction n using Nat.strongRecOn with
  | _ n ih =>
    intro x hx
    rw [digs_pos h] at hx
    rcases Nat.eq_zero_or_pos (n / 256) with h0 | hp
    · rw [h0, digs_zero] at hx
      simp at hx
      subst hx
      intro e
      have := congrArg UInt8.toNat e
      simp at this
      omega
    · rw [digs_pos hp, List.getLast?_cons_cons, ← digs_pos hp] at hx
      exact ih _ (by omega) hp x hx
theorem unl_pos (l : List UInt8) : ∀ x, l.getLast? = some x → x ≠ 0 → 0 < unl l := by
  induction l with
  | nil => intro x h; cases h
  | cons b l ih =>
    intro x h hx
    cases l with
    | nil =>
      simp at h
      subst h
      have : b.toNat ≠ 0 := fun e => hx (by apply UInt8.toNat_inj.1; simpa using e)
      simp [unl]; omega
    | cons c l =>
      rw [List.getLast?_cons_cons] at h
      have := ih x h hx
      simp only [unl] at this ⊢
      omega
theorem digs_unl (l : List UInt8) (h : ∀ x, l.getLast? = some x → x ≠ 0) : digs (unl l) = l := by
  induction l with
  | nil => rw [unl, digs_zero]
  | cons b l ih =>
    have hb := b.toNat_lt
    have hl : ∀ x, l.getLast? = some x → x ≠ 0 := by
      intro x hx
      cases l with
      | nil => cases hx
      | cons c l => exact h x (by rw [List.getLast?_cons_cons]; exact hx)
    have hp : 0 < unl (b :: l) := by
      cases hg : (b :: l).getLast? with
      | none => simp at hg
      | some x => exact unl_pos _ x hg (h x hg)
    rw [digs_pos hp]
    have h1 : unl (b :: l) % 256 = b.toNat := by simp only [unl]; omega
    have h2 : unl (b :: l) / 256 = unl l := by simp only [unl]; omega
    rw [h1, h2, ih hl]
    simp
theorem unl_append (l m : List UInt8) : unl (l ++ m) = unl l + 256 ^ l.length * unl m := by
  induction l with
  | nil => simp [unl]
  | cons b l ih =>
    simp only [List.cons_append, unl, ih, List.length_cons, Nat.pow_succ, Nat.mul_add]
    rw [Nat.mul_comm (256 ^ l.length) 256, Nat.mul_assoc, Nat.add_assoc]
/-- A number's bytes: how many follow, and they. -/
def num (n : Nat) : List UInt8 := UInt8.ofNat (digs n).length :: digs n
/-- An int64 as one of 64 bits. -/
def u64 (n : Int) : Nat := (n % 18446744073709551616).toNat
theorem u64_lt (n : Int) : u64 n < 256 ^ 8 := by unfold u64; omega
theorem u64_nat {n : Nat} (h : n < 18446744073709551616) : u64 (n : Int) = n := by unfold u64; omega
theorem digs_u64 (n : Int) : (digs (u64 n)).length ≤ 8 := digs_length 8 _ (u64_lt n)
end Go.Proofs.Ytcpenjbgiecgnaa.Bytes
