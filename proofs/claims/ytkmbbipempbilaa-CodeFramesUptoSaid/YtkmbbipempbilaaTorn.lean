import Derived.Test.YtkmbbipempbilaaFrame
/-! Frames that are torn. -/
namespace Go.Proofs.Ytkmbbipempbilaa.Fn
set_option linter.unusedVariables false
set_option linter.unusedSimpArgs false
open Go Go.RowKit Go.Proofs.YtkmbbipempbilaaW.PrintWords Go.Proofs.YtkmbbipempbilaaW.PrintLast Go.Proofs.Ytkmbbipempbilaa.PAll Go.Proofs.Ytkmbbipempbilaa.Bytes

def total : List UInt8 → Nat
  | [] => 0
  | b :: l => b.toNat + total l
theorem sumSt_fst : ∀ (l : List UInt8) (p : Nat × Nat), p.1 < 65521 → (sumSt p l).1 = (p.1 + total l) % 65521
  | [], p, h => by simp only [sumSt, total]; omega
  | b :: l, p, h => by
    simp only [sumSt, total]
    rw [sumSt_fst l _ (by simp only; omega)]
    simp only
    omega
theorem total_append (l m : List UInt8) : total (l ++ m) = total l + total m := by
  induction l with
  | nil => simp [total]
  | cons b l ih => simp only [List.cons_append, total, ih]; omega
/-- One byte that is another one: another sum. -/
theorem sum_other (l m : List UInt8) (x y : UInt8) (h : x ≠ y) : sum (l ++ x :: m) ≠ sum (l ++ y :: m) := by
  have hx := x.toNat_lt
  have hy := y.toNat_lt
  have hne : x.toNat ≠ y.toNat := fun e => h (UInt8.toNat_inj.1 e)
  have h1 := sumSt_fst (l ++ x :: m) (1, 0) (by decide)
  have h2 := sumSt_fst (l ++ y :: m) (1, 0) (by decide)
  have h3 := sumSt_lt (l ++ x :: m) (1, 0) (by decide) (by decide)
  have h4 := sumSt_lt (l ++ y :: m) (1, 0) (by decide) (by decide)
  rw [total_append] at h1 h2
  simp only [total] at h1 h2
  unfold sum
  omega
theorem unl_inj4 {l m : List UInt8} (hl : l.length = m.length) (h : unl l = unl m) : l = m := by
  induction l generalizing m with
  | nil => cases m with
    | nil => rfl
    | cons _ _ => simp at hl
  | cons a l ih =>
    cases m with
    | nil => simp at hl
    | cons b m =>
      simp only [List.length_cons] at hl
      simp only [unl] at h
      have ha := a.toNat_lt
      have hb := b.toNat_lt
      have e1 : a.toNat = b.toNat := by omega
      have e2 : unl l = unl m := by omega
      rw [UInt8.toNat_inj.1 e1, ih (by omega) e2]
theorem frame_head (b rest : List UInt8) : (frame b ++ rest).take 4 = le4 b.length := by
  unfold frame
  rw [List.append_assoc, List.append_assoc, List.take_left' (le4_length _)]
/-- A frame that ends early. -/
theorem unfr_cut (b : List UInt8) (hb : b.length ≤ 65536) (c : Nat) (hc : c < (frame b).length) : unfr 0 ((frame b).take c) = (⟨#[]⟩, 0, 0, 11) := by
  unfold unfr
  have hlen : ((frame b).take c).length = c := by rw [List.length_take]; omega
  rw [hlen]
  by_cases h : c < 4
  · rw [if_pos h]
  · have h4 : ((frame b).take c).take 4 = le4 b.length := by
      rw [List.take_take, Nat.min_eq_left (by omega)]
      have := frame_head b []
      rwa [List.append_nil] at this
    rw [frame_length] at hc
    rw [if_neg h, h4, unl_le4 _ (by omega), if_neg (by omega), if_pos (by omega)]
/-- A frame in which one byte behind the number is another one. -/
theorem unfr_other (b : List UInt8) (hb : b.length ≤ 65536) (k : Nat) (h4 : 4 ≤ k) (hk : k < (frame b).length) (v : UInt8) (hv : v ≠ (frame b)[k]) : unfr 0 ((frame b).set k v) = (⟨#[]⟩, 0, 0, 10) := by
  have hfl := frame_length b
  have e4 : ((frame b).set k v).take 4 = le4 b.length := by
    rw [List.take_set, List.set_eq_of_length_le (by rw [List.length_take]; omega)]
    have := frame_head b []
    rwa [List.append_nil] at this
  have hbody : (frame b).take (4 + b.length) = le4 b.length ++ b := by
    unfold frame
    rw [List.take_left' (by rw [List.length_append, le4_length])]
  have hsum : (frame b).drop (4 + b.length) = le4 (sum (le4 b.length ++ b)) := by
    unfold frame
    rw [List.drop_left' (by rw [List.length_append, le4_length])]
  have hlt := sum_lt (le4 b.length ++ b)
  unfold unfr
  rw [List.length_set, if_neg (by omega), e4, unl_le4 _ (by omega), if_neg (by omega), if_neg (by omega), if_neg]
  by_cases hin : k < 4 + b.length
  · have hd : ((frame b).set k v).drop (4 + b.length) = le4 (sum (le4 b.length ++ b)) := by
      rw [List.drop_set, if_pos hin, hsum]
    have htk : (le4 (sum (le4 b.length ++ b))).take 4 = le4 (sum (le4 b.length ++ b)) := rfl
    rw [hd, htk, unl_le4 _ hlt]
    have hkl : k < (le4 b.length ++ b).length := by rw [List.length_append, le4_length]; exact hin
    have ht : ((frame b).set k v).take (4 + b.length) = (le4 b.length ++ b).set k v := by rw [List.take_set, hbody]
    have hg : (frame b)[k] = (le4 b.length ++ b)[k] := by
      have : ((frame b).take (4 + b.length))[k]'(by rw [hbody]; exact hkl) = (frame b)[k] := List.getElem_take
      rw [← this]
      congr 1
    rw [ht]
    generalize le4 b.length ++ b = m at hkl hg ⊢
    have e1 : m = m.take k ++ m[k] :: m.drop (k + 1) := by rw [← List.drop_eq_getElem_cons hkl, List.take_append_drop]
    have e2 : m.set k v = m.take k ++ v :: m.drop (k + 1) := List.set_eq_take_append_cons_drop .. |>.trans (by rw [if_pos hkl])
    rw [e2]
    intro e
    conv at e => rhs; rw [e1]
    exact sum_other _ _ _ _ (by rw [← hg]; exact hv) e
  · have ht : ((frame b).set k v).take (4 + b.length) = le4 b.length ++ b := by
      rw [List.take_set, List.set_eq_of_length_le (by rw [List.length_take]; omega), hbody]
    rw [ht]
    have hd : ((frame b).set k v).drop (4 + b.length) = (le4 (sum (le4 b.length ++ b))).set (k - (4 + b.length)) v := by
      rw [List.drop_set, if_neg hin, hsum]
    rw [hd, List.take_of_length_le (by rw [List.length_set, le4_length]; omega)]
    intro e
    have hu := unl_le4 _ hlt
    have := unl_inj4 (l := le4 (sum (le4 b.length ++ b))) (by rw [List.length_set]) (hu.trans e)
    have hj : k - (4 + b.length) < (le4 (sum (le4 b.length ++ b))).length := by rw [le4_length]; omega
    have hg : (frame b)[k] = (le4 (sum (le4 b.length ++ b)))[k - (4 + b.length)] := by
      have h0 : ((frame b).drop (4 + b.length))[k - (4 + b.length)]'(by rw [hsum]; exact hj) = (frame b)[k] := by
        rw [List.getElem_drop]
        congr 1
        omega
      rw [← h0]
      congr 1
    apply hv
    rw [hg]
    have h2 := congrArg (fun l => l[k - (4 + b.length)]?) this
    simp only [List.getElem?_eq_getElem hj] at h2
    rw [List.getElem?_set_self hj] at h2
    injection h2 with h2
    exact h2.symm
theorem xor_other (a b : UInt8) (h : b ≠ 0) : a ^^^ b ≠ a := by
  intro e
  apply h
  have : a ^^^ (a ^^^ b) = a ^^^ a := by rw [e]
  rw [← UInt8.xor_assoc, UInt8.xor_self, UInt8.zero_xor] at this
  exact this
theorem bits_xor8 (a b : UInt8) : Go.bits .xor .u8 (a.toNat : Int) (b.toNat : Int) = ((a ^^^ b).toNat : Int) := by
  rw [u8_xor_nat _ _ a.toNat_lt b.toNat_lt, UInt8.toNat_xor]
end Go.Proofs.Ytkmbbipempbilaa.Fn
