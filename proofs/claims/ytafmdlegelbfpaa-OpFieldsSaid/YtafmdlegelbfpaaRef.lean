-- written by a program of ours (a template of wip/pure, filled for this seat)
import Derived.Test.YtafmdlegelbfpaaPAllx0
import Derived.Test.YtafmdlegelbfpaaPAllx1048
import Derived.Test.YtafmdlegelbfpaaPAllx1067
import Derived.Test.YtafmdlegelbfpaaPAllx1068
import Derived.Test.YtafmdlegelbfpaaPAllx1083
import Derived.Test.YtafmdlegelbfpaaPAllx1094
import Derived.Test.YtafmdlegelbfpaaPureCodeBack
/-! The document's answer: it comes to the same. -/
namespace Go.Proofs.Ytafmdlegelbfpaa.Pure
set_option linter.unusedVariables false
set_option linter.unusedSimpArgs false
open Go Go.RowKit Go.Proofs.Ytafmdlegelbfpaa.PAll Go.Proofs.YtafmdlegelbfpaaW.PrintWords Go.Proofs.YtafmdlegelbfpaaW.PrintLast Go.Proofs.Ytafmdlegelbfpaa.Bytes Go.Proofs.Ytafmdlegelbfpaa.Fn

theorem u64w' (a : Int) : IntKind.u64.wrap a = a % 18446744073709551616 := by simp [IntKind.wrap, IntKind.bits, IntKind.signed]
theorem str1 (n : Nat) : strOfNums [(n : Int) % 256] = ⟨#[UInt8.ofNat (n % 256)]⟩ := by
  apply L_inj
  have : [(n : Int) % 256] = I [UInt8.ofNat (n % 256)] := by rw [I_cons, I_nil, byte_toNat]
  rw [this, strOf_I]
  rfl
theorem L_one (b : UInt8) : L ⟨#[b]⟩ = [b] := rfl
theorem size_one (b : UInt8) : (⟨#[b]⟩ : ByteArray).size = 1 := rfl

theorem rnum_l0 : ∀ (r : Nat) (x4 : ByteArray), x4.size + (digs r).length ≤ 8 → r < 18446744073709551616 →
    Ev (fun k => skylarkref01_Number.l0 k (r : Int) x4) ⟨(UInt8.ofNat (x4.size + (digs r).length) :: (L x4 ++ digs r)).toArray⟩ := by
  intro r
  induction r using Nat.strongRecOn with
  | _ r ih =>
    intro x4 h8 hr
    rcases Nat.eq_zero_or_pos r with rfl | hp
    · rw [digs_zero] at h8 ⊢
      simp only [List.length_nil, Nat.add_zero] at h8
      refine Ev.step (f := fun _ => some _) (fun k => ?_) (Ev.now _)
      simp only [skylarkref01_Number.l0]
      rw [if_neg (by omega)]
      simp only [Option.bind_some]
      rw [str1, size_one, if_pos (by omega)]
      congr 1
      apply L_inj
      rw [L_append, L_one, L_mk, Nat.mod_eq_of_lt (show x4.size < 256 by omega), List.length_nil, Nat.add_zero, List.append_nil]
      rfl
    · have hd := digs_pos hp
      rw [hd, List.length_cons] at h8
      have hs : (x4 ++ (⟨#[UInt8.ofNat (r % 256)]⟩ : ByteArray)).size = x4.size + 1 := by rw [← L_length, L_append, List.length_append, L_length]; rfl
      have e : (⟨(UInt8.ofNat (x4.size + (digs r).length) :: (L x4 ++ digs r)).toArray⟩ : ByteArray) = ⟨(UInt8.ofNat ((x4 ++ (⟨#[UInt8.ofNat (r % 256)]⟩ : ByteArray)).size + (digs (r / 256)).length) :: (L (x4 ++ (⟨#[UInt8.ofNat (r % 256)]⟩ : ByteArray)) ++ digs (r / 256))).toArray⟩ := by
        rw [hs, L_append, hd, L_one, List.append_assoc, List.length_cons]
        congr 4
        omega
      rw [e]
      refine Ev.step (fun k => ?_) (ih (r / 256) (by omega) _ (by rw [hs]; omega) (by omega))
      simp only [skylarkref01_Number.l0]
      rw [if_pos (by omega)]
      simp only [Option.bind_some]
      have h1 : Int.tmod (r : Int) 256 % 256 = (r : Int) % 256 := by rw [Int.tmod_eq_emod_of_nonneg (by omega)]; omega
      have h2 : IntKind.u64.wrap (Int.tdiv (r : Int) 256) = ((r / 256 : Nat) : Int) := by rw [u64w', Int.tdiv_eq_ediv_of_nonneg (by omega)]; omega
      rw [h1, str1, size_one, if_pos (by omega), h2]
theorem rnum_f (n : Int) : Ev (fun k => skylarkref01_Number.f k n) ⟨(num (u64 n)).toArray⟩ := by
  have h := rnum_l0 (u64 n) ⟨#[]⟩ (by have := digs_u64 n; show 0 + _ ≤ 8; omega) (u64_lt n)
  have e : (⟨(num (u64 n)).toArray⟩ : ByteArray) = ⟨(UInt8.ofNat ((⟨#[]⟩ : ByteArray).size + (digs (u64 n)).length) :: (L ⟨#[]⟩ ++ digs (u64 n))).toArray⟩ := by
    unfold num
    congr 4
    show _ = 0 + _
    omega
  rw [e]
  refine Ev.congr (fun k => ?_) h
  simp only [skylarkref01_Number.f]
  rw [u64_wrap]

theorem rone_f (x : S110) (hs : x.f2.size ≤ 140737488351232) : Ev (fun k => skylarkref01_One.f k x.f0 x.f1 x.f2) ⟨(one x).toArray⟩ := by
  have hsz : ∀ n, (⟨(num (u64 n)).toArray⟩ : ByteArray).size ≤ 9 := fun n => by rw [← L_length, L_mk, num_length]; have := digs_u64 n; omega
  by_cases hf : x.f0 = true
  · obtain ⟨K, h⟩ := rnum_f (x.f2.size : Int)
    refine ⟨K, fun k hk => ?_⟩
    have h := h k hk
    dsimp only at h
    simp only [skylarkref01_One.f]
    rw [if_pos hf, h]
    simp only [Option.bind_some]
    have := hsz (x.f2.size : Int)
    rw [if_pos (by omega), if_pos (by omega)]
    congr 1
    apply L_inj
    rw [L_append, L_append, L_one, L_mk, L_mk, one, if_pos hf, u64_nat (by omega)]
    rfl
  · obtain ⟨K, h⟩ := rnum_f x.f1
    refine ⟨K, fun k hk => ?_⟩
    have h := h k hk
    dsimp only at h
    simp only [skylarkref01_One.f]
    rw [if_neg hf, h]
    simp only [Option.bind_some]
    have := hsz x.f1
    rw [if_pos (by omega)]
    congr 1
    apply L_inj
    rw [L_append, L_one, L_mk, L_mk, one, if_neg hf]
    rfl

theorem rbytes_l0 (l : List S110) (hl : l.length ≤ 4096) (hs : ∀ x ∈ l, x.f2.size ≤ 140737488351232) : ∀ (d i : Nat), i + d = l.length → (enc (l.take i)).length < 141836999983104 →
    ∃ b : ByteArray, Ev (fun k => skylarkref01_Bytes.l0 k l (I (enc (l.take i))) (i : Int)) b ∧ (if (enc l).length ≤ 262144 then L b = enc l else 262144 < b.size) := by
  intro d
  induction d with
  | zero =>
    intro i hi hb
    have : i = l.length := by omega
    subst this
    rw [List.take_length] at hb ⊢
    refine ⟨strOfNums (I (enc l)), Ev.step (f := fun _ => some _) (fun k => ?_) (Ev.now _), ?_⟩
    · simp only [skylarkref01_Bytes.l0]
      rw [if_neg (by omega)]
    · split
      · exact strOf_I _
      · rw [← L_length, strOf_I]; omega
  | succ d ih =>
    intro i hi hb
    have hlt : i < l.length := by omega
    have htk : l.take (i + 1) = l.take i ++ [l[i]] := List.take_succ_eq_append_getElem hlt
    have he : enc (l.take (i + 1)) = enc (l.take i) ++ one l[i] := by rw [htk, enc_append]; simp [enc]
    have hle : (enc (l.take i)).length ≤ (enc l).length := by
      have : enc l = enc (l.take i) ++ enc (l.drop i) := by rw [← enc_append, List.take_append_drop]
      rw [this, List.length_append]; omega
    by_cases hbig : (enc (l.take i)).length ≤ 262144
    · have hx := hs l[i] (List.getElem_mem hlt)
      have ho : (one l[i]).length ≤ 140737488351300 := by
        unfold one
        split
        · have := digs_length 8 l[i].f2.size (by omega)
          simp [num_length, L_length]; omega
        · have := digs_u64 l[i].f1
          simp [num_length]; omega
      obtain ⟨b, ⟨K, h1⟩, h2⟩ := ih (i + 1) (by omega) (by rw [he, List.length_append]; omega)
      obtain ⟨K2, h3⟩ := rone_f l[i] hx
      refine ⟨b, ⟨max K K2 + 1, fun k hk => ?_⟩, h2⟩
      obtain ⟨k, rfl⟩ : ∃ j, k = j + 1 := ⟨k - 1, by omega⟩
      have h1 := h1 k (by omega)
      have h3 := h3 k (by omega)
      dsimp only at h1 h3
      simp only [skylarkref01_Bytes.l0]
      rw [if_pos (by omega), if_pos (by rw [I_length]; omega), if_pos (by omega), rd_get l i hlt, h3]
      simp only [Option.bind_some]
      have hsz : (⟨(one l[i]).toArray⟩ : ByteArray).size = (one l[i]).length := by rw [← L_length, L_mk]
      rw [hsz, if_pos (by rw [I_length]; omega), bytesOf_I, L_mk, ← I_append, ← he, wrap64_id (by omega) (by omega)]
      exact h1
    · refine ⟨strOfNums (I (enc (l.take i))), Ev.step (f := fun _ => some _) (fun k => ?_) (Ev.now _), ?_⟩
      · simp only [skylarkref01_Bytes.l0]
        rw [if_pos (by omega), if_neg (by rw [I_length]; omega)]
      · rw [if_neg (by omega), ← L_length, strOf_I]; omega

theorem rmay_f (x : S110) : skylarkref01_May.f x.f0 x.f1 x.f2 = some (ok x) := by
  unfold skylarkref01_May.f ok
  by_cases hf : x.f0 = true
  · rw [if_pos hf, if_pos hf]
    by_cases h1 : x.f1 = 0
    · rw [if_pos h1, h1]; rfl
    · rw [if_neg h1]
      congr 1
      symm
      simpa using h1
  · rw [if_neg hf, if_neg hf, toList_L]
    congr 1
    cases L x.f2 <;> rfl
theorem rencode_l0 (l : List S110) (hl : l.length ≤ 4096) (hs : ∀ x ∈ l, x.f2.size ≤ 140737488351232) : ∀ (d i : Nat), i + d = l.length →
    Ev (fun k => skylarkref01_Encode.l0 k l (i : Int)) (if (l.drop i).all ok = false then (⟨#[]⟩, 4) else if (enc l).length > 262144 then (⟨#[]⟩, 2) else (strOfNums (I (enc l)), 0)) := by
  intro d
  induction d with
  | zero =>
    intro i hi
    have : i = l.length := by omega
    subst this
    rw [List.drop_length]
    rw [if_neg (by simp)]
    obtain ⟨b, ⟨K, h1⟩, h2⟩ := rbytes_l0 l hl hs l.length 0 (by omega) (by simp [enc_nil])
    refine ⟨K + 1, fun k hk => ?_⟩
    obtain ⟨k, rfl⟩ : ∃ j, k = j + 1 := ⟨k - 1, by omega⟩
    have h1 := h1 k (by omega)
    dsimp only at h1
    simp only [skylarkref01_Encode.l0, skylarkref01_Bytes.f]
    rw [if_neg (by omega)]
    have h1' : skylarkref01_Bytes.l0 k l ([] : List Int) 0 = some b := h1
    rw [h1']
    simp only [Option.bind_some]
    by_cases hn : (enc l).length ≤ 262144
    · rw [if_pos hn] at h2
      have hb : b = strOfNums (I (enc l)) := L_inj (by rw [h2, strOf_I])
      rw [if_neg (by rw [← L_length, h2]; omega), if_neg (by omega), hb]
    · rw [if_neg hn] at h2
      rw [if_pos (by omega), if_pos (by omega)]
  | succ d ih =>
    intro i hi
    have hlt : i < l.length := by omega
    have hd : l.drop i = l[i] :: l.drop (i + 1) := List.drop_eq_getElem_cons hlt
    obtain ⟨K, h1⟩ := ih (i + 1) (by omega)
    refine ⟨K + 1, fun k hk => ?_⟩
    obtain ⟨k, rfl⟩ : ∃ j, k = j + 1 := ⟨k - 1, by omega⟩
    have h1 := h1 k (by omega)
    dsimp only at h1
    simp only [skylarkref01_Encode.l0]
    rw [if_pos (by omega), if_pos (by omega), rd_get l i hlt, rmay_f]
    simp only [Option.bind_some]
    rw [hd, List.all_cons]
    cases ho : ok l[i] with
    | false => rw [if_neg (by simp), if_pos (by simp)]
    | true =>
      rw [if_pos rfl, Bool.true_and, wrap64_id (by omega) (by omega)]
      exact h1
theorem rencode_f (l : List S110) (hs : ∀ x ∈ l, x.f2.size ≤ 140737488351232) : Ev (fun k => skylarkref01_Encode.f k l) (encode l) := by
  unfold encode
  by_cases hl : l.length > 4096
  · rw [if_pos hl]
    refine Ev.const fun k => ?_
    simp only [skylarkref01_Encode.f]
    rw [if_pos (by omega)]
  · rw [if_neg hl]
    obtain ⟨K, h⟩ := rencode_l0 l (by omega) hs l.length 0 (by omega)
    refine ⟨K, fun k hk => ?_⟩
    have h := h k hk
    simp only [skylarkref01_Encode.f]
    rw [if_neg (by omega)]
    exact h
end Go.Proofs.Ytafmdlegelbfpaa.Pure
