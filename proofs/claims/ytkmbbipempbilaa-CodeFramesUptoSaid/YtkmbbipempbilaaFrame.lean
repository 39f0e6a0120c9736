import Derived.Test.YtkmbbipempbilaaPAllx16
import Derived.Test.YtkmbbipempbilaaPureCodeBack
/-! Frames: what the functions come to. -/
namespace Go.Proofs.Ytkmbbipempbilaa.Fn
set_option linter.unusedVariables false
set_option linter.unusedSimpArgs false
open Go Go.RowKit Go.Proofs.YtkmbbipempbilaaW.PrintWords Go.Proofs.YtkmbbipempbilaaW.PrintLast Go.Proofs.Ytkmbbipempbilaa.PAll Go.Proofs.Ytkmbbipempbilaa.Bytes

/-- A number of 32 bits, the least byte ahead. -/
def le4 (n : Nat) : List UInt8 := [UInt8.ofNat (n % 256), UInt8.ofNat (n / 256 % 256), UInt8.ofNat (n / 65536 % 256), UInt8.ofNat (n / 16777216 % 256)]
theorem le4_length (n : Nat) : (le4 n).length = 4 := rfl
theorem I_le4 (n : Nat) : I (le4 n) = [(n : Int) % 256, (n : Int) / 256 % 256, (n : Int) / 65536 % 256, (n : Int) / 16777216 % 256] := by
  simp only [le4, I_cons, I_nil, byte_toNat]
  simp
theorem low_f (l : List Int) (n : Nat) (hl : l.length + 8 ≤ 140737488355328) : Ev (fun k => code_low_uint32.f k l (n : Int) 4) (l ++ I (le4 n)) := by
  have h4 : Ev (fun k => code_little_uint32_onto.l0 k (l ++ [(n : Int) % 256] ++ [(n : Int) / 256 % 256] ++ [(n : Int) / 256 / 256 % 256] ++ [(n : Int) / 256 / 256 / 256 % 256]) 4 4 ((n : Int) / 256 / 256 / 256 / 256) 4) (l ++ I (le4 n)) := by
    refine Ev.step (f := fun _ => some _) (fun k => ?_) (Ev.now _)
    simp only [code_little_uint32_onto.l0]
    rw [if_neg (by decide), I_le4]
    congr 1
    have e1 : (n : Int) / 256 / 256 = (n : Int) / 65536 := by omega
    have e2 : (n : Int) / 65536 / 256 = (n : Int) / 16777216 := by omega
    rw [e1, e2]
    simp
  have h3 : Ev (fun k => code_little_uint32_onto.l0 k (l ++ [(n : Int) % 256] ++ [(n : Int) / 256 % 256] ++ [(n : Int) / 256 / 256 % 256]) 4 3 ((n : Int) / 256 / 256 / 256) 4) (l ++ I (le4 n)) := by
    refine Ev.step (fun k => ?_) h4
    simp only [code_little_uint32_onto.l0]
    rw [if_pos (by decide), if_pos (by simp; omega), wrap64_id (by omega) (by omega)]
    rfl
  have h2 : Ev (fun k => code_little_uint32_onto.l0 k (l ++ [(n : Int) % 256] ++ [(n : Int) / 256 % 256]) 4 2 ((n : Int) / 256 / 256) 4) (l ++ I (le4 n)) := by
    refine Ev.step (fun k => ?_) h3
    simp only [code_little_uint32_onto.l0]
    rw [if_pos (by decide), if_pos (by simp; omega), wrap64_id (by omega) (by omega)]
    rfl
  have h1 : Ev (fun k => code_little_uint32_onto.l0 k (l ++ [(n : Int) % 256]) 4 1 ((n : Int) / 256) 4) (l ++ I (le4 n)) := by
    refine Ev.step (fun k => ?_) h2
    simp only [code_little_uint32_onto.l0]
    rw [if_pos (by decide), if_pos (by simp; omega), wrap64_id (by omega) (by omega)]
    rfl
  have h0 : Ev (fun k => code_little_uint32_onto.l0 k l 4 0 (n : Int) 4) (l ++ I (le4 n)) := by
    refine Ev.step (fun k => ?_) h1
    simp only [code_little_uint32_onto.l0]
    rw [if_pos (by decide), if_pos (by omega), wrap64_id (by omega) (by omega)]
    rfl
  obtain ⟨K, h⟩ := h0
  refine ⟨K, fun k hk => ?_⟩
  have h := h k hk
  dsimp only at h
  simp only [code_low_uint32.f, code_little_uint32_onto.f]
  rw [h]
  rfl

/-- A frame's bytes. -/
def frame (b : List UInt8) : List UInt8 := le4 b.length ++ b ++ le4 (sum (le4 b.length ++ b))
theorem frame_length (b : List UInt8) : (frame b).length = b.length + 8 := by simp [frame, le4_length]; omega
theorem frame_f (b : ByteArray) : Ev (fun k => code_Frame.f k b) (if b.size > 65536 then (⟨#[]⟩, 2) else (strOfNums (I (frame (L b))), 0)) := by
  by_cases hb : b.size > 65536
  · rw [if_pos hb]
    refine Ev.const fun k => ?_
    simp only [code_Frame.f]
    rw [if_pos (by omega)]
  · rw [if_neg hb]
    obtain ⟨K1, h1⟩ := low_f [] b.size (by simp)
    have e1 : I (le4 b.size) ++ bytesOf b = I (le4 (L b).length ++ L b) := by rw [bytesOf_I, I_append, L_length]
    obtain ⟨K2, h2⟩ := sum_f (strOfNums (I (le4 (L b).length ++ L b))) (by rw [← L_length, strOf_I, List.length_append, L_length, le4_length]; omega)
    rw [strOf_I] at h2
    obtain ⟨K3, h3⟩ := low_f (I (le4 (L b).length ++ L b)) (sum (le4 (L b).length ++ L b)) (by rw [I_length, List.length_append, L_length, le4_length]; omega)
    refine ⟨max K1 (max K2 K3), fun k hk => ?_⟩
    have h1 := h1 k (by omega)
    have h2 := h2 k (by omega)
    have h3 := h3 k (by omega)
    dsimp only at h1 h2 h3
    rw [List.nil_append] at h1
    simp only [code_Frame.f]
    rw [if_neg (by omega), Int.emod_eq_of_lt (by omega) (by omega), h1]
    simp only [Option.bind_some]
    rw [if_pos (by rw [I_length, le4_length]; omega), e1, h2]
    simp only [Option.bind_some]
    rw [h3]
    simp only [Option.bind_some]
    rw [← I_append]
    rfl
theorem or_join32 (a b : Nat) (ha : a < 16777216) (hb : b < 256) : Go.bits .or .u32 (((a : Int) * 256) % 4294967296) ((b : Int) % 4294967296) = ((b + 256 * a : Nat) : Int) := by
  have h1 : ((a : Int) * 256) % 4294967296 = ((256 * a : Nat) : Int) := by omega
  have h2 : (b : Int) % 4294967296 = (b : Int) := by omega
  rw [h1, h2, u32_or_nat _ _ (by omega) (by omega), nat_join 8 (256 * a) b (by omega) (by omega), Nat.add_comm]
theorem unlow32_f (s : ByteArray) (hs : s.size = 4) : Ev (fun k => code_unlow_uint32.f k s) (unl (L s) : Int) := by
  match hL : L s with
  | [b0, b1, b2, b3] =>
    have c0 := b0.toNat_lt; have c1 := b1.toNat_lt; have c2 := b2.toNat_lt; have c3 := b3.toNat_lt
    have t0 : bt s 0 = (b0.toNat : Int) := by have := bt_L s 0 (by rw [hL]; simp); simpa [hL] using this
    have t1 : bt s 1 = (b1.toNat : Int) := by have := bt_L s 1 (by rw [hL]; simp); simpa [hL] using this
    have t2 : bt s 2 = (b2.toNat : Int) := by have := bt_L s 2 (by rw [hL]; simp); simpa [hL] using this
    have t3 : bt s 3 = (b3.toNat : Int) := by have := bt_L s 3 (by rw [hL]; simp); simpa [hL] using this
    have e : (unl [b0, b1, b2, b3] : Int) = ((b0.toNat + 256 * (b1.toNat + 256 * (b2.toNat + 256 * b3.toNat)) : Nat) : Int) := by simp [unl]
    rw [e]
    have q0 : Ev (fun k => code_unlow_uint32.l0 k s ((b0.toNat + 256 * (b1.toNat + 256 * (b2.toNat + 256 * b3.toNat)) : Nat) : Int) (-1)) ((b0.toNat + 256 * (b1.toNat + 256 * (b2.toNat + 256 * b3.toNat)) : Nat) : Int) := by
      refine Ev.step (f := fun _ => some _) (fun k => ?_) (Ev.now _)
      simp only [code_unlow_uint32.l0]
      rw [if_neg (by decide)]
    have q1 : Ev (fun k => code_unlow_uint32.l0 k s ((b1.toNat + 256 * (b2.toNat + 256 * b3.toNat) : Nat) : Int) 0) ((b0.toNat + 256 * (b1.toNat + 256 * (b2.toNat + 256 * b3.toNat)) : Nat) : Int) := by
      refine Ev.step (fun k => ?_) q0
      simp only [code_unlow_uint32.l0]
      rw [if_pos (by decide), if_pos (by decide), if_pos (by omega), t0, or_join32 _ _ (by omega) c0, wrap64_id (by omega) (by omega)]
      rfl
    have q2 : Ev (fun k => code_unlow_uint32.l0 k s ((b2.toNat + 256 * b3.toNat : Nat) : Int) 1) ((b0.toNat + 256 * (b1.toNat + 256 * (b2.toNat + 256 * b3.toNat)) : Nat) : Int) := by
      refine Ev.step (fun k => ?_) q1
      simp only [code_unlow_uint32.l0]
      rw [if_pos (by decide), if_pos (by decide), if_pos (by omega), t1, or_join32 _ _ (by omega) c1, wrap64_id (by omega) (by omega)]
      rfl
    have q3 : Ev (fun k => code_unlow_uint32.l0 k s ((b3.toNat : Nat) : Int) 2) ((b0.toNat + 256 * (b1.toNat + 256 * (b2.toNat + 256 * b3.toNat)) : Nat) : Int) := by
      refine Ev.step (fun k => ?_) q2
      simp only [code_unlow_uint32.l0]
      rw [if_pos (by decide), if_pos (by decide), if_pos (by omega), t2, or_join32 _ _ (by omega) c2, wrap64_id (by omega) (by omega)]
      rfl
    have q4 : Ev (fun k => code_unlow_uint32.l0 k s 0 3) ((b0.toNat + 256 * (b1.toNat + 256 * (b2.toNat + 256 * b3.toNat)) : Nat) : Int) := by
      refine Ev.step (fun k => ?_) q3
      simp only [code_unlow_uint32.l0]
      have := or_join32 0 b3.toNat (by omega) c3
      rw [if_pos (by decide), if_pos (by decide), if_pos (by omega), t3, wrap64_id (by omega) (by omega)]
      have e0 : ((0 : Nat) : Int) = 0 := rfl
      rw [e0, Nat.mul_zero, Nat.add_zero] at this
      rw [this]
      rfl
    refine Ev.congr (fun k => ?_) q4
    simp only [code_unlow_uint32.f]
    have hw : wrap64 (((4 : Nat) : Int) - 1) = 3 := by rw [wrap64_id (by omega) (by omega)]; rfl
    rw [hs, hw]
  | [] => rw [← L_length, hL] at hs; simp at hs
  | [_] => rw [← L_length, hL] at hs; simp at hs
  | [_, _] => rw [← L_length, hL] at hs; simp at hs
  | [_, _, _] => rw [← L_length, hL] at hs; simp at hs
  | _ :: _ :: _ :: _ :: _ :: _ => rw [← L_length, hL] at hs; simp at hs

/-- What is found at a place: t is what stands there and behind. -/
def unfr (at_ : Int) (t : List UInt8) : ByteArray × Int × Int × Int :=
  if t.length < 4 then (⟨#[]⟩, 0, at_, 11)
  else if unl (t.take 4) > 65536 then (⟨#[]⟩, 0, at_, 2)
  else if t.length < 4 + unl (t.take 4) + 4 then (⟨#[]⟩, 0, at_, 11)
  else if sum (t.take (4 + unl (t.take 4))) = unl ((t.drop (4 + unl (t.take 4))).take 4) then (⟨((t.drop 4).take (unl (t.take 4))).toArray⟩, at_ + ((unl (t.take 4) + 8 : Nat) : Int), 0, 0)
  else (⟨#[]⟩, 0, at_, 10)
theorem unframe_f (s : ByteArray) (p : Nat) (hp : p ≤ s.size) (hs : s.size ≤ 9223372036854775806) : Ev (fun k => code_Unframe.f k s (p : Int)) (unfr (p : Int) ((L s).drop p)) := by
  obtain ⟨b, hb⟩ : ∃ b, s.extract p s.size = b := ⟨_, rfl⟩
  have hLb : L b = (L s).drop p := by rw [← hb, L_extract, List.take_of_length_le (by rw [L_length]; omega)]
  have hsz : b.size = ((L s).drop p).length := by rw [← L_length, hLb]
  have hle : b.size ≤ s.size := by rw [hsz, List.length_drop, L_length]; omega
  obtain ⟨t, ht⟩ : ∃ t, (L s).drop p = t := ⟨_, rfl⟩
  rw [ht] at hLb hsz
  rw [ht]
  by_cases h1 : t.length < 4
  · refine Ev.const fun k => ?_
    simp only [code_Unframe.f, code_Unframe.r, unfr]
    rw [if_neg (by omega), if_neg (by omega), Int.toNat_natCast, hb, if_pos (by omega), if_pos h1]
  · have hx4 : (b.extract 0 4).size = 4 := by rw [← L_length, L_extract, hLb, List.drop_zero, List.length_take]; omega
    have hL4 : L (b.extract 0 4) = t.take 4 := by rw [L_extract, hLb, List.drop_zero]
    obtain ⟨K1, h2⟩ := unlow32_f (b.extract 0 4) hx4
    rw [hL4] at h2
    have hu := unl_lt (t.take 4)
    have hl4 : (t.take 4).length = 4 := by rw [List.length_take]; omega
    rw [hl4] at hu
    obtain ⟨u, hue⟩ : ∃ u, unl (t.take 4) = u := ⟨_, rfl⟩
    rw [hue] at h2 hu
    have start : ∀ k, K1 ≤ k → code_Unframe.f k s (p : Int) = code_Unframe.t k (p : Int) (u : Int) b := by
      intro k hk
      have h := h2 k hk
      dsimp only at h
      simp only [code_Unframe.f]
      rw [if_neg (by omega), if_neg (by omega), Int.toNat_natCast, hb, if_neg (by omega), h]
      rfl
    unfold unfr
    rw [hue, if_neg h1]
    by_cases h3 : u > 65536
    · rw [if_pos h3]
      refine ⟨K1, fun k hk => ?_⟩
      dsimp only
      rw [start k hk]
      simp only [code_Unframe.t, code_Unframe.r]
      rw [if_neg (by omega), if_pos (by omega)]
    · rw [if_neg h3]
      by_cases h4 : t.length < 4 + u + 4
      · rw [if_pos h4]
        refine ⟨K1, fun k hk => ?_⟩
        dsimp only
        rw [start k hk]
        simp only [code_Unframe.t, code_Unframe.r]
        rw [if_neg (by omega), if_neg (by omega), if_pos (by omega)]
      · rw [if_neg h4]
        have en : (4 + (u : Int)).toNat = 4 + u := by omega
        have en2 : (4 + (u : Int) + 4).toNat = 4 + u + 4 := by omega
        have hLs : L (b.extract 0 (4 + u)) = t.take (4 + u) := by rw [L_extract, hLb, List.drop_zero]
        have hLd : L (b.extract (4 + u) (4 + u + 4)) = (t.drop (4 + u)).take 4 := by rw [L_extract, hLb, List.drop_take, Nat.add_sub_cancel_left]
        have hsd : (b.extract (4 + u) (4 + u + 4)).size = 4 := by rw [← L_length, hLd, List.length_take, List.length_drop]; omega
        obtain ⟨K2, h5⟩ := sum_f (b.extract 0 (4 + u)) (by rw [← L_length, hLs, List.length_take]; omega)
        obtain ⟨K3, h6⟩ := unlow32_f (b.extract (4 + u) (4 + u + 4)) hsd
        rw [hLs] at h5
        rw [hLd] at h6
        have hex : b.extract 4 (4 + u) = ⟨((t.drop 4).take u).toArray⟩ := by
          apply of_L
          rw [L_extract, hLb, List.drop_take, Nat.add_sub_cancel_left]
        refine ⟨max K1 (max K2 K3), fun k hk => ?_⟩
        have h5 := h5 k (by omega)
        have h6 := h6 k (by omega)
        dsimp only at h5 h6 ⊢
        rw [start k (by omega)]
        have hbs : p + (4 + u + 4) ≤ s.size := by
          have := congrArg List.length ht
          rw [List.length_drop, L_length] at this
          omega
        simp only [code_Unframe.t, code_Unframe.r]
        rw [if_neg (by omega), if_neg (by omega), if_neg (by omega), en, en2, h5]
        simp only [Option.bind_some]
        rw [h6]
        simp only [Option.bind_some]
        rw [hex, wrap64_id (n := (p : Int) + (4 + (u : Int))) (by omega) (by omega), wrap64_id (n := (p : Int) + (4 + (u : Int)) + 4) (by omega) (by omega)]
        by_cases h7 : sum (t.take (4 + u)) = unl ((t.drop (4 + u)).take 4)
        · rw [if_pos h7, if_pos (by omega)]
          congr 3
          omega
        · rw [if_neg h7, if_neg (by omega)]
theorem unl_le4 (n : Nat) (h : n < 4294967296) : unl (le4 n) = n := by
  simp only [le4, unl, UInt8.toNat_ofNat']
  omega
theorem unfr_frame (p : Int) (b rest : List UInt8) (hb : b.length ≤ 65536) : unfr p (frame b ++ rest) = (⟨b.toArray⟩, p + ((b.length + 8 : Nat) : Int), 0, 0) := by
  have h4 : (frame b ++ rest).take 4 = le4 b.length := by
    unfold frame
    rw [List.append_assoc, List.append_assoc, List.take_left' (le4_length _)]
  have hu := unl_le4 b.length (by omega)
  have hsu := sum_lt (le4 b.length ++ b)
  have ht : (frame b ++ rest).take (4 + b.length) = le4 b.length ++ b := by
    unfold frame
    rw [List.append_assoc, List.take_left' (by rw [List.length_append, le4_length])]
  have hd : (frame b ++ rest).drop (4 + b.length) = le4 (sum (le4 b.length ++ b)) ++ rest := by
    unfold frame
    rw [List.append_assoc, List.drop_left' (by rw [List.length_append, le4_length])]
  have hbod : ((frame b ++ rest).drop 4).take b.length = b := by
    unfold frame
    rw [List.append_assoc, List.append_assoc, List.drop_left' (le4_length _), List.take_left]
  unfold unfr
  rw [h4, hu, if_neg (by rw [List.length_append, frame_length]; omega), if_neg (by omega), if_neg (by rw [List.length_append, frame_length]; omega), ht, hd, List.take_left' (le4_length _), unl_le4 _ hsu, if_pos rfl, hbod]
end Go.Proofs.Ytkmbbipempbilaa.Fn
