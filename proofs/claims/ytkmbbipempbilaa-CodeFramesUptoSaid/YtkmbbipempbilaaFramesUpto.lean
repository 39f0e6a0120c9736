import Derived.Test.YtkmbbipempbilaaFound
import Derived.Test.YtkmbbipempbilaaPAllx17
/-! CodeFrames: up to a size. -/
namespace Go.Proofs.Ytkmbbipempbilaa.Fn
set_option linter.unusedVariables false
set_option linter.unusedSimpArgs false
open Go Go.RowKit Go.Proofs.YtkmbbipempbilaaW.PrintWords Go.Proofs.YtkmbbipempbilaaW.PrintLast Go.Proofs.Ytkmbbipempbilaa.PAll Go.Proofs.Ytkmbbipempbilaa.Bytes

theorem rsum_l0 (s : ByteArray) (hs : s.size ≤ 9223372036854775806) : ∀ (d i : Nat) (p : Nat × Nat), i + d = s.size → p.1 < 65521 → p.2 < 65521 →
    Ev (fun k => skylarkref01_Sum.l0 k s (p.1 : Int) (p.2 : Int) (i : Int)) ((65536 * (sumSt p ((L s).drop i)).2 + (sumSt p ((L s).drop i)).1 : Nat) : Int) := by
  intro d
  induction d with
  | zero =>
    intro i p hi h1 h2
    rw [List.drop_of_length_le (by rw [L_length]; omega)]
    refine Ev.step (f := fun _ => some ((65536 * p.2 + p.1 : Nat) : Int)) (fun k => ?_) (Ev.now _)
    simp only [skylarkref01_Sum.l0]
    rw [if_neg (by omega)]
    congr 1
    omega
  | succ d ih =>
    intro i p hi h1 h2
    have hlt : i < (L s).length := by rw [L_length]; omega
    have hb := (L s)[i].toNat_lt
    have := ih (i + 1) ((p.1 + (L s)[i].toNat) % 65521, (p.2 + (p.1 + (L s)[i].toNat) % 65521) % 65521) (by omega) (by simp only; omega) (by simp only; omega)
    rw [List.drop_eq_getElem_cons hlt]
    refine Ev.step (fun k => ?_) this
    simp only [skylarkref01_Sum.l0]
    rw [if_pos (by omega), if_pos (by omega), bt_L s i hlt, wrap64_id (by omega) (by omega)]
    congr 1
    · omega
    · omega
theorem rsum_f (s : ByteArray) (hs : s.size ≤ 9223372036854775806) : Ev (fun k => skylarkref01_Sum.f k s) (sum (L s) : Int) := by
  have := rsum_l0 s hs s.size 0 (1, 0) (by omega) (by decide) (by decide)
  rw [List.drop_zero] at this
  exact this
theorem rfour_f (n : Nat) : skylarkref01_four.f (n : Int) = some ⟨(le4 n).toArray⟩ := by
  simp only [skylarkref01_four.f]
  congr 1
theorem rframe_f (b : ByteArray) : Ev (fun k => skylarkref01_Frame.f k b) (if b.size > 65536 then (⟨#[]⟩, 2) else (strOfNums (I (frame (L b))), 0)) := by
  by_cases hb : b.size > 65536
  · rw [if_pos hb]
    refine Ev.const fun k => ?_
    simp only [skylarkref01_Frame.f]
    rw [if_pos (by omega)]
  · rw [if_neg hb]
    have hL : L (⟨(le4 b.size).toArray⟩ ++ b) = le4 (L b).length ++ L b := by rw [L_append, L_mk, L_length]
    have h4 : ∀ n, (⟨(le4 n).toArray⟩ : ByteArray).size = 4 := fun n => by rw [← L_length, L_mk]; rfl
    obtain ⟨K, h⟩ := rsum_f (⟨(le4 b.size).toArray⟩ ++ b) (by rw [← L_length, hL, List.length_append, le4_length, L_length]; omega)
    rw [hL] at h
    refine ⟨K, fun k hk => ?_⟩
    have h := h k hk
    dsimp only at h
    simp only [skylarkref01_Frame.f, skylarkref01_Of.f]
    rw [if_neg (by omega), Int.emod_eq_of_lt (by omega) (by omega), rfour_f]
    simp only [Option.bind_some]
    rw [h4, if_pos (by omega), h]
    simp only [Option.bind_some]
    rw [rfour_f]
    simp only [Option.bind_some]
    rw [h4, if_pos (by omega)]
    simp only [Option.bind_some]
    congr 2
    apply L_inj
    rw [L_append, hL, L_mk, strOf_I]
    rfl
theorem runfour_f (s : ByteArray) (hs : 4 ≤ s.size) : skylarkref01_unfour.f s = some (unl ((L s).take 4) : Int) := by
  match hL : L s with
  | b0 :: b1 :: b2 :: b3 :: r =>
    have c0 := b0.toNat_lt; have c1 := b1.toNat_lt; have c2 := b2.toNat_lt; have c3 := b3.toNat_lt
    have t0 : bt s 0 = (b0.toNat : Int) := by have := bt_L s 0 (by rw [hL]; simp); simpa [hL] using this
    have t1 : bt s 1 = (b1.toNat : Int) := by have := bt_L s 1 (by rw [hL]; simp); simpa [hL] using this
    have t2 : bt s 2 = (b2.toNat : Int) := by have := bt_L s 2 (by rw [hL]; simp); simpa [hL] using this
    have t3 : bt s 3 = (b3.toNat : Int) := by have := bt_L s 3 (by rw [hL]; simp); simpa [hL] using this
    simp only [skylarkref01_unfour.f]
    rw [if_pos (by omega), if_pos (by omega), if_pos (by omega), if_pos (by omega), t0, t1, t2, t3]
    congr 1
    have e : (unl ((b0 :: b1 :: b2 :: b3 :: r).take 4) : Int) = ((b0.toNat + 256 * (b1.toNat + 256 * (b2.toNat + 256 * b3.toNat)) : Nat) : Int) := by simp [unl]
    rw [e]
    omega
  | [] => rw [← L_length, hL] at hs; simp at hs
  | [_] => rw [← L_length, hL] at hs; simp at hs
  | [_, _] => rw [← L_length, hL] at hs; simp at hs
  | [_, _, _] => rw [← L_length, hL] at hs; simp at hs
theorem runframe_f (s : ByteArray) (p : Nat) (hp : p ≤ s.size) (hs : s.size ≤ 9223372036854775806) : Ev (fun k => skylarkref01_Unframe.f k s (p : Int)) (unfr (p : Int) ((L s).drop p)) := by
  obtain ⟨b, hb⟩ : ∃ b, s.extract p s.size = b := ⟨_, rfl⟩
  have hLb : L b = (L s).drop p := by rw [← hb, L_extract, List.take_of_length_le (by rw [L_length]; omega)]
  have hsz : b.size = ((L s).drop p).length := by rw [← L_length, hLb]
  have hle : b.size ≤ s.size := by rw [hsz, List.length_drop, L_length]; omega
  obtain ⟨t, ht⟩ : ∃ t, (L s).drop p = t := ⟨_, rfl⟩
  rw [ht] at hLb hsz
  rw [ht]
  by_cases h1 : t.length < 4
  · refine Ev.const fun k => ?_
    simp only [skylarkref01_Unframe.f, skylarkref01_Unframe.r, unfr]
    rw [if_neg (by omega), if_neg (by omega), Int.toNat_natCast, hb, if_pos (by omega), if_pos h1]
  · have h2 := runfour_f b (by omega)
    rw [hLb] at h2
    have hu := unl_lt (t.take 4)
    have hl4 : (t.take 4).length = 4 := by rw [List.length_take]; omega
    rw [hl4] at hu
    obtain ⟨u, hue⟩ : ∃ u, unl (t.take 4) = u := ⟨_, rfl⟩
    rw [hue] at h2 hu
    have start : ∀ k, skylarkref01_Unframe.f k s (p : Int) = skylarkref01_Unframe.t k (p : Int) (u : Int) b := by
      intro k
      simp only [skylarkref01_Unframe.f]
      rw [if_neg (by omega), if_neg (by omega), Int.toNat_natCast, hb, if_neg (by omega), h2]
      rfl
    unfold unfr
    rw [hue, if_neg h1]
    by_cases h3 : u > 65536
    · rw [if_pos h3]
      refine ⟨0, fun k hk => ?_⟩
      dsimp only
      rw [start k]
      simp only [skylarkref01_Unframe.t, skylarkref01_Unframe.r]
      rw [if_neg (by omega), if_pos (by omega)]
    · rw [if_neg h3]
      by_cases h4 : t.length < 4 + u + 4
      · rw [if_pos h4]
        refine ⟨0, fun k hk => ?_⟩
        dsimp only
        rw [start k]
        simp only [skylarkref01_Unframe.t, skylarkref01_Unframe.r]
        rw [if_neg (by omega), if_neg (by omega), if_pos (by omega)]
      · rw [if_neg h4]
        have en : (4 + (u : Int)).toNat = 4 + u := by omega
        have hLs : L (b.extract 0 (4 + u)) = t.take (4 + u) := by rw [L_extract, hLb, List.drop_zero]
        have hLd : L (b.extract (4 + u) b.size) = t.drop (4 + u) := by rw [L_extract, hLb, List.take_of_length_le (by omega)]
        have hsd : 4 ≤ (b.extract (4 + u) b.size).size := by rw [← L_length, hLd, List.length_drop]; omega
        obtain ⟨K2, h5⟩ := rsum_f (b.extract 0 (4 + u)) (by rw [← L_length, hLs, List.length_take]; omega)
        have h6 := runfour_f (b.extract (4 + u) b.size) hsd
        rw [hLs] at h5
        rw [hLd] at h6
        have hex : b.extract 4 (4 + u) = ⟨((t.drop 4).take u).toArray⟩ := by
          apply of_L
          rw [L_extract, hLb, List.drop_take, Nat.add_sub_cancel_left]
        refine ⟨K2, fun k hk => ?_⟩
        have h5 := h5 k (by omega)
        dsimp only at h5 ⊢
        rw [start k]
        have hbs : p + (4 + u + 4) ≤ s.size := by
          have := congrArg List.length ht
          rw [List.length_drop, L_length] at this
          omega
        simp only [skylarkref01_Unframe.t, skylarkref01_Unframe.r]
        rw [if_neg (by omega), if_neg (by omega), if_neg (by omega), en, h5]
        simp only [Option.bind_some]
        rw [h6]
        simp only [Option.bind_some]
        rw [hex, wrap64_id (n := (p : Int) + (4 + (u : Int))) (by omega) (by omega), wrap64_id (n := (p : Int) + (4 + (u : Int)) + 4) (by omega) (by omega)]
        by_cases h7 : sum (t.take (4 + u)) = unl ((t.drop (4 + u)).take 4)
        · rw [if_pos h7, if_pos (by omega)]
          congr 3
          omega
        · rw [if_neg h7, if_neg (by omega)]
/-- At any place, both the same. -/
theorem both_unframe (s : ByteArray) (hs : s.size ≤ 9223372036854775806) (a : Int) : ∃ r, Ev (fun k => code_Unframe.f k s a) r ∧ Ev (fun k => skylarkref01_Unframe.f k s a) r := by
  by_cases h0 : a < 0
  · refine ⟨_, Ev.const (r := (⟨#[]⟩, 0, 0, 1)) fun k => ?_, Ev.const fun k => ?_⟩
    · simp only [code_Unframe.f, code_Unframe.r]
      rw [if_pos h0]
    · simp only [skylarkref01_Unframe.f, skylarkref01_Unframe.r]
      rw [if_pos h0]
  · by_cases h1 : a > (s.size : Int)
    · refine ⟨_, Ev.const (r := (⟨#[]⟩, 0, 0, 1)) fun k => ?_, Ev.const fun k => ?_⟩
      · simp only [code_Unframe.f, code_Unframe.r]
        rw [if_neg h0, if_pos h1]
      · simp only [skylarkref01_Unframe.f, skylarkref01_Unframe.r]
        rw [if_neg h0, if_pos h1]
    · obtain ⟨p, rfl⟩ : ∃ p : Nat, a = (p : Int) := ⟨a.toNat, by omega⟩
      exact ⟨_, unframe_f s p (by omega) hs, runframe_f s p (by omega) hs⟩
theorem unfr_end (p : Int) (t : List UInt8) (h : (unfr p t).2.2.2 = 0) : ∃ (b : ByteArray) (n : Nat), unfr p t = (b, p + ((n + 8 : Nat) : Int), 0, 0) ∧ n + 8 ≤ t.length := by
  unfold unfr at h ⊢
  split at h
  · cases h
  · rename_i h1
    split at h
    · cases h
    · rename_i h2
      split at h
      · cases h
      · rename_i h3
        split at h
        · rename_i h4
          rw [if_neg h1, if_neg h2, if_neg h3, if_pos h4]
          exact ⟨_, _, rfl, by omega⟩
        · cases h
theorem both_frames (s : ByteArray) (hs : s.size ≤ 1048576) : ∀ (n p : Nat) (acc : List ByteArray), s.size - p ≤ n → p ≤ s.size → acc.length ≤ p →
    ∃ r : List ByteArray × Int, r.1.length ≤ 1048576 ∧ Ev (fun k => code_Frames.l0 k s acc (p : Int)) r ∧ Ev (fun k => skylarkref01_Frames.l0 k s acc (p : Int)) r := by
  intro n
  induction n with
  | zero =>
    intro p acc hn hp ha
    obtain ⟨K1, h1⟩ := unframe_f s p hp (by omega)
    obtain ⟨K2, h2⟩ := runframe_f s p hp (by omega)
    have hd : (L s).drop p = [] := List.drop_of_length_le (by rw [L_length]; omega)
    rw [hd] at h1 h2
    have e : unfr (p : Int) [] = (⟨#[]⟩, 0, (p : Int), 11) := rfl
    rw [e] at h1 h2
    refine ⟨(acc, (p : Int)), by simp only; omega, ⟨K1 + 1, fun k hk => ?_⟩, ⟨K2 + 1, fun k hk => ?_⟩⟩
    · obtain ⟨k, rfl⟩ : ∃ j, k = j + 1 := ⟨k - 1, by omega⟩
      have h1 := h1 k (by omega)
      dsimp only at h1
      simp only [code_Frames.l0]
      rw [h1]
      simp only [Option.bind_some]
      rw [if_pos (by simp)]
    · obtain ⟨k, rfl⟩ : ∃ j, k = j + 1 := ⟨k - 1, by omega⟩
      have h2 := h2 k (by omega)
      dsimp only at h2
      simp only [skylarkref01_Frames.l0]
      rw [h2]
      simp only [Option.bind_some]
      rw [if_neg (by decide)]
  | succ n ih =>
    intro p acc hn hp ha
    obtain ⟨K1, h1⟩ := unframe_f s p hp (by omega)
    obtain ⟨K2, h2⟩ := runframe_f s p hp (by omega)
    have hlen : ((L s).drop p).length = s.size - p := by rw [List.length_drop, L_length]
    by_cases hc : (unfr (p : Int) ((L s).drop p)).2.2.2 = 0
    · obtain ⟨b, m, hu, hm⟩ := unfr_end _ _ hc
      rw [hu] at h1 h2
      obtain ⟨r, hr, ⟨K3, h3⟩, ⟨K4, h4⟩⟩ := ih (p + (m + 8)) (acc ++ [b]) (by omega) (by omega) (by simp; omega)
      have ep : (p : Int) + ((m + 8 : Nat) : Int) = ((p + (m + 8) : Nat) : Int) := by omega
      refine ⟨r, hr, ⟨max K1 K3 + 1, fun k hk => ?_⟩, ⟨max K2 K4 + 1, fun k hk => ?_⟩⟩
      · obtain ⟨k, rfl⟩ : ∃ j, k = j + 1 := ⟨k - 1, by omega⟩
        have h1 := h1 k (by omega)
        have h3 := h3 k (by omega)
        dsimp only at h1 h3
        simp only [code_Frames.l0]
        rw [h1]
        simp only [Option.bind_some]
        rw [if_neg (by decide), if_pos (by omega), ep]
        exact h3
      · obtain ⟨k, rfl⟩ : ∃ j, k = j + 1 := ⟨k - 1, by omega⟩
        have h2 := h2 k (by omega)
        have h4 := h4 k (by omega)
        dsimp only at h2 h4
        simp only [skylarkref01_Frames.l0]
        rw [h2]
        simp only [Option.bind_some]
        rw [if_pos trivial, if_pos (by omega), ep]
        exact h4
    · obtain ⟨⟨b, e, a, c⟩, hu⟩ : ∃ q, unfr (p : Int) ((L s).drop p) = q := ⟨_, rfl⟩
      rw [hu] at h1 h2 hc
      dsimp only at hc
      have hcb : (c == 0) = false := by simpa using hc
      refine ⟨(acc, (p : Int)), by simp only; omega, ⟨K1 + 1, fun k hk => ?_⟩, ⟨K2 + 1, fun k hk => ?_⟩⟩
      · obtain ⟨k, rfl⟩ : ∃ j, k = j + 1 := ⟨k - 1, by omega⟩
        have h1 := h1 k (by omega)
        dsimp only at h1
        simp only [code_Frames.l0]
        rw [h1]
        simp only [Option.bind_some]
        rw [if_pos (by rw [hcb]; simp)]
      · obtain ⟨k, rfl⟩ : ∃ j, k = j + 1 := ⟨k - 1, by omega⟩
        have h2 := h2 k (by omega)
        dsimp only at h2
        simp only [skylarkref01_Frames.l0]
        rw [h2]
        simp only [Option.bind_some]
        rw [if_neg hc]

theorem CodeFramesUpto (s : ByteArray) (a : Int) (hs : s.size ≤ 1048576) : ∃ k, skylarklaw01_CodeFrames.f k s a = some true := by
  obtain ⟨K1, h1⟩ := frame_f s
  obtain ⟨K2, h2⟩ := rframe_f s
  obtain ⟨⟨b, e, at_, c⟩, ⟨K3, h3⟩, ⟨K4, h4⟩⟩ := both_unframe s (by omega) a
  obtain ⟨⟨l, q⟩, hl, ⟨K5, h5⟩, ⟨K6, h6⟩⟩ := both_frames s hs s.size 0 [] (by omega) (by omega) (by simp)
  obtain ⟨K7, h7⟩ := sum_f s (by omega)
  obtain ⟨K8, h8⟩ := rsum_f s (by omega)
  dsimp only at hl
  obtain ⟨K9, h9⟩ := texts_f l (by omega)
  obtain ⟨K10, h10⟩ := works_f
  generalize (if s.size > 65536 then ((⟨#[]⟩ : ByteArray), (2 : Int)) else (strOfNums (I (frame (L s))), 0)) = fr at h1 h2
  obtain ⟨x, y⟩ := fr
  obtain ⟨k, hk⟩ : ∃ k, K1 ≤ k ∧ K2 ≤ k ∧ K3 ≤ k ∧ K4 ≤ k ∧ K5 ≤ k ∧ K6 ≤ k ∧ K7 ≤ k ∧ K8 ≤ k ∧ K9 ≤ k ∧ K10 ≤ k := ⟨K1 + K2 + K3 + K4 + K5 + K6 + K7 + K8 + K9 + K10, by omega⟩
  have h1 := h1 k (by omega)
  have h2 := h2 k (by omega)
  have h3 := h3 k (by omega)
  have h4 := h4 k (by omega)
  have h5 := h5 k (by omega)
  have h6 := h6 k (by omega)
  have h7 := h7 k (by omega)
  have h8 := h8 k (by omega)
  have h9 := h9 k (by omega)
  have h10 := h10 k (by omega)
  dsimp only at h1 h2 h3 h4 h5 h6 h7 h8 h9 h10
  have h5 : code_Frames.f k s = some (l, q) := h5
  have h6 : skylarkref01_Frames.f k s = some (l, q) := h6
  refine ⟨k, ?_⟩
  unfold skylarklaw01_CodeFrames.f
  rw [h1, h2, h3, h4, h5, h6, h7, h8]
  simp only [Option.bind_some, if_true, beq_self_eq_true, Bool.and_self]
  rw [h9]
  simp only [Option.bind_some, if_true]
  rw [h10]
  rfl
end Go.Proofs.Ytkmbbipempbilaa.Fn
