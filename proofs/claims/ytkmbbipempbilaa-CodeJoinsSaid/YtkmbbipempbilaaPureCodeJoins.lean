import Derived.Test.YtkmbbipempbilaaPAllx12
import Derived.Test.YtkmbbipempbilaaPureCodeBack
/-! CodeJoins: what it computes is true. -/
namespace Go.Proofs.Ytkmbbipempbilaa.Pure
set_option linter.unusedVariables false
set_option linter.unusedSimpArgs false
open Go Go.RowKit Go.Proofs.Ytkmbbipempbilaa.PAll Go.Proofs.YtkmbbipempbilaaW.PrintWords Go.Proofs.YtkmbbipempbilaaW.PrintLast Go.Proofs.Ytkmbbipempbilaa.Bytes Go.Proofs.Ytkmbbipempbilaa.Fn

theorem joins_t (a b : List S35) (s t : ByteArray) : Ev (fun k => skylarklaw01_CodeJoins.j0 k a b s t true) true := by
  refine ⟨1, fun k hk => ?_⟩
  obtain ⟨k, rfl⟩ : ∃ j, k = j + 1 := ⟨k - 1, by omega⟩
  simp only [skylarklaw01_CodeJoins.j0]
  rfl
theorem joins_f (a b : List S35) (ha : fit a) (hb : fit b) (hl : a.length + b.length ≤ 4096) (hn : (enc a).length + (enc b).length ≤ 262144) :
    Ev (fun k => skylarklaw01_CodeJoins.j0 k a b (strOfNums (I (enc a))) (strOfNums (I (enc b))) false) true := by
  have hf := fit_append ha hb
  have hl' : (a ++ b).length ≤ 4096 := by rw [List.length_append]; exact hl
  have hn' : (enc (a ++ b)).length ≤ 262144 := by rw [enc_append, List.length_append]; exact hn
  have hL : L (strOfNums (I (enc a)) ++ strOfNums (I (enc b))) = enc (a ++ b) := by rw [L_append, strOf_I, strOf_I, enc_append]
  obtain ⟨K1, h1⟩ := encode_f (a ++ b) (wide_of_fit hf hn')
  obtain ⟨K2, h2⟩ := decode_f (strOfNums (I (enc a)) ++ strOfNums (I (enc b)))
  obtain ⟨K3, h3⟩ := same_f (a ++ b) (by omega)
  dsimp only at h1 h2 h3
  refine ⟨max K1 (max K2 K3) + 1, fun k hk => ?_⟩
  obtain ⟨k, rfl⟩ : ∃ j, k = j + 1 := ⟨k - 1, by omega⟩
  simp only [skylarklaw01_CodeJoins.j0, Bool.false_eq_true, if_false, Option.bind_some, List.nil_append, List.length_nil]
  rw [if_pos (by omega), if_pos (by omega), h1 k (by omega), encode_fit hf hl' hn']
  simp only [Option.bind_some]
  rw [if_pos (by rw [← L_length, ← L_length, strOf_I, strOf_I]; omega), h2 k (by omega), decode_enc hf hl' hn' _ hL]
  simp only [Option.bind_some, if_true]
  rw [if_pos (by rw [toList_L, toList_L, hL, strOf_I]), if_pos (by decide), h3 k (by omega)]
  rfl

theorem CodeJoins (a b : List S35) (ha : Wide a) (hb : Wide b) (hla : a.length ≤ 4611686018427387903) (hlb : b.length ≤ 4611686018427387903) : ∃ k, skylarklaw01_CodeJoins.f k a b = some true := by
  obtain ⟨K1, h1⟩ := works_f
  obtain ⟨K2, h2⟩ := encode_f a (fun x hx => (ha x hx).2)
  obtain ⟨K3, h3⟩ := encode_f b (fun x hx => (hb x hx).2)
  obtain ⟨K4, h4⟩ := joins_t a b (encode a).1 (encode b).1
  dsimp only at h1 h2 h3 h4
  by_cases hall : (encode a).2 = 0 ∧ (encode b).2 = 0 ∧ a.length + b.length ≤ 4096 ∧ (enc a).length + (enc b).length ≤ 262144
  · obtain ⟨e1, e2, e3, e4⟩ := hall
    obtain ⟨_, _, _, q1⟩ := encode_ok e1
    obtain ⟨_, _, _, q2⟩ := encode_ok e2
    obtain ⟨K5, h5⟩ := joins_f a b (fit_of ha e1) (fit_of hb e2) e3 e4
    dsimp only at h5
    refine ⟨max K1 (max K2 (max K3 K5)), ?_⟩
    simp only [skylarklaw01_CodeJoins.f]
    rw [h1 _ (by omega)]
    simp only [Option.bind_some, if_true]
    rw [h2 _ (by omega), h3 _ (by omega)]
    simp only [Option.bind_some]
    have hs1 : (strOfNums (I (enc a))).size = (enc a).length := by rw [← L_length, strOf_I]
    have hs2 : (strOfNums (I (enc b))).size = (enc b).length := by rw [← L_length, strOf_I]
    rw [if_pos e1, if_pos e2, q1, q2, hs1, hs2, wrap64_id (by omega) (by omega), wrap64_id (by omega) (by omega), if_neg (by omega), decide_eq_false (by omega)]
    exact h5 _ (by omega)
  · refine ⟨max K1 (max K2 (max K3 K4)), ?_⟩
    simp only [skylarklaw01_CodeJoins.f]
    rw [h1 _ (by omega)]
    simp only [Option.bind_some, if_true]
    rw [h2 _ (by omega), h3 _ (by omega)]
    simp only [Option.bind_some]
    by_cases e1 : (encode a).2 = 0
    · by_cases e2 : (encode b).2 = 0
      · obtain ⟨_, _, z1, q1⟩ := encode_ok e1
        obtain ⟨_, _, z2, q2⟩ := encode_ok e2
        rw [if_pos e1, if_pos e2, wrap64_id (by omega) (by omega)]
        by_cases e3 : (a.length : Int) + (b.length : Int) > 4096
        · rw [if_pos e3]
          exact h4 _ (by omega)
        · have hs1 : (encode a).1.size = (enc a).length := by rw [q1, ← L_length, strOf_I]
          have hs2 : (encode b).1.size = (enc b).length := by rw [q2, ← L_length, strOf_I]
          rw [if_neg e3, hs1, hs2, wrap64_id (by omega) (by omega), decide_eq_true (by omega)]
          exact h4 _ (by omega)
      · rw [if_pos e1, if_neg e2]
        exact h4 _ (by omega)
    · rw [if_neg e1]
      exact h4 _ (by omega)

theorem joins_walk (A0 : Option Addr) (len0 cap0 : Nat) (rows0 : List (List Value)) (A1 : Option Addr) (len1 cap1 : Nat) (rows1 : List (List Value)) (w : World)
    (w0 : Open.Rows w [.bool, .int .i64, .str] A0 len0 cap0 rows0) (y0 : len0 * Try.prog.bytesOf 35 ≤ 140737488351232) (w1 : Open.Rows w [.bool, .int .i64, .str] A1 len1 cap1 rows1) (y1 : len1 * Try.prog.bytesOf 35 ≤ 140737488351232) :
    Calls Try.prog 5 #[.slice A0 len0 cap0, .slice A1 len1 cap1] w fun e w' => e = .returned (.bool true) ∧ Below w.heap.size w w' := by
  obtain ⟨xs, rfl, hC, hc, hw⟩ := lists_of w0
  obtain ⟨ys, rfl, hD, hd, hv⟩ := lists_of w1
  have hb : Try.prog.bytesOf 35 = 32 := by kernel_rfl
  rw [hb] at y0 y1
  obtain ⟨k, hk⟩ := CodeJoins xs ys hw hv (by omega) (by omega)
  exact skylarklaw01_CodeJoins.calls k A0 cap0 xs A1 cap1 ys true w hC hc hD hd hk
end Go.Proofs.Ytkmbbipempbilaa.Pure
