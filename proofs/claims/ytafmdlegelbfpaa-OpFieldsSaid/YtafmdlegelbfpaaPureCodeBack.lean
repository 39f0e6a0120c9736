-- written by a program of ours (a template of wip/pure, filled for this seat)
import Derived.Test.YtafmdlegelbfpaaPAllx0
import Derived.Test.YtafmdlegelbfpaaLists
/-! CodeBack: what it computes is true. -/
namespace Go.Proofs.Ytafmdlegelbfpaa.Pure
set_option linter.unusedVariables false
set_option linter.unusedSimpArgs false
open Go Go.RowKit Go.Proofs.Ytafmdlegelbfpaa.PAll Go.Proofs.YtafmdlegelbfpaaW.PrintWords Go.Proofs.YtafmdlegelbfpaaW.PrintLast Go.Proofs.Ytafmdlegelbfpaa.Bytes Go.Proofs.Ytafmdlegelbfpaa.Fn

theorem one_le_enc {x : S110} : ∀ {l : List S110}, x ∈ l → (one x).length ≤ (enc l).length
  | y :: l, h => by
    rw [enc_cons, List.length_append]
    rcases List.mem_cons.1 h with rfl | h
    · omega
    · have := one_le_enc h; omega
theorem text_le_one {x : S110} (h : x.f0 = true) : x.f2.size ≤ (one x).length := by
  unfold one
  rw [if_pos h]
  simp [L_length]
  omega
theorem fit_of {l : List S110} (hw : Wide l) (h : (encode l).2 = 0) : fit l := by
  obtain ⟨h1, h2, h3, _⟩ := encode_ok h
  intro x hx
  refine ⟨(hw x hx).1, List.all_eq_true.1 h2 x hx, fun h0 => ?_⟩
  have a := text_le_one h0
  have b := one_le_enc hx
  omega
theorem fit_append {a b : List S110} (ha : fit a) (hb : fit b) : fit (a ++ b) := by
  intro x hx
  rcases List.mem_append.1 hx with h | h
  · exact ha x h
  · exact hb x h
theorem encode_fit {l : List S110} (hf : fit l) (hl : l.length ≤ 4096) (he : (enc l).length ≤ 262144) : encode l = (strOfNums (I (enc l)), 0) := by
  unfold encode
  rw [if_neg (by omega), if_neg (by rw [List.all_eq_true.2 (fun x hx => (hf x hx).2.1)]; decide), if_neg (by omega)]
theorem decode_enc {l : List S110} (hf : fit l) (hl : l.length ≤ 4096) (he : (enc l).length ≤ 262144) (s : ByteArray) (hs : L s = enc l) : Fn.decode s = (l, 0, 0) := by
  unfold Fn.decode
  rw [hs, if_neg (by omega), dec_enc _ l [] _ hf (Nat.le_refl _) (by simpa using hl)]
  rfl
theorem decode_back {b : ByteArray} {x : List S110} {a : Int} (h : Fn.decode b = (x, a, 0)) : a = 0 ∧ L b = enc x ∧ fit x ∧ x.length ≤ 4096 ∧ (enc x).length ≤ 262144 := by
  unfold Fn.decode at h
  split at h
  · cases h
  · rename_i hb
    obtain ⟨h1, m, h2, h3, h4, h5⟩ := dec_back _ _ _ _ _ _ (Nat.le_refl _) (by simp) h
    rw [List.nil_append] at h2
    subst h2
    exact ⟨h1, h3, h4, h5, by rw [← h3]; omega⟩
theorem decode_err {b : ByteArray} (h : (Fn.decode b).2.2 ≠ 0) : (Fn.decode b).1 = [] := by
  unfold Fn.decode at h ⊢
  split
  · rfl
  · rename_i hb
    rw [if_neg hb] at h
    exact dec_err _ _ _ _ (Nat.le_refl _) h
theorem decode_at {b : ByteArray} (h : (Fn.decode b).2.2 = 0) : (Fn.decode b).2.1 = 0 := by
  unfold Fn.decode at h ⊢
  split
  · rfl
  · rename_i hb
    rw [if_neg hb] at h
    exact dec_at _ _ _ _ (Nat.le_refl _) h
theorem wide_of_fit {l : List S110} (hf : fit l) (he : (enc l).length ≤ 262144) : ∀ x ∈ l, x.f2.size ≤ 140737488351232 := by
  intro x hx
  obtain ⟨_, h2, h3⟩ := hf x hx
  by_cases h0 : x.f0 = true
  · have := h3 h0; omega
  · simp only [ok, h0] at h2
    have : L x.f2 = [] := by simpa using h2
    rw [← L_length, this]
    simp
end Go.Proofs.Ytafmdlegelbfpaa.Pure
