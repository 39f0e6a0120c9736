import Derived.Test.YtkmbbipempbilaaPAllx11
import Derived.Test.YtkmbbipempbilaaLists
/-! CodeBack: what it computes is true. -/
namespace Go.Proofs.Ytkmbbipempbilaa.Pure
set_option linter.unusedVariables false
set_option linter.unusedSimpArgs false
open Go Go.RowKit Go.Proofs.Ytkmbbipempbilaa.PAll Go.Proofs.YtkmbbipempbilaaW.PrintWords Go.Proofs.YtkmbbipempbilaaW.PrintLast Go.Proofs.Ytkmbbipempbilaa.Bytes Go.Proofs.Ytkmbbipempbilaa.Fn

theorem one_le_enc {x : S35} : ∀ {l : List S35}, x ∈ l → (one x).length ≤ (enc l).length
  | y :: l, h => by
    rw [enc_cons, List.length_append]
    rcases List.mem_cons.1 h with rfl | h
    · omega
    · have := one_le_enc h; omega
theorem text_le_one {x : S35} (h : x.f0 = true) : x.f2.size ≤ (one x).length := by
  unfold one
  rw [if_pos h]
  simp [L_length]
  omega
theorem fit_of {l : List S35} (hw : Wide l) (h : (encode l).2 = 0) : fit l := by
  obtain ⟨h1, h2, h3, _⟩ := encode_ok h
  intro x hx
  refine ⟨(hw x hx).1, List.all_eq_true.1 h2 x hx, fun h0 => ?_⟩
  have a := text_le_one h0
  have b := one_le_enc hx
  omega
theorem fit_append {a b : List S35} (ha : fit a) (hb : fit b) : fit (a ++ b) := by
  intro x hx
  rcases List.mem_append.1 hx with h | h
  · exact ha x h
  · exact hb x h
theorem encode_fit {l : List S35} (hf : fit l) (hl : l.length ≤ 4096) (he : (enc l).length ≤ 262144) : encode l = (strOfNums (I (enc l)), 0) := by
  unfold encode
  rw [if_neg (by omega), if_neg (by rw [List.all_eq_true.2 (fun x hx => (hf x hx).2.1)]; decide), if_neg (by omega)]
theorem decode_enc {l : List S35} (hf : fit l) (hl : l.length ≤ 4096) (he : (enc l).length ≤ 262144) (s : ByteArray) (hs : L s = enc l) : Fn.decode s = (l, 0, 0) := by
  unfold Fn.decode
  rw [hs, if_neg (by omega), dec_enc _ l [] _ hf (Nat.le_refl _) (by simpa using hl)]
  rfl
theorem decode_back {b : ByteArray} {x : List S35} {a : Int} (h : Fn.decode b = (x, a, 0)) : a = 0 ∧ L b = enc x ∧ fit x ∧ x.length ≤ 4096 ∧ (enc x).length ≤ 262144 := by
  unfold Fn.decode at h
  split at h
  · cases h
  · rename_i hb
    obtain ⟨h1, m, h2, h3, h4, h5⟩ := dec_back _ _ _ _ _ _ (Nat.le_refl _) (by simp) h
    rw [List.nil_append] at h2
    subst h2
    exact ⟨h1, h3, h4, h5, by rw [← h3]; omega⟩
theorem decode_err {b : ByteArray} (h : (Fn.decode b).2.2 ≠ 0) : (Fn.decode b).1 = [] := by
  unfold Fn.decode at h ⊢
  split
  · rfl
  · rename_i hb
    rw [if_neg hb] at h
    exact dec_err _ _ _ _ (Nat.le_refl _) h
theorem decode_at {b : ByteArray} (h : (Fn.decode b).2.2 = 0) : (Fn.decode b).2.1 = 0 := by
  unfold Fn.decode at h ⊢
  split
  · rfl
  · rename_i hb
    rw [if_neg hb] at h
    exact dec_at _ _ _ _ (Nat.le_refl _) h
theorem wide_of_fit {l : List S35} (hf : fit l) (he : (enc l).length ≤ 262144) : ∀ x ∈ l, x.f2.size ≤ 140737488351232 := by
  intro x hx
  obtain ⟨_, h2, h3⟩ := hf x hx
  by_cases h0 : x.f0 = true
  · have := h3 h0; omega
  · simp only [ok, h0] at h2
    have : L x.f2 = [] := by simpa using h2
    rw [← L_length, this]
    simp

theorem back_j0 (b : ByteArray) : Ev (fun k => skylarklaw01_CodeBack.j0 k b) true := by
  obtain ⟨K1, h1⟩ := decode_f b
  dsimp only at h1
  by_cases he : (Fn.decode b).2.2 = 0
  · have ha := decode_at he
    obtain ⟨x, hx⟩ : ∃ x, Fn.decode b = (x, 0, 0) := ⟨(Fn.decode b).1, Prod.ext rfl (Prod.ext ha he)⟩
    obtain ⟨_, hb, hf, hl, hn⟩ := decode_back hx
    obtain ⟨K2, h2⟩ := encode_f x (wide_of_fit hf hn)
    dsimp only at h2
    refine ⟨max K1 K2 + 1, fun k hk => ?_⟩
    obtain ⟨k, rfl⟩ : ∃ j, k = j + 1 := ⟨k - 1, by omega⟩
    simp only [skylarklaw01_CodeBack.j0]
    rw [h1 k (by omega), hx]
    simp only [Option.bind_some]
    rw [if_neg (by decide), h2 k (by omega), encode_fit hf hl hn]
    simp only [Option.bind_some, if_true]
    congr 1
    rw [beq_iff_eq, toList_L, toList_L, strOf_I, hb]
  · refine ⟨K1 + 1, fun k hk => ?_⟩
    obtain ⟨k, rfl⟩ : ∃ j, k = j + 1 := ⟨k - 1, by omega⟩
    simp only [skylarklaw01_CodeBack.j0]
    rw [h1 k (by omega)]
    simp only [Option.bind_some]
    have hne : ((Fn.decode b).2.2 == 0) = false := by simpa using he
    rw [hne]
    rw [if_pos (by simp), decode_err he]
    rfl

theorem CodeBack (l : List S35) (hw : Wide l) (hl : l.length ≤ 9223372036854775806) (b : ByteArray) : ∃ k, skylarklaw01_CodeBack.f k l b = some true := by
  obtain ⟨K1, h1⟩ := works_f
  obtain ⟨K2, h2⟩ := encode_f l (fun x hx => (hw x hx).2)
  obtain ⟨K3, h3⟩ := back_j0 b
  obtain ⟨K4, h4⟩ := decode_f (encode l).1
  obtain ⟨K5, h5⟩ := same_f l hl
  dsimp only at h1 h2 h3 h4 h5
  refine ⟨max K1 (max K2 (max K3 (max K4 K5))), ?_⟩
  simp only [skylarklaw01_CodeBack.f]
  rw [h1 _ (by omega)]
  simp only [Option.bind_some, if_true]
  rw [h2 _ (by omega)]
  simp only [Option.bind_some]
  by_cases he : (encode l).2 = 0
  · obtain ⟨hl1, _, hl3, hl4⟩ := encode_ok he
    rw [if_pos he, h4 _ (by omega), hl4, decode_enc (fit_of hw he) hl1 hl3 _ (strOf_I _)]
    simp only [Option.bind_some]
    rw [if_neg (by decide), h5 _ (by omega)]
    simp only [Option.bind_some, if_true]
    exact h3 _ (by omega)
  · rw [if_neg he, encode_err he, if_pos (by rw [toList_L]; rfl)]
    exact h3 _ (by omega)

theorem back_walk (A0 : Option Addr) (len0 cap0 : Nat) (rows0 : List (List Value)) (a1 : ByteArray) (w : World) (w0 : Open.Rows w [.bool, .int .i64, .str] A0 len0 cap0 rows0) (y0 : len0 * Try.prog.bytesOf 35 ≤ 140737488351232) (w1 : a1.size ≤ 140737488351232) :
    Calls Try.prog 4 #[.slice A0 len0 cap0, .string a1] w fun e w' => e = .returned (.bool true) ∧ Below w.heap.size w w' := by
  obtain ⟨xs, rfl, hC, hc, hw⟩ := lists_of w0
  have hb : Try.prog.bytesOf 35 = 32 := by kernel_rfl
  rw [hb] at y0
  obtain ⟨k, hk⟩ := CodeBack xs hw (by omega) a1
  exact skylarklaw01_CodeBack.calls k A0 cap0 xs a1 true w hC hc hk
end Go.Proofs.Ytkmbbipempbilaa.Pure
