import Derived.Test.YtcpenjbgiecgnaaBkL
import Derived.Test.YtcpenjbgiecgnaaKC
import Derived.Test.YtcpenjbgiecgnaaHDecodeReply
namespace Go.Proofs.Ytcpenjbgiecgnaa
open Go Go.RowKit
open Go.Proofs.YtcpenjbgiecgnaaW.PrintWords Go.Proofs.YtcpenjbgiecgnaaW.PrintLast
open Go.Proofs.Ytcpenjbgiecgnaa.PAll (S59 S62 k59 k62 k62_mk k76 k59_openM repOk repF resF fN fT)
open Go.Proofs.Ytcpenjbgiecgnaa.Bytes (I)
set_option linter.unusedVariables false
set_option linter.unusedSimpArgs false

/-! Replies' texts, and lists of fields: what EncodeReply, DecodeReply, code.Encode, code.Decode come to. -/
def FC (x : S62) : List Value := [.bool x.f0, .int .i64 x.f1, .string x.f2]
theorem one_FC : ∀ x, ∀ u ∈ FC x, u.oneCell' = true := by
  intro x u hu
  simp [FC] at hu
  rcases hu with rfl | rfl | rfl <;> rfl
theorem row_C {w : World} {A : Option Addr} {n c : Nat} {l : List S62} (h : Row w 62 3 FC (.slice A n c) l) (hl : l.length ≤ 4096) : n = l.length ∧ Kd.C k62 w A l.length l ∧ l.length ≤ c := by
  obtain ⟨A', c', hv⟩ := h.shape
  simp only [Value.slice.injEq] at hv
  obtain ⟨rfl, rfl, rfl⟩ := hv
  rcases Nat.eq_zero_or_pos l.length with h0 | h0
  · exact ⟨rfl, ⟨rfl, by omega, fun h => by omega⟩, by omega⟩
  · obtain ⟨g, c', hv, hg, hc⟩ := h.form h0
    simp only [Value.slice.injEq, true_and] at hv
    obtain ⟨rfl, rfl⟩ := hv
    refine ⟨rfl, ⟨rfl, by omega, fun _ => ⟨_, rfl, fun j p hj => ?_⟩⟩, hc⟩
    obtain ⟨hjl, hp⟩ := List.getElem?_eq_some_iff.1 hj
    refine ⟨FC p, rfl, k62_mk w p, fun i u hu => ?_⟩
    have hi : i < 3 := (List.getElem?_eq_some_iff.1 hu).1
    have := h.cell (fun _ => rfl) j i hjl hi
    rw [addr0]
    rw [show j * k62.sz + i = j * 3 + i from rfl, this, hp]
    exact hu
theorem fit_size {l : List S62} (hf : Fn.fit l) : ∀ x ∈ l, x.f2.size ≤ 140737488351232 := by
  intro x hx
  obtain ⟨_, h2, h3⟩ := hf x hx
  cases h0 : x.f0 with
  | true => have := h3 h0; omega
  | false =>
    unfold Fn.ok at h2
    rw [h0, if_neg (by decide)] at h2
    have := List.isEmpty_iff.1 h2
    rw [Bytes.size_L, this]
    exact Nat.zero_le _
theorem code_enc (v : Value) (l : List S62) (w : World) (h : Row w 62 3 FC v l) (hf : Fn.fit l) (hl : l.length ≤ 4096) (he : (Fn.enc l).length ≤ 262144) :
    Calls Try.prog 20 #[v] w fun e w' => e = .returned (.tuple #[.string (strOfNums (I (Fn.enc l))), .int .i64 0]) ∧ Below w.heap.size w w' := by
  obtain ⟨A, c, rfl⟩ := h.shape
  obtain ⟨_, h1, h2⟩ := row_C h hl
  obtain ⟨k, hk⟩ := Fn.encode_f l (fit_size hf)
  refine PAll.code_Encode.calls k A c l _ _ w h1 h2 ?_
  have := hk k (Nat.le_refl _)
  rw [Pure.encode_fit hf hl he] at this
  exact this
theorem reps_flat {ps : List S62} : ∀ {cs : List Value}, cs.length = ps.length * 3 → (∀ j p, ps[j]? = some p → (cs.drop (j * 3)).take 3 = FC p) → cs = ps.flatMap FC := by
  induction ps with
  | nil => exact fun h1 _ => List.eq_nil_of_length_eq_zero (by simpa using h1)
  | cons x l ih =>
    intro cs h1 h2
    have e0 := h2 0 x rfl
    rw [Nat.zero_mul, List.drop_zero] at e0
    have e1 := ih (cs := cs.drop 3) (by rw [List.length_drop, h1, List.length_cons]; omega) (fun j p hj => by
      rw [List.drop_drop, show 3 + j * 3 = (j + 1) * 3 by omega]
      exact h2 (j + 1) p (by simpa using hj))
    rw [List.flatMap_cons, ← e1, ← e0, List.take_append_drop]
theorem code_dec (s : ByteArray) (l : List S62) (w : World) (hs : s = strOfNums (I (Fn.enc l))) (hf : Fn.fit l) (hl : l.length ≤ 4096) (he : (Fn.enc l).length ≤ 262144) :
    Calls Try.prog 21 #[.string s] w fun e w' => ∃ v, e = .returned (.tuple #[v, .agg #[.int .i64 0, .int .i64 0]]) ∧ Row w' 62 3 FC v l ∧ Below w.heap.size w w' ∧ ∀ k, v.ownBlock = some k → w.heap.size ≤ k := by
  obtain ⟨k, hk⟩ := Fn.decode_f s
  have hd : Fn.decode s = (l, 0, 0) := Pure.decode_enc hf hl he s (by rw [hs]; exact Bytes.strOf_I _)
  have := hk k (Nat.le_refl _)
  rw [hd] at this
  refine (PAll.code_Decode.calls k s l 0 0 w this).mono ?_
  rintro e w' ⟨v, rfl, hR, hb⟩
  obtain ⟨_, inner, ho, hr⟩ := hR
  have hin : inner = l.flatMap FC := reps_flat hr.1 (fun j p hj => PAll.k62_openM (hr.2 j p hj))
  refine ⟨v, rfl, ?_, hb, fun k hk => ?_⟩
  · rw [hin] at ho
    refine ⟨ho.1, ?_⟩
    rcases ho.2 with h | ⟨g, cap, cur, h1, h2, h3⟩
    · exact .inl h
    · exact .inr ⟨g, cap, cur, h1, Nat.zero_le _, h3⟩
  · exact (World.ownsRow.lt ho k hk).1
def repT (c n : Int) : ByteArray := strOfNums (I (Fn.enc (repF c n [SR n] 0 0)))
theorem rep_list (c n : Int) : repF c n [SR n] 0 0 = [fN c, fN n, fN 0, fN 0, fN 1, fN 0, fN n, fT ⟨#[]⟩, fN 0] := rfl
theorem one_fN (n : Int) : (Fn.one (fN n)).length ≤ 10 := by
  have := Bytes.digs_u64 n
  unfold Fn.one fN
  simp [Fn.num_length]
  omega
theorem rep_len (c n : Int) : (Fn.enc (repF c n [SR n] 0 0)).length ≤ 100 := by
  rw [rep_list]
  simp only [Fn.enc_cons, Fn.enc_nil, List.length_append, List.length_nil]
  have h1 := one_fN c
  have h2 := one_fN n
  have h3 := one_fN 0
  have h4 := one_fN 1
  have h5 : (Fn.one (fT ⟨#[]⟩)).length ≤ 10 := by
    unfold Fn.one fT
    simp only [if_true, List.length_append, List.length_cons, Fn.num_length, Bytes.L_length]
    show (Bytes.digs 0).length + 1 + 1 + 0 ≤ 10
    rw [Bytes.digs_zero]
    simp
  omega
theorem repT_size (c n : Int) : (repT c n).size ≤ 100 := by
  rw [Bytes.size_L]
  unfold repT
  rw [Bytes.strOf_I]
  exact rep_len c n
theorem rep_enc {c n : Int} (hc : 0 ≤ c) (hc2 : c ≤ 1000) (hn : 1 ≤ n) (hn2 : n ≤ 1048576) : Pure.encRep c n [SR n] 0 0 = (repT c n, 0) := by
  unfold Pure.encRep
  rw [if_pos (repOk_SR hc hc2 hn hn2)]
  unfold Fn.encode
  rw [if_neg (by rw [rep_list]; show ¬ (9 : Nat) > 4096; decide), if_neg (by rw [rep_list]; simp [Fn.ok, fN, fT, Bytes.L]), if_neg (by have := rep_len c n; omega)]
  rfl
theorem bk_encode (c n : Int) (rv : Value) (w : World) (h : One w rv n) (hc : 0 ≤ c) (hc2 : c ≤ 1000) (hn : 1 ≤ n) (hn2 : n ≤ 1048576) :
    Calls Try.prog 16 #[.agg #[.int .i64 c, .int .i64 n, rv, .int .i64 0, .int .i64 0]] w fun e w' => e = .returned (.tuple #[.string (repT c n), .int .i64 0]) ∧ Below w.heap.size w w' := by
  obtain ⟨g, cp, rfl, hg, hcp⟩ := h.form
  obtain ⟨k, hk⟩ := Pure.encodeRep_f c n [SR n] 0 0
  have := hk k (Nat.le_refl _)
  rw [rep_enc hc hc2 hn hn2] at this
  exact PAll.op_EncodeReply.calls k c n (some ⟨g, 0, none⟩) cp [SR n] 0 0 _ _ w (one_C h) hcp this
theorem bk_decode (c n : Int) (w : World) (hc : 0 ≤ c) (hc2 : c ≤ 1000) (hn : 1 ≤ n) (hn2 : n ≤ 1048576) :
    Calls Try.prog 33 #[.string (repT c n)] w fun e w' => ∃ rv, e = .returned (.tuple #[.agg #[.int .i64 c, .int .i64 n, rv, .int .i64 0, .int .i64 0], .int .i64 0]) ∧ One w' rv n ∧ Below w.heap.size w w' := by
  have h0 : (Pure.encRep c n [SR n] 0 0).2 = 0 := by rw [rep_enc hc hc2 hn hn2]
  obtain ⟨k, hk⟩ := Pure.rep_there h0
  have := hk k (Nat.le_refl _)
  rw [rep_enc hc hc2 hn hn2] at this
  refine (PAll.op_DecodeReply.calls k (repT c n) c n [SR n] 0 0 0 w this).mono ?_
  rintro e w' ⟨v, rfl, hS, hb⟩
  refine ⟨v, rfl, ?_, hb⟩
  obtain ⟨_, inner, ho, hr⟩ := Kd.S_R hS
  have hm := hr.2 0 (SR n) rfl
  obtain ⟨v3, e3, h3⟩ := k59_openM hm
  obtain ⟨_, inner3, ho3, _⟩ := h3
  have hs4 : k59.sz = 4 := rfl
  have hl4 : inner.length = 4 := by have := hr.1; rw [hs4] at this; simpa using this
  rw [hs4] at e3
  have e4 : inner = [.int .i64 0, .int .i64 n, .string ⟨#[]⟩, v3] := by
    rw [Nat.zero_mul, List.drop_zero, List.take_of_length_le (by omega)] at e3
    exact e3
  obtain ⟨A, c4, rfl⟩ : ∃ A c4, v3 = .slice A 0 c4 := by
    rcases ho3.2 with ⟨rfl, _⟩ | ⟨g, cap, cur, rfl, _⟩
    · exact ⟨none, 0, rfl⟩
    · exact ⟨_, _, rfl⟩
  refine ⟨A, c4, ?_⟩
  show w'.ownsRow 0 59 4 v 1 (RC (n, A, c4) ++ [])
  rw [List.append_nil]
  have ho' : w'.ownsRow w.heap.size 59 4 v 1 inner := ho
  rw [e4] at ho'
  refine ⟨ho'.1, ?_⟩
  rcases ho'.2 with h | ⟨g, cap, cur, h1, h2, h3⟩
  · exact .inl h
  · exact .inr ⟨g, cap, cur, h1, Nat.zero_le _, h3⟩
end Go.Proofs.Ytcpenjbgiecgnaa
