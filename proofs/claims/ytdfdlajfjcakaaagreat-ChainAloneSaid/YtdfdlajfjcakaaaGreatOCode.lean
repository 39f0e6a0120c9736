import Derived.Test.YtdfdlajfjcakaaaGreatKA
import Derived.Test.YtdfdlajfjcakaaaGreatHEncode
import Derived.Test.YtdfdlajfjcakaaaGreatKB
namespace Go.Proofs.YtdfdlajfjcakaaaGreat
open Go Go.RowKit
open Go.Proofs.YtdfdlajfjcakaaaGreatW.PrintWords Go.Proofs.YtdfdlajfjcakaaaGreatW.PrintLast
open Go.Proofs.YtdfdlajfjcakaaaGreat.PAll (S136 k136 k136_mk k136_openM fN fT)
open Go.Proofs.YtdfdlajfjcakaaaGreat.Bytes (I)
set_option linter.unusedVariables false
set_option linter.unusedSimpArgs false

/-! Lists of fields: what code.Encode, code.Decode come to. -/
def FC (x : S136) : List Value := [.bool x.f0, .int .i64 x.f1, .string x.f2]
theorem one_FC : ∀ x, ∀ u ∈ FC x, u.oneCell' = true := by
  intro x u hu
  simp [FC] at hu
  rcases hu with rfl | rfl | rfl <;> rfl
theorem row_C {w : World} {A : Option Addr} {n c : Nat} {l : List S136} (h : Row w 136 3 FC (.slice A n c) l) (hl : l.length ≤ 4096) : n = l.length ∧ Kd.C k136 w A l.length l ∧ l.length ≤ c := by
  obtain ⟨A', c', hv⟩ := h.shape
  simp only [Value.slice.injEq] at hv
  obtain ⟨rfl, rfl, rfl⟩ := hv
  rcases Nat.eq_zero_or_pos l.length with h0 | h0
  · exact ⟨rfl, ⟨rfl, by omega, fun h => by omega⟩, by omega⟩
  · obtain ⟨g, c', hv, hg, hc⟩ := h.form h0
    simp only [Value.slice.injEq, true_and] at hv
    obtain ⟨rfl, rfl⟩ := hv
    refine ⟨rfl, ⟨rfl, by omega, fun _ => ⟨_, rfl, fun j p hj => ?_⟩⟩, hc⟩
    obtain ⟨hjl, hp⟩ := List.getElem?_eq_some_iff.1 hj
    refine ⟨FC p, rfl, k136_mk w p, fun i u hu => ?_⟩
    have hi : i < 3 := (List.getElem?_eq_some_iff.1 hu).1
    have := h.cell (fun _ => rfl) j i hjl hi
    rw [addr0]
    rw [show j * k136.sz + i = j * 3 + i from rfl, this, hp]
    exact hu
theorem fit_size {l : List S136} (hf : Fn.fit l) : ∀ x ∈ l, x.f2.size ≤ 140737488351232 := by
  intro x hx
  obtain ⟨_, h2, h3⟩ := hf x hx
  cases h0 : x.f0 with
  | true => have := h3 h0; omega
  | false =>
    unfold Fn.ok at h2
    rw [h0, if_neg (by decide)] at h2
    have := List.isEmpty_iff.1 h2
    rw [Bytes.size_L, this]
    exact Nat.zero_le _
theorem code_enc (v : Value) (l : List S136) (w : World) (h : Row w 136 3 FC v l) (hf : Fn.fit l) (hl : l.length ≤ 4096) (he : (Fn.enc l).length ≤ 262144) :
    Calls Tryz.prog 87 #[v] w fun e w' => e = .returned (.tuple #[.string (strOfNums (I (Fn.enc l))), .int .i64 0]) ∧ Below w.heap.size w w' := by
  obtain ⟨A, c, rfl⟩ := h.shape
  obtain ⟨_, h1, h2⟩ := row_C h hl
  obtain ⟨k, hk⟩ := Fn.encode_f l (fit_size hf)
  refine PAll.code_Encode.calls k A c l _ _ w h1 h2 ?_
  have := hk k (Nat.le_refl _)
  rw [Pure.encode_fit hf hl he] at this
  exact this
theorem reps_flat {ps : List S136} : ∀ {cs : List Value}, cs.length = ps.length * 3 → (∀ j p, ps[j]? = some p → (cs.drop (j * 3)).take 3 = FC p) → cs = ps.flatMap FC := by
  induction ps with
  | nil => exact fun h1 _ => List.eq_nil_of_length_eq_zero (by simpa using h1)
  | cons x l ih =>
    intro cs h1 h2
    have e0 := h2 0 x rfl
    rw [Nat.zero_mul, List.drop_zero] at e0
    have e1 := ih (cs := cs.drop 3) (by rw [List.length_drop, h1, List.length_cons]; omega) (fun j p hj => by
      rw [List.drop_drop, show 3 + j * 3 = (j + 1) * 3 by omega]
      exact h2 (j + 1) p (by simpa using hj))
    rw [List.flatMap_cons, ← e1, ← e0, List.take_append_drop]
theorem code_dec (s : ByteArray) (l : List S136) (w : World) (hs : s = strOfNums (I (Fn.enc l))) (hf : Fn.fit l) (hl : l.length ≤ 4096) (he : (Fn.enc l).length ≤ 262144) :
    Calls Tryz.prog 69 #[.string s] w fun e w' => ∃ v, e = .returned (.tuple #[v, .agg #[.int .i64 0, .int .i64 0]]) ∧ Row w' 136 3 FC v l ∧ Below w.heap.size w w' ∧ ∀ k, v.ownBlock = some k → w.heap.size ≤ k := by
  obtain ⟨k, hk⟩ := Fn.decode_f s
  have hd : Fn.decode s = (l, 0, 0) := Pure.decode_enc hf hl he s (by rw [hs]; exact Bytes.strOf_I _)
  have := hk k (Nat.le_refl _)
  rw [hd] at this
  refine (PAll.code_Decode.calls k s l 0 0 w this).mono ?_
  rintro e w' ⟨v, rfl, hR, hb⟩
  obtain ⟨_, inner, ho, hr⟩ := hR
  have hin : inner = l.flatMap FC := reps_flat hr.1 (fun j p hj => PAll.k136_openM (hr.2 j p hj))
  refine ⟨v, rfl, ?_, hb, fun k hk => ?_⟩
  · rw [hin] at ho
    refine ⟨ho.1, ?_⟩
    rcases ho.2 with h | ⟨g, cap, cur, h1, h2, h3⟩
    · exact .inl h
    · exact .inr ⟨g, cap, cur, h1, Nat.zero_le _, h3⟩
  · exact (World.ownsRow.lt ho k hk).1
theorem one_fN (n : Int) : (Fn.one (fN n)).length ≤ 10 := by
  have := Bytes.digs_u64 n
  unfold Fn.one fN
  simp [Fn.num_length]
  omega
theorem one_fT (s : ByteArray) (h : s.size ≤ 262144) : (Fn.one (fT s)).length ≤ 10 + s.size := by
  unfold Fn.one fT
  have := Bytes.digs_u64 (s.size : Int)
  simp only [if_true, List.length_append, List.length_cons, Fn.num_length, Bytes.L_length]
  have e : Bytes.digs s.size = Bytes.digs (Bytes.u64 (s.size : Int)) := by
    congr 1
    unfold Bytes.u64
    omega
  rw [e]
  omega
theorem info_fld : (Tryz.prog.info? 136).map (fun i => (i.zero, i.size, i.bytes)) = some (some (.agg #[.bool false, .int .i64 0, .string ⟨#[]⟩]), 3, 32) := by kernel_rfl
/-- The bytes of a list. -/
def bytesF (l : List S136) : ByteArray := strOfNums (I (Fn.enc l))
theorem size_bytesF (l : List S136) : (bytesF l).size = (Fn.enc l).length := by
  rw [Bytes.size_L]
  unfold bytesF
  rw [Bytes.strOf_I]
end Go.Proofs.YtdfdlajfjcakaaaGreat
