-- written by a program of ours (a template of wip/pure, filled for this seat)
import Derived.Test.YtafmdlegelbfpaaHCheck
import Derived.Test.YtafmdlegelbfpaaHDecode
import Derived.Test.YtafmdlegelbfpaaHDecodeReply
import Derived.Test.YtafmdlegelbfpaaHEncode
import Derived.Test.YtafmdlegelbfpaaHReader
import Derived.Test.YtafmdlegelbfpaaHReply
import Derived.Test.YtafmdlegelbfpaaHWriter
import Derived.Test.YtafmdlegelbfpaaPAllx0
import Derived.Test.YtafmdlegelbfpaaPRep
/-! There and back: plain. -/
namespace Go.Proofs.Ytafmdlegelbfpaa.Pure
set_option linter.unusedVariables false
set_option linter.unusedSimpArgs false
open Go Go.RowKit Go.Proofs.Ytafmdlegelbfpaa.PAll Go.Proofs.YtafmdlegelbfpaaW.PrintWords Go.Proofs.YtafmdlegelbfpaaW.PrintLast Go.Proofs.Ytafmdlegelbfpaa.Bytes Go.Proofs.Ytafmdlegelbfpaa.Fn

theorem wide_fN {n : Int} (h : NumR n) : wfS (fN n) ∧ (fN n).f2.size ≤ 140737488351232 := ⟨⟨by have := h.1; show (-9223372036854775808 : Int) ≤ n; omega, by have := h.2; show n ≤ 9223372036854775807; omega⟩, Nat.zero_le _⟩
theorem wide_fT {s : ByteArray} (h : s.size ≤ 8192) : wfS (fT s) ∧ (fT s).f2.size ≤ 140737488351232 := ⟨⟨by show (-9223372036854775808 : Int) ≤ 0; omega, by show (0 : Int) ≤ 9223372036854775807; omega⟩, Nat.le_trans h (by decide)⟩
theorem opOk_R {x : S27} (h : opOk x = true) : OpR x := by
  unfold opOk op_Check.ok at h
  have h := of_decide_eq_true h
  refine ⟨⟨?_, ?_⟩, ⟨?_, ?_⟩, ⟨?_, ?_⟩, ⟨?_, ?_⟩⟩ <;> omega
theorem reqOk_R {a b : Int} {l : List S27} (h : reqOk a b l = true) : NumR a ∧ NumR b ∧ 1 ≤ l.length ∧ l.length ≤ 32 ∧ (∀ x ∈ l, OpR x) ∧ l.all opOk = true := by
  unfold reqOk at h
  obtain ⟨h1, h2⟩ := Bool.and_eq_true_iff.1 h
  have h1 := of_decide_eq_true h1
  exact ⟨⟨by omega, by omega⟩, ⟨by omega, by omega⟩, by omega, by omega, fun x hx => opOk_R (List.all_eq_true.1 h2 x hx), h2⟩
theorem reqF_wide {a b : Int} {l : List S27} (h : reqOk a b l = true) : Wide (reqF a b l) := by
  obtain ⟨ha, hb, _, hl, hx, hs⟩ := reqOk_R h
  intro y hy
  unfold reqF at hy
  rcases List.mem_append.1 hy with hy | hy
  · simp only [List.mem_cons, List.not_mem_nil, or_false] at hy
    rcases hy with rfl | rfl | rfl
    · exact wide_fN ha
    · exact wide_fN hb
    · exact wide_fN ⟨by omega, by omega⟩
  · obtain ⟨x, hx', hy⟩ := List.mem_flatMap.1 hy
    have h1 := hx x hx'
    have h2 := all_sizes hs x hx'
    simp only [opF, List.mem_cons, List.not_mem_nil, or_false] at hy
    rcases hy with rfl | rfl | rfl | rfl | rfl | rfl
    · exact wide_fN h1.1
    · exact wide_fT (Nat.le_trans h2.1 (by decide))
    · exact wide_fT h2.2
    · exact wide_fN h1.2.1
    · exact wide_fN h1.2.2.1
    · exact wide_fN h1.2.2.2
/-- What is encoded well is decoded. -/
theorem there {l : List S110} (hw : Wide l) (h : (encode l).2 = 0) : Fn.decode (encode l).1 = (l, 0, 0) ∧ (encode l).1.size ≤ 262144 := by
  obtain ⟨h1, h2, h3, h4⟩ := encode_ok h
  have hL : L (encode l).1 = enc l := by rw [h4]; exact strOf_I _
  refine ⟨decode_enc (fit_of hw h) h1 h3 _ hL, ?_⟩
  rw [size_L, hL]
  exact h3
theorem dec_bad (b : ByteArray) (h : ¬ ((Fn.decode b).2.1 = 0 ∧ (Fn.decode b).2.2 = 0)) : ∃ c : Int, c ≠ 0 ∧ Ev (fun k => op_Decode.f k b) (0, 0, [], c) ∧ Ev (fun k => op_DecodeReply.f k b) (0, 0, [], 0, 0, c) := by
  obtain ⟨K, hK⟩ := decode_f b
  dsimp only at hK
  by_cases hs : 262144 < b.size
  · refine ⟨2, by decide, ⟨K, fun k hk => ?_⟩, ⟨K, fun k hk => ?_⟩⟩
    · show op_Decode.f k b = _
      unfold op_Decode.f
      rw [hK k hk, Option.bind_some, if_pos hs]
    · show op_DecodeReply.f k b = _
      unfold op_DecodeReply.f
      rw [hK k hk, Option.bind_some, if_pos hs]
  · refine ⟨80, by decide, ⟨K, fun k hk => ?_⟩, ⟨K, fun k hk => ?_⟩⟩
    · show op_Decode.f k b = _
      unfold op_Decode.f
      rw [hK k hk, Option.bind_some, if_neg hs, if_pos h]
    · show op_DecodeReply.f k b = _
      unfold op_DecodeReply.f
      rw [hK k hk, Option.bind_some, if_neg hs, if_pos h]
/-- The fields of a request: what comes of them. -/
def reqOut (s0 : Int × Int) (r : List S27 × (List S110 × Bool)) : Int × Int × List S27 × Int :=
  if rwhole r.2 = true ∧ reqOk s0.1 s0.2 r.1 = true then (s0.1, s0.2, r.1, 0) else (0, 0, [], 80)
theorem dec_req {b : ByteArray} {l : List S110} (h : Fn.decode b = (l, 0, 0)) (hs : b.size ≤ 262144) {r : List S27 × (List S110 × Bool)}
    (hr : Ev (fun k => op_Decode.l0 k (rnum (rnum (rnum (l, true)).2).2).1 0 (rnum (rnum (rnum (l, true)).2).2).2 []) r) :
    Ev (fun k => op_Decode.f k b) (reqOut ((rnum (l, true)).1, (rnum (rnum (l, true)).2).1) r) := by
  obtain ⟨K, hK⟩ := decode_f b
  obtain ⟨K2, hK2⟩ := hr
  dsimp only at hK hK2
  refine ⟨max K K2, fun k hk => ?_⟩
  show op_Decode.f k b = _
  unfold op_Decode.f reqOut
  rw [hK k (by omega), h, Option.bind_some, if_neg (by omega), if_neg (by simp), hK2 k (by omega), Option.bind_some]
  cases hw : rwhole r.2
  · simp
  · rw [if_pos rfl, checkAll_f, Option.bind_some]
    dsimp only
    cases hq : reqOk (rnum (l, true)).1 (rnum (rnum (l, true)).2).1 r.1
    · simp
    · rw [if_pos rfl, if_pos rfl, if_pos ⟨rfl, rfl⟩]
def repOut (s0 : Int × Int × Int × Int) (r : List S99 × (List S110 × Bool)) : Int × Int × List S99 × Int × Int × Int :=
  if rwhole r.2 = true ∧ repOk s0.1 s0.2.1 r.1 s0.2.2.1 s0.2.2.2 = true then (s0.1, s0.2.1, r.1, s0.2.2.1, s0.2.2.2, 0) else (0, 0, [], 0, 0, 80)
theorem dec_rep {b : ByteArray} {l : List S110} (h : Fn.decode b = (l, 0, 0)) (hs : b.size ≤ 262144) {r : List S99 × (List S110 × Bool)}
    (hr : Ev (fun k => op_DecodeReply.l0 k (rep4 l).1.2.2.2.2 0 (rep4 l).2 []) r) :
    Ev (fun k => op_DecodeReply.f k b) (repOut ((rep4 l).1.1, (rep4 l).1.2.1, (rep4 l).1.2.2.1, (rep4 l).1.2.2.2.1) r) := by
  obtain ⟨K, hK⟩ := decode_f b
  obtain ⟨K2, hK2⟩ := hr
  dsimp only at hK hK2
  refine ⟨max K K2, fun k hk => ?_⟩
  show op_DecodeReply.f k b = _
  unfold op_DecodeReply.f repOut
  rw [hK k (by omega), h, Option.bind_some, if_neg (by omega), if_neg (by simp), hK2 k (by omega), Option.bind_some]
  cases hw : rwhole r.2
  · simp
  · rw [if_pos rfl]
    dsimp only
    cases hq : repOk (rep4 l).1.1 (rep4 l).1.2.1 r.1 (rep4 l).1.2.2.1 (rep4 l).1.2.2.2.1
    · simp
    · rw [if_pos rfl, if_pos ⟨rfl, rfl⟩]
/-- A request there and back. -/
theorem req_there {a b : Int} {l : List S27} (h : (encReq a b l).2 = 0) : Ev (fun k => op_Decode.f k (encReq a b l).1) (a, b, l, 0) ∧ Ev (fun k => op_DecodeReply.f k (encReq a b l).1) (0, 0, [], 0, 0, 80) := by
  by_cases hq : reqOk a b l = true
  · have e : encReq a b l = encode (reqF a b l) := by unfold encReq; rw [if_pos hq]
    rw [e] at h ⊢
    obtain ⟨h1, h2⟩ := there (reqF_wide hq) h
    obtain ⟨ha, hb, hl1, hl, hx, hs⟩ := reqOk_R hq
    have hn : NumR (l.length : Int) := ⟨by omega, by omega⟩
    constructor
    · have hf := ops_fwd [] l 0 [] hx (by simp only [List.length_nil]; omega)
      simp only [List.append_nil, List.nil_append, Nat.zero_add] at hf
      have hh : reqF a b l = fN a :: fN b :: fN (l.length : Int) :: l.flatMap opF := rfl
      have := dec_req h1 h2 (r := (l, ([], true))) (by rw [hh, rnum_fN ha, rnum_fN hb, rnum_fN hn]; exact hf)
      rw [hh, rnum_fN ha, rnum_fN hb] at this
      unfold reqOut at this
      rw [if_pos ⟨rfl, hq⟩] at this
      rw [hh]
      exact this
    · obtain ⟨x, m, rfl⟩ : ∃ x m, l = x :: m := by
        cases l with
        | nil => simp at hl1
        | cons x m => exact ⟨x, m, rfl⟩
      have hx0 := (hx x List.mem_cons_self).1
      have hh : reqF a b (x :: m) = fN a :: fN b :: fN ((x :: m).length : Int) :: fN x.f0 :: fT x.f1 :: ([fT x.f2, fN x.f3, fN x.f4, fN x.f5] ++ m.flatMap opF) := rfl
      have hr : rep4 (reqF a b (x :: m)) = ((a, b, ((x :: m).length : Int), x.f0, 0), ([], false)) := by
        unfold rep4
        rw [hh]
        simp only [rnum_fN ha, rnum_fN hb, rnum_fN hn, rnum_fN hx0, rnum_fT]
      have := dec_rep h1 h2 (r := ([], ([], false))) (by
        rw [hr]
        refine Ev.step (f := fun _ => some ([], ([], false))) (fun k => ?_) (Ev.now _)
        rw [l0_one, if_neg (show ¬ ((0 : Int) < 0) by decide)])
      exact this
  · unfold encReq at h
    rw [if_neg hq] at h
    exact absurd h (by decide)
theorem req_none {a b : Int} {l : List S27} (h : (encReq a b l).2 ≠ 0) : (encReq a b l).1 = ⟨#[]⟩ := by
  unfold encReq at h ⊢
  split
  · rename_i hq
    rw [if_pos hq] at h
    exact encode_err h
  · rfl
theorem canon_rnum {s : List S110 × Bool} (h : Canon s.1) : Canon (rnum s).2.1 := (rnum_sub s).2 h
theorem of_enc {b : ByteArray} {l : List UInt8} (h : L b = l) : strOfNums (I l) = b := L_inj (by rw [strOf_I, h])
/-- What is decoded, is encoded. -/
theorem req_back (b : ByteArray) : ∃ r, Ev (fun k => op_Decode.f k b) r ∧ (r.2.2.2 = 0 → encReq r.1 r.2.1 r.2.2.1 = (b, 0)) := by
  by_cases hd : (Fn.decode b).2.1 = 0 ∧ (Fn.decode b).2.2 = 0
  · obtain ⟨l, hl⟩ : ∃ l, Fn.decode b = (l, 0, 0) := ⟨(Fn.decode b).1, Prod.ext rfl (Prod.ext hd.1 hd.2)⟩
    obtain ⟨_, hL, hf, hlen, hle⟩ := decode_back hl
    have hs : b.size ≤ 262144 := by rw [size_L, hL]; exact hle
    have hc := canon_fit hf
    have c3 : Canon (rnum (rnum (rnum (l, true)).2).2).2.1 := canon_rnum (canon_rnum (canon_rnum hc))
    have l3 : (rnum (rnum (rnum (l, true)).2).2).2.1.length ≤ 4096 := by
      have h1 := (rnum_sub (l, true)).1
      have h2 := (rnum_sub (rnum (l, true)).2).1
      have h3 := (rnum_sub (rnum (rnum (l, true)).2).2).1
      dsimp only at h1
      omega
    obtain ⟨xs, s', he, hk⟩ := ops_ex (rnum (rnum (rnum (l, true)).2).2).1 4096 (rnum (rnum (rnum (l, true)).2).2).2 0 [] l3 c3 (by simp only [List.length_nil]; omega)
    refine ⟨_, dec_req hl hs he, fun h => ?_⟩
    unfold reqOut at h ⊢
    by_cases hw : rwhole s' = true ∧ reqOk (rnum (l, true)).1 (rnum (rnum (l, true)).2).1 ([] ++ xs) = true
    · rw [if_pos hw]
      dsimp only
      obtain ⟨hw, hq⟩ := hw
      unfold rwhole at hw
      obtain ⟨w1, w2⟩ := Bool.and_eq_true_iff.1 hw
      obtain ⟨k1, k2, k3⟩ := hk w1
      have k0 := List.isEmpty_iff.1 w2
      rw [k0, List.append_nil] at k2
      rw [List.nil_append] at hq ⊢
      obtain ⟨g2, m2, d2, n2⟩ := rnum_back (canon_rnum (canon_rnum hc)) k1
      obtain ⟨g1, m1, d1, n1⟩ := rnum_back (canon_rnum hc) m2
      obtain ⟨g0, m0, d0, n0⟩ := rnum_back (s := (l, true)) hc m1
      have el : l = reqF (rnum (l, true)).1 (rnum (rnum (l, true)).2).1 xs := by
        have hx : ((xs.length : Nat) : Int) = (rnum (rnum (rnum (l, true)).2).2).1 := by have := n2.1; omega
        unfold reqF
        rw [hx, ← k2]
        calc l = (l, true).1 := rfl
          _ = _ := g0
          _ = _ := by rw [g1, g2]; rfl
      unfold encReq
      rw [if_pos hq, ← el, encode_fit hf hlen hle, of_enc hL]
    · rw [if_neg hw] at h
      exact absurd h (by decide)
  · obtain ⟨c, hc, h1, _⟩ := dec_bad b hd
    exact ⟨_, h1, fun h => absurd h hc⟩
end Go.Proofs.Ytafmdlegelbfpaa.Pure
