-- written by a program of ours (a template of wip/pure, filled for this seat)
import Derived.Test.YtafmdlegelbfpaaHDecode
import Derived.Test.YtafmdlegelbfpaaHDecodeReply
import Derived.Test.YtafmdlegelbfpaaHEncode
import Derived.Test.YtafmdlegelbfpaaHEncodeReply
import Derived.Test.YtafmdlegelbfpaaHReader
import Derived.Test.YtafmdlegelbfpaaHReply
import Derived.Test.YtafmdlegelbfpaaHWriter
import Derived.Test.YtafmdlegelbfpaaPAllx0
import Derived.Test.YtafmdlegelbfpaaPAllx1023
import Derived.Test.YtafmdlegelbfpaaPAllx1027
import Derived.Test.YtafmdlegelbfpaaPAllx1057
import Derived.Test.YtafmdlegelbfpaaPAllx1059
import Derived.Test.YtafmdlegelbfpaaPAllx1076
import Derived.Test.YtafmdlegelbfpaaPBack
/-! Replies there and back: plain. -/
namespace Go.Proofs.Ytafmdlegelbfpaa.Pure
set_option linter.unusedVariables false
set_option linter.unusedSimpArgs false
open Go Go.RowKit Go.Proofs.Ytafmdlegelbfpaa.PAll Go.Proofs.YtafmdlegelbfpaaW.PrintWords Go.Proofs.YtafmdlegelbfpaaW.PrintLast Go.Proofs.Ytafmdlegelbfpaa.Bytes Go.Proofs.Ytafmdlegelbfpaa.Fn

theorem rowOk_R {y : S101} (h : rowOk y = true) : RowR y ∧ y.f0.size ≤ 64 ∧ y.f2.size ≤ 8192 := by
  unfold rowOk at h
  simp only [Bool.and_eq_true, decide_eq_true_eq] at h
  exact ⟨⟨by omega, by omega⟩, by omega, by omega⟩
theorem resOk_R {x : S99} (h : resOk x = true) : ResR x ∧ x.f2.size ≤ 8192 ∧ x.f3.length ≤ 100 ∧ ∀ y ∈ x.f3, rowOk y = true := by
  unfold resOk at h
  simp only [Bool.and_eq_true, decide_eq_true_eq] at h
  have hr := List.all_eq_true.1 h.1
  exact ⟨⟨⟨by omega, by omega⟩, ⟨by omega, by omega⟩, fun y hy => (rowOk_R (hr y hy)).1, by omega⟩, by omega, by omega, hr⟩
theorem repOk_R {a b : Int} {l : List S99} {c d : Int} (h : repOk a b l c d = true) : NumR a ∧ NumR b ∧ NumR c ∧ NumR d ∧ l.length ≤ 32 ∧ ∀ x ∈ l, resOk x = true := by
  unfold repOk at h
  split at h
  · rename_i h0
    split at h
    · rename_i h1
      simp only [Bool.and_eq_true, decide_eq_true_eq] at h
      exact ⟨⟨by omega, by omega⟩, ⟨by omega, by omega⟩, ⟨by omega, by omega⟩, ⟨by omega, by omega⟩, by omega, fun x hx => by rw [List.length_eq_zero_iff.1 h1] at hx; cases hx⟩
    · simp only [Bool.and_eq_true, decide_eq_true_eq] at h
      exact ⟨⟨by omega, by omega⟩, ⟨by omega, by omega⟩, ⟨by omega, by omega⟩, ⟨by omega, by omega⟩, by omega, List.all_eq_true.1 h.2.2⟩
  · cases h
theorem repF_wide {a b : Int} {l : List S99} {c d : Int} (h : repOk a b l c d = true) : Wide (repF a b l c d) := by
  obtain ⟨ha, hb, hc, hd, hl, hx⟩ := repOk_R h
  intro y hy
  unfold repF at hy
  rcases List.mem_append.1 hy with hy | hy
  · simp only [List.mem_cons, List.not_mem_nil, or_false] at hy
    rcases hy with rfl | rfl | rfl | rfl | rfl
    · exact wide_fN ha
    · exact wide_fN hb
    · exact wide_fN hc
    · exact wide_fN hd
    · exact wide_fN ⟨by omega, by omega⟩
  · obtain ⟨x, hx', hy⟩ := List.mem_flatMap.1 hy
    obtain ⟨⟨h0, h1, _, _⟩, h2, h3, h4⟩ := resOk_R (hx x hx')
    unfold resF at hy
    rcases List.mem_append.1 hy with hy | hy
    · simp only [List.mem_cons, List.not_mem_nil, or_false] at hy
      rcases hy with rfl | rfl | rfl | rfl
      · exact wide_fN h0
      · exact wide_fN h1
      · exact wide_fT h2
      · exact wide_fN ⟨by omega, by omega⟩
    · obtain ⟨z, hz, hy⟩ := List.mem_flatMap.1 hy
      obtain ⟨q0, q1, q2⟩ := rowOk_R (h4 z hz)
      simp only [rowF, List.mem_cons, List.not_mem_nil, or_false] at hy
      rcases hy with rfl | rfl | rfl
      · exact wide_fT (Nat.le_trans q1 (by decide))
      · exact wide_fN q0
      · exact wide_fT q2
/-- What EncodeReply comes to. -/
def encRep (a b : Int) (l : List S99) (c d : Int) : ByteArray × Int := if repOk a b l c d = true then encode (repF a b l c d) else (⟨#[]⟩, 80)
theorem encodeRep_f (a b : Int) (l : List S99) (c d : Int) : Ev (fun k => op_EncodeReply.f k a b l c d) (encRep a b l c d) := by
  unfold encRep
  by_cases h : repOk a b l c d = true
  · rw [if_pos h]
    refine Ev.congr (fun k => ?_) (encode_f (repF a b l c d) (fun x hx => (repF_wide h x hx).2))
    unfold op_EncodeReply.f
    rw [if_pos h]
  · rw [if_neg h]
    refine Ev.congr (fun k => ?_) (Ev.now _)
    unfold op_EncodeReply.f
    rw [if_neg h]
theorem rep_none {a b : Int} {l : List S99} {c d : Int} (h : (encRep a b l c d).2 ≠ 0) : (encRep a b l c d).1 = ⟨#[]⟩ := by
  unfold encRep at h ⊢
  split
  · rename_i hq
    rw [if_pos hq] at h
    exact encode_err h
  · rfl
/-- A reply there and back. -/
theorem rep_there {a b : Int} {l : List S99} {c d : Int} (h : (encRep a b l c d).2 = 0) : Ev (fun k => op_DecodeReply.f k (encRep a b l c d).1) (a, b, l, c, d, 0) ∧ Ev (fun k => op_Decode.f k (encRep a b l c d).1) (0, 0, [], 80) := by
  by_cases hq : repOk a b l c d = true
  · have e : encRep a b l c d = encode (repF a b l c d) := by unfold encRep; rw [if_pos hq]
    rw [e] at h ⊢
    obtain ⟨h1, h2⟩ := there (repF_wide hq) h
    obtain ⟨ha, hb, hc, hd, hl, hx⟩ := repOk_R hq
    have hn : NumR (l.length : Int) := ⟨by omega, by omega⟩
    have hh : repF a b l c d = fN a :: fN b :: fN c :: fN d :: fN (l.length : Int) :: l.flatMap resF := rfl
    constructor
    · have hf := ress_fwd [] l 0 [] (fun x hx' => (resOk_R (hx x hx')).1) (by simp only [List.length_nil]; omega)
      simp only [List.append_nil, List.nil_append, Nat.zero_add] at hf
      have hr : rep4 (repF a b l c d) = ((a, b, c, d, (l.length : Int)), (l.flatMap resF, true)) := by
        unfold rep4
        rw [hh]
        simp only [rnum_fN ha, rnum_fN hb, rnum_fN hc, rnum_fN hd, rnum_fN hn]
      have := dec_rep h1 h2 (r := (l, ([], true))) (by rw [hr]; exact hf)
      rw [hr] at this
      unfold repOut at this
      rw [if_pos ⟨rfl, hq⟩] at this
      exact this
    · have cn : Canon (fN d :: fN (l.length : Int) :: l.flatMap resF) := by
        have := canon_fit (fit_of (repF_wide hq) h)
        rw [hh] at this
        exact fun y hy => this y (List.mem_cons_of_mem _ (List.mem_cons_of_mem _ (List.mem_cons_of_mem _ hy)))
      have hlen : (fN d :: fN (l.length : Int) :: l.flatMap resF).length ≤ 4096 := by
        have := (encode_ok h).1
        rw [hh] at this
        simp only [List.length_cons] at this ⊢
        omega
      obtain ⟨xs, s', he, hk⟩ := ops_ex c 4096 (fN d :: fN (l.length : Int) :: l.flatMap resF, true) 0 [] hlen cn (by simp only [List.length_nil]; omega)
      have := dec_req h1 h2 (r := ([] ++ xs, s')) (by rw [hh, rnum_fN ha, rnum_fN hb, rnum_fN hc]; exact he)
      unfold reqOut at this
      rw [if_neg] at this
      · exact this
      · rintro ⟨hw, _⟩
        unfold rwhole at hw
        obtain ⟨w1, w2⟩ := Bool.and_eq_true_iff.1 hw
        obtain ⟨_, k2, _⟩ := hk w1
        have k0 := List.isEmpty_iff.1 w2
        dsimp only at k0 k2
        rw [k0, List.append_nil] at k2
        cases xs with
        | nil => cases k2
        | cons y ys =>
          rw [List.flatMap_cons] at k2
          unfold opF at k2
          simp only [List.cons_append] at k2
          injection k2 with _ k2
          injection k2 with k2 _
          cases k2
  · unfold encRep at h
    rw [if_neg hq] at h
    exact absurd h (by decide)
theorem rep_back (b : ByteArray) : ∃ r, Ev (fun k => op_DecodeReply.f k b) r ∧ (r.2.2.2.2.2 = 0 → encRep r.1 r.2.1 r.2.2.1 r.2.2.2.1 r.2.2.2.2.1 = (b, 0)) := by
  by_cases hd : (Fn.decode b).2.1 = 0 ∧ (Fn.decode b).2.2 = 0
  · obtain ⟨l, hl⟩ : ∃ l, Fn.decode b = (l, 0, 0) := ⟨(Fn.decode b).1, Prod.ext rfl (Prod.ext hd.1 hd.2)⟩
    obtain ⟨_, hL, hf, hlen, hle⟩ := decode_back hl
    have hs : b.size ≤ 262144 := by rw [size_L, hL]; exact hle
    have hc := canon_fit hf
    obtain ⟨s1, e1⟩ : ∃ s, rnum (l, true) = s := ⟨_, rfl⟩
    obtain ⟨s2, e2⟩ : ∃ s, rnum s1.2 = s := ⟨_, rfl⟩
    obtain ⟨s3, e3⟩ : ∃ s, rnum s2.2 = s := ⟨_, rfl⟩
    obtain ⟨s4, e4⟩ : ∃ s, rnum s3.2 = s := ⟨_, rfl⟩
    obtain ⟨s5, e5⟩ : ∃ s, rnum s4.2 = s := ⟨_, rfl⟩
    have hr : rep4 l = ((s1.1, s2.1, s3.1, s4.1, s5.1), s5.2) := by unfold rep4; rw [e1, e2, e3, e4, e5]
    have j1 := rnum_sub (l, true)
    have j2 := rnum_sub s1.2
    have j3 := rnum_sub s2.2
    have j4 := rnum_sub s3.2
    have j5 := rnum_sub s4.2
    rw [e1] at j1
    rw [e2] at j2
    rw [e3] at j3
    rw [e4] at j4
    rw [e5] at j5
    have c1 : Canon s1.2.1 := j1.2 hc
    have c2 : Canon s2.2.1 := j2.2 c1
    have c3 : Canon s3.2.1 := j3.2 c2
    have c4 : Canon s4.2.1 := j4.2 c3
    have c5 : Canon s5.2.1 := j5.2 c4
    have l5 : s5.2.1.length ≤ 4096 := by
      have := j1.1
      have := j2.1
      have := j3.1
      have := j4.1
      have := j5.1
      dsimp only at *
      omega
    obtain ⟨xs, s', he, hk⟩ := ress_ex s5.1 4096 s5.2 0 [] l5 c5 (by simp only [List.length_nil]; omega)
    refine ⟨_, dec_rep hl hs (r := ([] ++ xs, s')) (by rw [hr]; exact he), fun h => ?_⟩
    rw [hr] at h ⊢
    unfold repOut at h ⊢
    dsimp only at h ⊢
    by_cases hw : rwhole s' = true ∧ repOk s1.1 s2.1 ([] ++ xs) s3.1 s4.1 = true
    · rw [if_pos hw]
      dsimp only
      obtain ⟨hw, hq⟩ := hw
      unfold rwhole at hw
      obtain ⟨w1, w2⟩ := Bool.and_eq_true_iff.1 hw
      obtain ⟨k1, k2, k3⟩ := hk w1
      have k0 := List.isEmpty_iff.1 w2
      rw [k0, List.append_nil] at k2
      rw [List.nil_append] at hq ⊢
      obtain ⟨g5, m5, _, n5⟩ := rnum_back c4 (by rw [e5]; exact k1)
      obtain ⟨g4, m4, _, n4⟩ := rnum_back c3 (by rw [e4]; exact m5)
      obtain ⟨g3, m3, _, n3⟩ := rnum_back c2 (by rw [e3]; exact m4)
      obtain ⟨g2, m2, _, n2⟩ := rnum_back c1 (by rw [e2]; exact m3)
      obtain ⟨g1, m1, _, n1⟩ := rnum_back (s := (l, true)) hc (by rw [e1]; exact m2)
      rw [e5] at g5 n5
      rw [e4] at g4
      rw [e3] at g3
      rw [e2] at g2
      rw [e1] at g1
      have el : l = repF s1.1 s2.1 xs s3.1 s4.1 := by
        have hx : ((xs.length : Nat) : Int) = s5.1 := by have := n5.1; omega
        unfold repF
        rw [hx, ← k2]
        calc l = (l, true).1 := rfl
          _ = _ := g1
          _ = _ := by rw [g2, g3, g4, g5]; rfl
      unfold encRep
      rw [if_pos hq, ← el, encode_fit hf hlen hle, of_enc hL]
    · rw [if_neg hw] at h
      exact absurd h (by decide)
  · obtain ⟨c, hc, _, h1⟩ := dec_bad b hd
    exact ⟨_, h1, fun h => absurd h hc⟩
/-! Equal lists are the same. -/
theorem sameOps_l0 (l : List S27) (hl : l.length ≤ 9223372036854775806) : ∀ (d i : Nat), i + d = l.length → Ev (fun k => skylarkbook_SameOps.l0 k l l (i : Int)) true := by
  intro d
  induction d with
  | zero =>
    intro i hi
    refine Ev.step (f := fun _ => some true) (fun k => ?_) (Ev.now _)
    simp only [skylarkbook_SameOps.l0]
    rw [if_neg (by omega)]
  | succ d ih =>
    intro i hi
    refine Ev.step (fun k => ?_) (ih (i + 1) (by omega))
    simp only [skylarkbook_SameOps.l0]
    rw [if_pos (by omega), if_pos (by omega), if_pos (by omega), if_neg (by simp), wrap64_id (by omega) (by omega)]
    rfl
theorem sameRows_l0 (l : List S101) (hl : l.length ≤ 9223372036854775806) : ∀ (d i : Nat), i + d = l.length → Ev (fun k => skylarkbook_SameRows.l0 k l l (i : Int)) true := by
  intro d
  induction d with
  | zero =>
    intro i hi
    refine Ev.step (f := fun _ => some true) (fun k => ?_) (Ev.now _)
    simp only [skylarkbook_SameRows.l0]
    rw [if_neg (by omega)]
  | succ d ih =>
    intro i hi
    refine Ev.step (fun k => ?_) (ih (i + 1) (by omega))
    simp only [skylarkbook_SameRows.l0]
    rw [if_pos (by omega), if_pos (by omega), if_pos (by omega), if_neg (by simp), wrap64_id (by omega) (by omega)]
    rfl
theorem sameRows_f (l : List S101) (hl : l.length ≤ 9223372036854775806) : Ev (fun k => skylarkbook_SameRows.f k l l) true := by
  refine Ev.congr (fun k => ?_) (sameRows_l0 l hl l.length 0 (by omega))
  simp only [skylarkbook_SameRows.f]
  rw [if_pos trivial]
  rfl
theorem sameRess_l0 (l : List S99) (hl : l.length ≤ 9223372036854775806) (hr : ∀ x ∈ l, x.f3.length ≤ 9223372036854775806) : ∀ (d i : Nat), i + d = l.length → Ev (fun k => skylarkbook_SameResults.l0 k l l (i : Int)) true := by
  intro d
  induction d with
  | zero =>
    intro i hi
    refine Ev.step (f := fun _ => some true) (fun k => ?_) (Ev.now _)
    simp only [skylarkbook_SameResults.l0]
    rw [if_neg (by omega)]
  | succ d ih =>
    intro i hi
    have hm : rd_T99 l (i : Int) ∈ l := by
      rw [rd_res l i (by omega)]
      exact List.getElem_mem _
    refine Ev.step (f := fun k => (skylarkbook_SameRows.f k (rd_T99 l (i : Int)).f3 (rd_T99 l (i : Int)).f3).bind fun t => if t = true then skylarkbook_SameResults.l0 k l l ((i : Int) + 1) else some false) (fun k => ?_) (Ev.bind (sameRows_f _ (hr _ hm)) (Ev.congr (fun k => ?_) (ih (i + 1) (by omega))))
    · simp only [skylarkbook_SameResults.l0]
      rw [if_pos (by omega), if_pos (by omega), if_pos (by omega), if_pos trivial, if_pos trivial, if_pos trivial, wrap64_id (by omega) (by omega)]
    · rw [if_pos rfl]
      rfl
theorem sameReq_f (a b : Int) (l : List S27) (hl : l.length ≤ 9223372036854775806) : Ev (fun k => skylarklaw08_sameRequest.f k a b l a b l) true := by
  obtain ⟨K, hK⟩ := sameOps_l0 l hl l.length 0 (by omega)
  refine ⟨K, fun k hk => ?_⟩
  have := hK k hk
  show skylarklaw08_sameRequest.f k a b l a b l = _
  unfold skylarklaw08_sameRequest.f skylarkbook_SameOps.f
  rw [if_pos rfl, if_pos rfl, if_pos rfl]
  exact Option.bind_eq_some_iff.2 ⟨_, this, rfl⟩
theorem sameRep_f (a b : Int) (l : List S99) (c d : Int) (hl : l.length ≤ 9223372036854775806) (hr : ∀ x ∈ l, x.f3.length ≤ 9223372036854775806) : Ev (fun k => skylarklaw08_sameReply.f k a b l c d a b l c d) true := by
  obtain ⟨K, hK⟩ := sameRess_l0 l hl hr l.length 0 (by omega)
  refine ⟨K, fun k hk => ?_⟩
  have := hK k hk
  show skylarklaw08_sameReply.f k a b l c d a b l c d = _
  unfold skylarklaw08_sameReply.f skylarkbook_SameResults.f
  rw [if_pos rfl, if_pos rfl, if_pos (by simp), if_pos rfl]
  exact Option.bind_eq_some_iff.2 ⟨_, this, rfl⟩
end Go.Proofs.Ytafmdlegelbfpaa.Pure
