-- written by a program of ours (a template of wip/pure, filled for this seat)
import Derived.Test.YtafmdlegelbfpaaHReply
import Derived.Test.YtafmdlegelbfpaaPAllx0
import Derived.Test.YtafmdlegelbfpaaPBack2
import Derived.Test.YtafmdlegelbfpaaKA
import Derived.Test.YtafmdlegelbfpaaXOpBack
/-! OpBack: what it computes is true. -/
namespace Go.Proofs.Ytafmdlegelbfpaa.Pure
set_option linter.unusedVariables false
set_option linter.unusedSimpArgs false
open Go Go.RowKit Go.Proofs.Ytafmdlegelbfpaa.PAll Go.Proofs.YtafmdlegelbfpaaW.PrintWords Go.Proofs.YtafmdlegelbfpaaW.PrintLast Go.Proofs.Ytafmdlegelbfpaa.Bytes Go.Proofs.Ytafmdlegelbfpaa.Fn Go.Proofs.Ytafmdlegelbfpaa.Shape

theorem back_j2 (b : ByteArray) : Ev (fun k => skylarklaw08_OpBack.j2 k b) true := by
  obtain ⟨⟨r1, r2, r3, r4, r5, r6⟩, hr, hb⟩ := rep_back b
  dsimp only at hb
  obtain ⟨K1, h1⟩ := hr
  obtain ⟨K2, h2⟩ := encodeRep_f r1 r2 r3 r4 r5
  dsimp only at h1 h2
  refine ⟨max K1 K2 + 1, fun k hk => ?_⟩
  obtain ⟨k, rfl⟩ : ∃ j, k = j + 1 := ⟨k - 1, by omega⟩
  show skylarklaw08_OpBack.j2 (k + 1) b = _
  rw [skylarklaw08_OpBack.j2, h1 k (by omega), Option.bind_some]
  dsimp only
  by_cases he : r6 = 0
  · have e := hb he
    rw [if_pos he, h2 k (by omega), Option.bind_some, e]
    rw [if_pos rfl, if_pos rfl]
  · rw [if_neg he]
theorem back_j1 (b : ByteArray) : Ev (fun k => skylarklaw08_OpBack.j1 k b) true := by
  obtain ⟨⟨r1, r2, r3, r4⟩, hr, hb⟩ := req_back b
  dsimp only at hb
  obtain ⟨K1, h1⟩ := hr
  obtain ⟨K2, h2⟩ := encodeReq_f r1 r2 r3
  obtain ⟨K3, h3⟩ := back_j2 b
  dsimp only at h1 h2 h3
  refine ⟨max (max K1 K2) K3 + 1, fun k hk => ?_⟩
  obtain ⟨k, rfl⟩ : ∃ j, k = j + 1 := ⟨k - 1, by omega⟩
  show skylarklaw08_OpBack.j1 (k + 1) b = _
  rw [skylarklaw08_OpBack.j1, h1 k (by omega), Option.bind_some]
  dsimp only
  by_cases he : r4 = 0
  · have e := hb he
    rw [if_pos he, h2 k (by omega), Option.bind_some, e]
    rw [if_pos rfl, if_pos rfl, h3 k (by omega)]
  · rw [if_neg he, h3 k (by omega)]
theorem empty_list : (⟨#[]⟩ : ByteArray).toList = ([] : List UInt8) := by rw [toList_L]; rfl
theorem back_j0 (b : ByteArray) (c d : Int) (l : List S99) (e f : Int) : Ev (fun k => skylarklaw08_OpBack.j0 k b c d l e f) true := by
  obtain ⟨K1, h1⟩ := encodeRep_f c d l e f
  obtain ⟨K3, h3⟩ := back_j1 b
  dsimp only at h1 h3
  by_cases he : (encRep c d l e f).2 = 0
  · obtain ⟨⟨K4, h4⟩, ⟨K5, h5⟩⟩ := rep_there he
    have hq : repOk c d l e f = true := by
      unfold encRep at he
      split at he
      · assumption
      · exact absurd he (by decide)
    obtain ⟨_, _, _, _, hl, hx⟩ := repOk_R hq
    obtain ⟨K6, h6⟩ := sameRep_f c d l e f (by omega) (fun x hx' => by have := (resOk_R (hx x hx')).2.2.1; omega)
    dsimp only at h4 h5 h6
    refine ⟨max (max (max K1 K3) (max K4 K5)) K6 + 1, fun k hk => ?_⟩
    obtain ⟨k, rfl⟩ : ∃ j, k = j + 1 := ⟨k - 1, by omega⟩
    show skylarklaw08_OpBack.j0 (k + 1) b c d l e f = _
    rw [skylarklaw08_OpBack.j0, h1 k (by omega), Option.bind_some, if_pos he, h4 k (by omega), Option.bind_some, h5 k (by omega), Option.bind_some]
    dsimp only
    rw [if_pos rfl, h6 k (by omega), Option.bind_some, if_pos rfl, if_pos rfl, h3 k (by omega)]
  · refine ⟨max K1 K3 + 1, fun k hk => ?_⟩
    obtain ⟨k, rfl⟩ : ∃ j, k = j + 1 := ⟨k - 1, by omega⟩
    show skylarklaw08_OpBack.j0 (k + 1) b c d l e f = _
    rw [skylarklaw08_OpBack.j0, h1 k (by omega), Option.bind_some, if_neg he, rep_none he, if_pos empty_list, h3 k (by omega)]
theorem back_f (a0 a1 : Int) (m : List S27) (b : ByteArray) (c d : Int) (l : List S99) (e f : Int) : Ev (fun k => skylarklaw08_OpBack.f k a0 a1 m c d l e f b) true := by
  obtain ⟨K0, h0⟩ := works_op
  obtain ⟨K1, h1⟩ := encodeReq_f a0 a1 m
  obtain ⟨K3, h3⟩ := back_j0 b c d l e f
  dsimp only at h0 h1 h3
  by_cases he : (encReq a0 a1 m).2 = 0
  · obtain ⟨⟨K4, h4⟩, ⟨K5, h5⟩⟩ := req_there he
    have hq : reqOk a0 a1 m = true := by
      unfold encReq at he
      split at he
      · assumption
      · exact absurd he (by decide)
    obtain ⟨_, _, _, hl, _, _⟩ := reqOk_R hq
    obtain ⟨K6, h6⟩ := sameReq_f a0 a1 m (by omega)
    dsimp only at h4 h5 h6
    refine ⟨max K0 (max (max (max K1 K3) (max K4 K5)) K6), fun k hk => ?_⟩
    show skylarklaw08_OpBack.f k a0 a1 m c d l e f b = _
    unfold skylarklaw08_OpBack.f
    rw [h0 k (by omega), Option.bind_some, if_pos rfl, h1 k (by omega), Option.bind_some, if_pos he, h4 k (by omega), Option.bind_some, h5 k (by omega), Option.bind_some]
    dsimp only
    rw [if_pos rfl, h6 k (by omega), Option.bind_some, if_pos rfl, if_pos rfl, h3 k (by omega)]
  · refine ⟨max K0 (max K1 K3), fun k hk => ?_⟩
    show skylarklaw08_OpBack.f k a0 a1 m c d l e f b = _
    unfold skylarklaw08_OpBack.f
    rw [h0 k (by omega), Option.bind_some, if_pos rfl, h1 k (by omega), Option.bind_some, if_neg he, req_none he, if_pos empty_list, h3 k (by omega)]
theorem back_walk (cs0 cs1 : Array Value) (a2 : ByteArray) (w : World) (s0 : SK.oks Try.prog w reqSK cs0.toList) (s1 : SK.oks Try.prog w repSK cs1.toList) (w2 : a2.size ≤ 140737488351232) :
    Calls Try.prog 6 #[.agg cs0, .agg cs1, .string a2] w fun e w' => e = .returned (.bool true) ∧ Below w.heap.size w w' := by
  obtain ⟨a, b, A, c, l, h0, _, _, hc, hC, _, _⟩ := open_req s0
  obtain ⟨a', b', A', c', l', d', e', h1, _, hc', hC', _, _⟩ := open_rep (by decide +kernel) s1
  obtain rfl : cs0 = #[.int .i64 a, .int .i64 b, .slice A l.length c] := Array.toList_inj.1 h0
  obtain rfl : cs1 = #[.int .i64 a', .int .i64 b', .slice A' l'.length c', .int .i64 d', .int .i64 e'] := Array.toList_inj.1 h1
  obtain ⟨K, hK⟩ := back_f a b l a2 a' b' l' d' e'
  exact skylarklaw08_OpBack.calls K a b A c l a' b' A' c' l' d' e' a2 true w hC hc hC' hc' (hK K (Nat.le_refl _))
end Go.Proofs.Ytafmdlegelbfpaa.Pure
