import Derived.Test.YtdfdlajfjcakaaaGreatTbI
import Derived.Test.YtdfdlajfjcakaaaGreatHEncode
import Derived.Test.YtdfdlajfjcakaaaGreatHDecode
import Derived.Test.YtdfdlajfjcakaaaGreatKB
namespace Go.Proofs.YtdfdlajfjcakaaaGreat
open Go Go.RowKit
open Go.Proofs.YtdfdlajfjcakaaaGreatW.PrintWords Go.Proofs.YtdfdlajfjcakaaaGreatW.PrintLast
open Go.Proofs.YtdfdlajfjcakaaaGreat.PAll (S85 S136 k85 k85_mk k85_openM opF reqF fN fT)
set_option linter.unusedVariables false
set_option linter.unusedSimpArgs false
set_option maxRecDepth 100000

/-! Requests: which may be, their bytes. -/
def OpT.s (x : OpT) : S85 := ⟨x.kind, x.key, x.val, x.stamp, x.test, x.most⟩
def opMay (x : OpT) : Bool := Pure.opOk x.s
theorem op_may {x : OpT} (h : opMay x = true) : OpOk x := by
  unfold opMay Pure.opOk PAll.op_Check.ok OpT.s at h
  have h := of_decide_eq_true h
  dsimp only at h
  refine ⟨⟨?_, ?_⟩, ?_, ?_, fun _ => ?_, fun _ => ?_, fun _ => ?_, ?_, ?_⟩ <;> first | omega | (constructor <;> omega)
structure ReqT where (client seq : Int) (ops : List OpT)
deriving instance Inhabited for ReqT
def ReqT.v (r : ReqT) (v : Value) : Value := .agg #[.int .i64 r.client, .int .i64 r.seq, v]
def reqMay (r : ReqT) : Bool := Pure.reqOk r.client r.seq (r.ops.map OpT.s)
theorem req_may {r : ReqT} (h : reqMay r = true) : 0 ≤ r.client ∧ r.client ≤ 1000 ∧ 1 ≤ r.seq ∧ r.seq ≤ 1048576 ∧ 1 ≤ r.ops.length ∧ r.ops.length ≤ 32 ∧ ∀ x ∈ r.ops, opMay x = true := by
  unfold reqMay Pure.reqOk at h
  obtain ⟨h1, h2⟩ := Bool.and_eq_true_iff.1 h
  have h1 := of_decide_eq_true h1
  rw [List.length_map] at h1
  refine ⟨h1.1, h1.2.1, h1.2.2.1, h1.2.2.2.1, h1.2.2.2.2.1, h1.2.2.2.2.2, fun x hx => ?_⟩
  exact List.all_eq_true.1 h2 x.s (List.mem_map_of_mem hx)
/-- The bytes; the code. -/
def encR (r : ReqT) : ByteArray × Int := Pure.encReq r.client r.seq (r.ops.map OpT.s)
theorem ops_C {w : World} {A : Option Addr} {n c : Nat} {l : List OpT} (h : SegG w OpT.cells (.slice A n c) l) : n = l.length ∧ Kd.C k85 w A (l.map OpT.s).length (l.map OpT.s) ∧ (l.map OpT.s).length ≤ c := by
  obtain ⟨A', c', hv, hc, hm, hcell⟩ := h
  simp only [Value.slice.injEq] at hv
  obtain ⟨rfl, rfl, rfl⟩ := hv
  rw [List.length_map]
  refine ⟨rfl, ⟨List.length_map .., by simp only [maxLen] at hm; omega, fun h0 => ?_⟩, hc⟩
  obtain ⟨ad, rfl, hcl⟩ := hcell h0
  refine ⟨ad, rfl, fun j p hj => ?_⟩
  rw [List.getElem?_map] at hj
  obtain ⟨x, hx, rfl⟩ := Option.map_eq_some_iff.1 hj
  obtain ⟨hjl, hp⟩ := List.getElem?_eq_some_iff.1 hx
  refine ⟨OpT.cells x, rfl, k85_mk w x.s, fun i u hu => ?_⟩
  have hi : i < 6 := (List.getElem?_eq_some_iff.1 hu).1
  have e1 := flat_get (enc := OpT.cells) (sz := 6) (fun _ => rfl) l j i hjl hi
  rw [hp, hu] at e1
  exact hcl _ _ e1
theorem check_calls (x : OpT) (w : World) : Calls Tryz.prog 42 #[x.v] w fun e w' => e = .returned (.int .i64 (if opMay x = true then 0 else 80)) ∧ Below w.heap.size w w' :=
  PAll.op_Check.calls 0 x.kind x.key x.val x.stamp x.test x.most _ w rfl
theorem checkAll_calls (r : ReqT) (v : Value) (w : World) (h : SegG w OpT.cells v r.ops) :
    Calls Tryz.prog 18 #[r.v v] w fun e w' => e = .returned (.int .i64 (if reqMay r = true then 0 else 80)) ∧ Below w.heap.size w w' := by
  obtain ⟨A, c, rfl, _, _⟩ := h.shape
  obtain ⟨_, h1, h2⟩ := ops_C h
  have := PAll.op_CheckAll.calls 0 r.client r.seq A c (r.ops.map OpT.s) _ w h1 h2 (Pure.checkAll_f 0 r.client r.seq (r.ops.map OpT.s))
  rw [List.length_map] at this
  exact this
theorem encode_calls (r : ReqT) (v : Value) (w : World) (h : SegG w OpT.cells v r.ops) :
    Calls Tryz.prog 60 #[r.v v] w fun e w' => e = .returned (.tuple #[.string (encR r).1, .int .i64 (encR r).2]) ∧ Below w.heap.size w w' := by
  obtain ⟨A, c, rfl, _, _⟩ := h.shape
  obtain ⟨_, h1, h2⟩ := ops_C h
  obtain ⟨k, hk⟩ := Pure.encodeReq_f r.client r.seq (r.ops.map OpT.s)
  have := PAll.op_Encode.calls k r.client r.seq A c (r.ops.map OpT.s) _ _ w h1 h2 (hk k (Nat.le_refl _))
  rw [List.length_map] at this
  exact this
theorem ops_flat {ps : List OpT} : ∀ {cs : List Value}, cs.length = ps.length * 6 → (∀ j p, ps[j]? = some p → (cs.drop (j * 6)).take 6 = OpT.cells p) → cs = ps.flatMap OpT.cells := by
  induction ps with
  | nil => exact fun h1 _ => List.eq_nil_of_length_eq_zero (by simpa using h1)
  | cons x l ih =>
    intro cs h1 h2
    have e0 := h2 0 x rfl
    rw [Nat.zero_mul, List.drop_zero] at e0
    have e1 := ih (cs := cs.drop 6) (by rw [List.length_drop, h1, List.length_cons]; omega) (fun j p hj => by
      rw [List.drop_drop, show 6 + j * 6 = (j + 1) * 6 by omega]
      exact h2 (j + 1) p (by simpa using hj))
    rw [List.flatMap_cons, ← e1, ← e0, List.take_append_drop]
/-- What was encoded is decoded. -/
theorem decode_calls (r : ReqT) (w : World) (h0 : (encR r).2 = 0) :
    Calls Tryz.prog 70 #[.string (encR r).1] w fun e w' => ∃ v, e = .returned (.tuple #[r.v v, .int .i64 0]) ∧ Row w' 85 6 OpT.cells v r.ops ∧ Below w.heap.size w w' ∧ ∀ k, v.ownBlock = some k → w.heap.size ≤ k := by
  obtain ⟨k, hk⟩ := Pure.req_there1 h0
  refine (PAll.op_Decode.calls k (encR r).1 r.client r.seq (r.ops.map OpT.s) 0 w (hk k (Nat.le_refl _))).mono ?_
  rintro e w' ⟨v, rfl, hR, hb⟩
  obtain ⟨_, inner, ho, hr⟩ := hR
  have hin : inner = r.ops.flatMap OpT.cells := ops_flat (by have := hr.1; rw [List.length_map] at this; exact this) (fun j p hj => by
    have := hr.2 j p.s (by rw [List.getElem?_map, hj]; rfl)
    exact k85_openM this)
  rw [List.length_map] at ho
  refine ⟨v, rfl, ?_, hb, fun k hk => (World.ownsRow.lt ho k hk).1⟩
  rw [hin] at ho
  refine ⟨ho.1, ?_⟩
  rcases ho.2 with h | ⟨g, cap, cur, h1, h2, h3⟩
  · exact .inl h
  · exact .inr ⟨g, cap, cur, h1, Nat.zero_le _, h3⟩
end Go.Proofs.YtdfdlajfjcakaaaGreat
