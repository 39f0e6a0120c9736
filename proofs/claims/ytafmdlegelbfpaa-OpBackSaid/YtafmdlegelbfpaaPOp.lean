-- written by a program of ours (a template of wip/pure, filled for this seat)
import Derived.Test.YtafmdlegelbfpaaHCheck
import Derived.Test.YtafmdlegelbfpaaHCheckAll
import Derived.Test.YtafmdlegelbfpaaHEncode
import Derived.Test.YtafmdlegelbfpaaHWriter
import Derived.Test.YtafmdlegelbfpaaPAllx0
import Derived.Test.YtafmdlegelbfpaaPAllx1010
import Derived.Test.YtafmdlegelbfpaaKA
/-! Operations, requests: plain. -/
namespace Go.Proofs.Ytafmdlegelbfpaa.Pure
set_option linter.unusedVariables false
set_option linter.unusedSimpArgs false
open Go Go.RowKit Go.Proofs.Ytafmdlegelbfpaa.PAll Go.Proofs.YtafmdlegelbfpaaW.PrintWords Go.Proofs.YtafmdlegelbfpaaW.PrintLast Go.Proofs.Ytafmdlegelbfpaa.Bytes Go.Proofs.Ytafmdlegelbfpaa.Fn

/-- May an operation be? -/
def opOk (x : S27) : Bool := op_Check.ok x.f0 x.f1 x.f2 x.f3 x.f4 x.f5
/-- May a request be? -/
def reqOk (a b : Int) (l : List S27) : Bool := decide (0 ≤ a ∧ a ≤ 1000 ∧ 1 ≤ b ∧ b ≤ 1048576 ∧ 1 ≤ l.length ∧ l.length ≤ 32) && l.all opOk
theorem check_f (k : Nat) (x : S27) : op_Check.f k x.f0 x.f1 x.f2 x.f3 x.f4 x.f5 = some (if opOk x = true then 0 else 80) := rfl
theorem any_f (k : Nat) : ∀ l, op_CheckAll.any k l = some (!l.all opOk)
  | [] => rfl
  | x :: l => by
    unfold op_CheckAll.any
    rw [check_f, Option.bind_some, List.all_cons]
    cases opOk x
    · rfl
    · rw [if_pos rfl, if_pos rfl, any_f k l]; rfl
theorem checkAll_f (k : Nat) (a b : Int) (l : List S27) : op_CheckAll.f k a b l = some (if reqOk a b l = true then 0 else 80) := by
  unfold op_CheckAll.f reqOk
  by_cases h : 0 ≤ a ∧ a ≤ 1000 ∧ 1 ≤ b ∧ b ≤ 1048576 ∧ 1 ≤ l.length ∧ l.length ≤ 32
  · rw [if_pos h, any_f, Option.bind_some, decide_eq_true h, Bool.true_and]
    cases l.all opOk <;> rfl
  · rw [if_neg h, decide_eq_false h, Bool.false_and]; rfl
theorem all_sizes {l : List S27} (h : l.all opOk = true) : ∀ x ∈ l, x.f1.size ≤ 64 ∧ x.f2.size ≤ 8192 := by
  intro x hx
  have := List.all_eq_true.1 h x hx
  unfold opOk op_Check.ok at this
  have := of_decide_eq_true this
  omega
theorem reqF_sizes {a b : Int} {l : List S27} (h : l.all opOk = true) : ∀ y ∈ reqF a b l, y.f2.size ≤ 8192 := by
  intro y hy
  unfold reqF at hy
  rcases List.mem_append.1 hy with hy | hy
  · simp only [List.mem_cons, List.not_mem_nil, or_false, fN] at hy
    rcases hy with rfl | rfl | rfl <;> exact Nat.zero_le _
  · obtain ⟨x, hx, hy⟩ := List.mem_flatMap.1 hy
    have := all_sizes h x hx
    simp only [opF, List.mem_cons, List.not_mem_nil, or_false, fN, fT] at hy
    rcases hy with rfl | rfl | rfl | rfl | rfl | rfl
    · exact Nat.zero_le _
    · exact Nat.le_trans this.1 (by decide)
    · exact this.2
    · exact Nat.zero_le _
    · exact Nat.zero_le _
    · exact Nat.zero_le _
/-- What Encode comes to. -/
def encReq (a b : Int) (l : List S27) : ByteArray × Int := if reqOk a b l = true then encode (reqF a b l) else (⟨#[]⟩, 80)
theorem encodeReq_f (a b : Int) (l : List S27) : Ev (fun k => op_Encode.f k a b l) (encReq a b l) := by
  unfold encReq
  by_cases h : reqOk a b l = true
  · rw [if_pos h]
    have ha : l.all opOk = true := by unfold reqOk at h; exact (Bool.and_eq_true_iff.1 h).2
    refine Ev.congr (fun k => ?_) (encode_f (reqF a b l) (fun x hx => Nat.le_trans (reqF_sizes ha x hx) (by decide)))
    unfold op_Encode.f
    rw [checkAll_f, if_pos h, Option.bind_some, if_pos rfl]
  · rw [if_neg h]
    refine Ev.congr (fun k => ?_) (Ev.now _)
    unfold op_Encode.f
    rw [checkAll_f, if_neg h, Option.bind_some, if_neg (by decide)]
theorem works_op : Ev (fun k => skylarklaw08_works.f k) true := by
  obtain ⟨K1, h1⟩ := encodeReq_f 3 1 [⟨5, ⟨#[107]⟩, ⟨#[]⟩, 0, 0, 0⟩]
  obtain ⟨K2, h2⟩ := encodeReq_f 3 1 []
  have e2 : encReq 3 1 [] = (⟨#[]⟩, 80) := rfl
  have e1 : encReq 3 1 [⟨5, ⟨#[107]⟩, ⟨#[]⟩, 0, 0, 0⟩] = (strOfNums (I [78, 1, 3, 78, 1, 1, 78, 1, 1, 78, 1, 5, 84, 1, 1, 107, 84, 0, 78, 0, 78, 0, 78, 0]), 0) := by
    have hr : reqF 3 1 [⟨5, ⟨#[107]⟩, ⟨#[]⟩, 0, 0, 0⟩] = [fN 3, fN 1, fN 1, fN 5, fT ⟨#[107]⟩, fT ⟨#[]⟩, fN 0, fN 0, fN 0] := rfl
    have h : enc (reqF 3 1 [⟨5, ⟨#[107]⟩, ⟨#[]⟩, 0, 0, 0⟩]) = [78, 1, 3, 78, 1, 1, 78, 1, 1, 78, 1, 5, 84, 1, 1, 107, 84, 0, 78, 0, 78, 0, 78, 0] := by
      rw [hr]
      simp only [enc, List.flatMap_cons, List.flatMap_nil, one, fN, fT, if_true, Bool.false_eq_true, if_false, num]
      rw [show u64 0 = 0 from rfl, show u64 1 = 1 from rfl, show u64 3 = 3 from rfl, show u64 5 = 5 from rfl]
      have s1 : (⟨#[107]⟩ : ByteArray).size = 1 := rfl
      have s0 : (⟨#[]⟩ : ByteArray).size = 0 := rfl
      rw [s1, s0, digs_zero, digs_ex [1] 1 (by decide) (by decide), digs_ex [3] 3 (by decide) (by decide), digs_ex [5] 5 (by decide) (by decide)]
      rfl
    unfold encReq
    rw [if_pos (by decide)]
    unfold encode
    rw [if_neg (by rw [hr]; decide), if_neg (by rw [hr]; decide), h, if_neg (by decide)]
  dsimp only at h1 h2
  rw [e1] at h1
  rw [e2] at h2
  refine ⟨max K1 K2, fun k hk => ?_⟩
  show skylarklaw08_works.f k = _
  unfold skylarklaw08_works.f
  rw [h1 k (by omega), Option.bind_some, h2 k (by omega), Option.bind_some, if_pos (by rw [toList_L, strOf_I]), if_pos rfl]
  rfl
end Go.Proofs.Ytafmdlegelbfpaa.Pure
