-- written by a program of ours (a template of wip/pure, filled for this seat)
import Derived.Test.YtafmdlegelbfpaaShape
import Derived.Test.YtafmdlegelbfpaaQA
/-! What came in, opened: as the print's kinds have it. -/
namespace Go.Proofs.Ytafmdlegelbfpaa.Shape
open Go Go.RowKit Go.Proofs.YtafmdlegelbfpaaW.PrintWords Go.Proofs.YtafmdlegelbfpaaW.PrintLast
set_option linter.unusedVariables false
set_option linter.unusedSimpArgs false
theorem rows_list {α : Type} {R : List Value → Prop} {K : α → List Value → Prop} {D : α → Prop} (hmk : ∀ r, R r → ∃ x, K x r ∧ D x) : ∀ (rows : List (List Value)), (∀ r ∈ rows, R r) →
    ∃ xs : List α, xs.length = rows.length ∧ (∀ (j : Nat) (r : List Value) (x : α), rows[j]? = some r → xs[j]? = some x → K x r) ∧ ∀ x ∈ xs, D x
  | [], _ => ⟨[], rfl, fun j r x h => by simp at h, fun x hx => by cases hx⟩
  | r :: rows, h => by
    obtain ⟨x, hk, hd⟩ := hmk r (h r List.mem_cons_self)
    obtain ⟨xs, hl, hx, hD⟩ := rows_list hmk rows (fun r' hr' => h r' (List.mem_cons_of_mem _ hr'))
    refine ⟨x :: xs, by simp [hl], fun j r' x' hr hx' => ?_, fun x' hx' => ?_⟩
    · cases j with
      | zero => simp at hr hx'; subst hr hx'; exact hk
      | succ j => exact hx j r' x' (by simpa using hr) (by simpa using hx')
    · rcases List.mem_cons.1 hx' with rfl | hx'
      · exact hd
      · exact hD x' hx'
theorem rows_C {α : Type} (d : Kd α) {P : Program} {w : World} {e : TypeId} {ks : List SK} {v : Value} (hd : d.sz = ks.length) (D : α → Prop) (hmk : ∀ r, SK.oks P w ks r → ∃ x, d.K w x r ∧ D x) (h : SK.ok P w (.row e ks) v) :
    ∃ (A : Option Addr) (c : Nat) (xs : List α), v = .slice A xs.length c ∧ xs.length ≤ c ∧ d.C w A xs.length xs ∧ xs.length * P.bytesOf e ≤ 140737488351232 ∧ ∀ x ∈ xs, D x := by
  simp only [SK.ok] at h
  obtain ⟨A, len, cap, rows, rfl, hl, hm, hb, hlen, hcell, hr⟩ := h
  obtain ⟨xs, hxl, hx, hD⟩ := rows_list hmk rows hr
  have e1 : xs.length = len := hxl.trans hlen
  subst e1
  refine ⟨A, cap, xs, rfl, hl, ⟨rfl, by unfold maxLen at hm; omega, fun h0 => ?_⟩, hb, hD⟩
  obtain ⟨a, hA, hc⟩ := hcell h0
  refine ⟨a, hA, fun j p hp => ?_⟩
  have hj : j < rows.length := by rw [← hxl]; exact (List.getElem?_eq_some_iff.1 hp).1
  have hrj : rows[j]? = some rows[j] := List.getElem?_eq_getElem hj
  refine ⟨rows[j], ?_, hx j _ p hrj hp, fun i u hu => ?_⟩
  · rw [hd]
    exact oks_len (hr _ (List.getElem_mem hj))
  · rw [hd]
    exact hc j _ hrj i u hu
theorem oks_cons {P : Program} {w : World} {k : SK} {ks : List SK} {vs : List Value} (h : SK.oks P w (k :: ks) vs) : ∃ v vs', vs = v :: vs' ∧ SK.ok P w k v ∧ SK.oks P w ks vs' := by
  cases vs with
  | nil => simp [SK.oks] at h
  | cons v vs => simp only [SK.oks] at h; exact ⟨v, vs, rfl, h.1, h.2⟩
theorem oks_nil {P : Program} {w : World} {vs : List Value} (h : SK.oks P w [] vs) : vs = [] := by
  cases vs with
  | nil => rfl
  | cons v vs => simp [SK.oks] at h
theorem ok_int {P : Program} {w : World} {k : IntKind} {v : Value} (h : SK.ok P w (.int k) v) : ∃ x : Int, v = .int k x ∧ (Lit.int k x).wf = true := by simpa only [SK.ok] using h
theorem ok_bool {P : Program} {w : World} {v : Value} (h : SK.ok P w .bool v) : ∃ b : Bool, v = .bool b := by simpa only [SK.ok] using h
theorem ok_str {P : Program} {w : World} {v : Value} (h : SK.ok P w .str v) : ∃ s : ByteArray, v = .string s ∧ s.size ≤ 140737488351232 := by simpa only [SK.ok] using h
end Go.Proofs.Ytafmdlegelbfpaa.Shape
