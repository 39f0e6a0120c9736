import Derived.Test.YtcpenjbgiecgnaaOCall
import Derived.OwnWalk
namespace Go.Proofs.Ytcpenjbgiecgnaa
open Go Go.RowKit
set_option linter.unusedVariables false
set_option linter.unusedSimpArgs false

/-! append of a whole row, nil let in -/
section
variable {P : Program} {α : Type} {enc : α → List Value}
theorem Row.appendRow_run {W : World} (t ty e : TypeId) (z : Value) (sz bytes : Nat) (ht : P.underlying t = some (.slice e)) (hinfo : (P.info? e).map (fun i => (i.zero, i.size, i.bytes)) = some (some z, sz, bytes)) (hz : z.cells.size = sz) (hs0 : 0 < sz) (hb0 : 0 < bytes)
    (v v2 : Value) (l ys : List α) (HR : Row W e sz enc v l) (HY : Row W e sz enc v2 ys) (hlen : ∀ x, (enc x).length = sz)
    (h1 : ∀ x, ∀ u ∈ enc x, u.oneCell' = true) (hl : (l.length + ys.length) * bytes ≤ 140737488355328) :
    ∃ v1 w1, (Builtin.append_ #[t, t] ty #[v, v2]).run P W = .ok v1 w1 ∧ Row w1 e sz enc v1 (l ++ ys) ∧ W.grownBy w1 v.ownBlock ∧ (v1.ownBlock = v.ownBlock ∨ v1.ownBlock = some W.heap.size) := by
  rcases HY.2 with ⟨rfl, h0⟩ | ⟨g, cap, cur, rfl, _, hg, _⟩
  · obtain rfl : ys = [] := List.eq_nil_of_length_eq_zero h0
    obtain ⟨i0, hi, hzz⟩ := Option.map_eq_some_iff.1 hinfo
    refine ⟨v, W, run_append_owned_none W 0 t ty e i0 sz ht hi v l.length (l.flatMap enc) HR, by simpa using HR, World.grownBy.refl W _, .inl rfl⟩
  · exact Row.append_run t ty e z sz bytes ht hinfo hz hs0 hb0 v l ys HR ⟨g, 0, none⟩ ys.length cap rfl hlen HY.news h1 hl
variable {ops : Array Oper} {rest : List Oper} {o : Oper} {a : Act} {Q : Exit → Act → World → Prop} {K : Act → World → Prop} {E : Prop} {W : World}
theorem Row.appendRow_step (hgd : o.guard = none) (s x : Operand) (t e : TypeId) (z : Value) (sz bytes : Nat)
    (ho : o.op = .call { callee := .builtin .append, args := #[s, x], argTypes := #[t, t] })
    (ht : P.underlying t = some (.slice e)) (hinfo : (P.info? e).map (fun i => (i.zero, i.size, i.bytes)) = some (some z, sz, bytes)) (hz : z.cells.size = sz) (hs0 : 0 < sz) (hb0 : 0 < bytes)
    (v v2 : Value) (l ys : List α) (hs : a.eval s = v) (hx : a.eval x = v2) (HR : Row W e sz enc v l) (HY : Row W e sz enc v2 ys) (hlen : ∀ x, (enc x).length = sz)
    (h1 : ∀ x, ∀ u ∈ enc x, u.oneCell' = true) (hl : (l.length + ys.length) * bytes ≤ 140737488355328)
    (h : ∀ v1 w1, Row w1 e sz enc v1 (l ++ ys) → W.grownBy w1 v.ownBlock → (v1.ownBlock = v.ownBlock ∨ v1.ownBlock = some W.heap.size) → K (a.put o.dst v1) w1) :
    if Region.wanted o (yielded ops a.tmps) = true then Oper.wp P o a W K Q else E := by
  have hw : Region.wanted o (yielded ops a.tmps) = true := by simp [Region.wanted, hgd]
  rw [if_pos hw]
  obtain ⟨v1, w1, hr, h2, h3, h4⟩ := Row.appendRow_run (P := P) (W := W) t o.type e z sz bytes ht hinfo hz hs0 hb0 v v2 l ys HR HY hlen h1 hl
  unfold Oper.wp execOp
  simp only [ho, resolve, invoke, builtin, Sem.run_bind, Sem.run_pure, Result.andThen_ok, List.map_toArray, List.map_cons, List.map_nil, hs, hx, hr]
  exact h v1 w1 h2 h3 h4
theorem Row.appendRow_list (hgd : o.guard = none) (s x : Operand) (t e : TypeId) (z : Value) (sz bytes : Nat)
    (ho : o.op = .call { callee := .builtin .append, args := #[s, x], argTypes := #[t, t] })
    (ht : P.underlying t = some (.slice e)) (hinfo : (P.info? e).map (fun i => (i.zero, i.size, i.bytes)) = some (some z, sz, bytes)) (hz : z.cells.size = sz) (hs0 : 0 < sz) (hb0 : 0 < bytes)
    (v v2 : Value) (l ys : List α) (hs : a.eval s = v) (hx : a.eval x = v2) (HR : Row W e sz enc v l) (HY : Row W e sz enc v2 ys) (hlen : ∀ x, (enc x).length = sz)
    (h1 : ∀ x, ∀ u ∈ enc x, u.oneCell' = true) (hl : (l.length + ys.length) * bytes ≤ 140737488355328)
    (h : ∀ v1 w1, Row w1 e sz enc v1 (l ++ ys) → W.grownBy w1 v.ownBlock → (v1.ownBlock = v.ownBlock ∨ v1.ownBlock = some W.heap.size) → wpList P ops Q rest (a.put o.dst v1) w1) :
    wpList P ops Q (o :: rest) a W := by
  refine wpList_plain hgd fun K hK => ?_
  obtain ⟨v1, w1, hr, h2, h3, h4⟩ := Row.appendRow_run (P := P) (W := W) t o.type e z sz bytes ht hinfo hz hs0 hb0 v v2 l ys HR HY hlen h1 hl
  unfold Oper.wp execOp
  simp only [ho, resolve, invoke, builtin, Sem.run_bind, Sem.run_pure, Result.andThen_ok, List.map_toArray, List.map_cons, List.map_nil, hs, hx, hr]
  exact hK _ _ (h v1 w1 h2 h3 h4)
end
theorem Row.empty {α : Type} (w : World) (e sz : Nat) (enc : α → List Value) : Row (w.alloc (.cells #[] e)) e sz enc (.slice (some ⟨w.heap.size, 0, none⟩) 0 0) ([] : List α) := World.ownsRow_made w #[] 0 (Nat.zero_le _) (by decide) (by simp)
theorem Row.lit1 {α : Type} (enc : α → List Value) (w : World) (e sz : Nat) (x : α) (cs : Array Value) (h : cs.toList = enc x) (hs : (enc x).length = sz) : Row (w.alloc (.cells cs e)) e sz enc (.slice (some ⟨w.heap.size, 0, none⟩) 1 1) [x] := by
  have := World.ownsRow_lit (base := 0) (e := e) (size := sz) w cs 1 (Nat.zero_le _) (by decide) (by rw [← Array.length_toList, h, hs, Nat.one_mul])
  unfold Row
  simpa [h] using this
end Go.Proofs.Ytcpenjbgiecgnaa
