import Derived.Test.YtcpenjbgiecgnaaOCall
import Derived.Maps.OwnSet
import Derived.Maps.Views
import Derived.Maps.Keyed
namespace Go.Proofs.Ytcpenjbgiecgnaa
open Go Go.RowKit
open Go.Maps (Keyed IsMap)
set_option linter.unusedVariables false
set_option linter.unusedSimpArgs false
set_option maxRecDepth 100000

/-! A map from whole numbers that the call has made: what it holds, as a function. -/
/-- An element is read as itself. -/
def tokR (v : Value) : Option (DataW Value × List MemPlace) := some (.held v, [])
def IMap {α : Type} (w : World) (kt b n : Nat) (enc : α → Value) (m : Int → Option α) : Prop :=
  ∃ D : DataW Value, w.ownsMap Try.prog kt tokR b n D ∧ IsMap D ∧ ∀ k : Int, (Lit.int .i64 k).wf = true → Maps.has D (.int .i64 k) = (m k).isSome ∧ ∀ x, m k = some x → ∀ z, D.atKey (.int .i64 k) z = .held (enc x)
section
variable {α : Type} {w w' : World} {kt b n : Nat} {enc : α → Value} {m : Int → Option α}
theorem IMap.made (w : World) (kt : Nat) (enc : α → Value) : IMap (w.alloc (.map #[] 0)) kt w.heap.size 0 enc (fun _ => none) :=
  ⟨.map [], World.ownsMap_made .., ⟨_, rfl⟩, fun k _ => ⟨rfl, fun x h => by cases h⟩⟩
theorem IMap.lt (h : IMap w kt b n enc m) : b < w.heap.size := by obtain ⟨D, h, _⟩ := h; exact h.lt
theorem IMap.kept {S : Nat → Prop} (h : IMap w kt b n enc m) (hk : Kept w w' S) (hn : ¬ S b) : IMap w' kt b n enc m := by
  obtain ⟨D, ho, hi, hm⟩ := h
  obtain ⟨es, clock, hh, rest⟩ := ho
  exact ⟨D, ⟨es, clock, (hk.block b (Array.getElem?_eq_some_iff.1 hh).1 hn).trans hh, rest⟩, hi, hm⟩
theorem IMap.alloc (h : IMap w kt b n enc m) (o : Obj) : IMap (w.alloc o) kt b n enc m := h.kept ((Kept.refl w (fun _ => False)).alloc o) (fun h => h)
theorem IMap.drewN (h : IMap w kt b n enc m) (q : Nat) : IMap (w.drewN q) kt b n enc m := h.kept ((Kept.refl w (fun _ => False)).drewN q) (fun h => h)
end
/-- The map behind a store. -/
def upd {α : Type} (m : Int → Option α) (k : Int) (x : α) : Int → Option α := fun j => if j = k then some x else m j
section
variable {α : Type} {w : World} {kt b n : Nat} {enc : α → Value} {m : Int → Option α} {ops : Array Oper} {rest : List Oper} {o : Oper} {a : Act} {Q : Exit → Act → World → Prop}
theorem IMap.at_ {D : DataW Value} {v z : Value} {ps : List MemPlace} {k : Int} (hD : ∀ k : Int, (Lit.int .i64 k).wf = true → Maps.has D (.int .i64 k) = (m k).isSome ∧ ∀ x, m k = some x → ∀ z, D.atKey (.int .i64 k) z = .held (enc x)) (hk : (Lit.int .i64 k).wf = true) (h : tokR v = some (D.atKey (.int .i64 k) (.held z), ps)) : v = match m k with | some x => enc x | none => z := by
  unfold tokR at h
  injection h with h
  injection h with h _
  cases hm : m k with
  | some x =>
    rw [(hD k hk).2 x hm] at h
    injection h
  | none =>
    have hh := (hD k hk).1
    rw [hm] at hh
    rw [Maps.atKey_of_not_has hh] at h
    injection h
theorem IMap.look (hg : o.guard = none) (mo x : Operand) (t e : TypeId) (hop : o.op = Op.lookup t mo x false) (K : Keyed Try.prog kt) (ht : Try.prog.underlying t = some (.map kt e)) {z : Value} (hz : ∀ w, (zeroValue e).run Try.prog w = .ok z w)
    (hm : a.eval mo = .map (some b)) (h : IMap w kt b n enc m) (k : Int) (hx : a.eval x = .int .i64 k) (hk : (Lit.int .i64 k).wf = true) (hkey : keyOf Try.prog kt (.int .i64 k) = some (.int .i64 k))
    (hK : ∀ v, v = (match m k with | some x => enc x | none => z) → wpList Try.prog ops Q rest (a.put o.dst v) w) : wpList Try.prog ops Q (o :: rest) a w := by
  obtain ⟨D, ho, hi, hD⟩ := h
  refine wpList_plain hg fun K' hK' => ?_
  obtain ⟨v, ps, hrun, hv⟩ := ho.lookup K ht (hz w) (zd := .held z) (zp := []) rfl hkey
  unfold Oper.wp
  simp [execOp, hop, hm, hx, hrun, Result.andThen]
  exact hK' _ _ (hK v (IMap.at_ hD hk hv))
theorem IMap.lookOk (hg : o.guard = none) (mo x : Operand) (t e : TypeId) (hop : o.op = Op.lookup t mo x true) (K : Keyed Try.prog kt) (ht : Try.prog.underlying t = some (.map kt e)) {z : Value} (hz : ∀ w, (zeroValue e).run Try.prog w = .ok z w)
    (hm : a.eval mo = .map (some b)) (h : IMap w kt b n enc m) (k : Int) (hx : a.eval x = .int .i64 k) (hk : (Lit.int .i64 k).wf = true) (hkey : keyOf Try.prog kt (.int .i64 k) = some (.int .i64 k))
    (hK : ∀ v, v = (match m k with | some x => enc x | none => z) → wpList Try.prog ops Q rest (a.put o.dst (.tuple #[v, .bool (m k).isSome])) w) : wpList Try.prog ops Q (o :: rest) a w := by
  obtain ⟨D, ho, hi, hD⟩ := h
  refine wpList_lookup_own_ok (H := Value) w hg mo x t hop kt e K ht tokR (hz w) (.held z) [] rfl b n D hm ho (.int .i64 k) (.int .i64 k) hx hkey fun v ps hv => ?_
  rw [(hD k hk).1]
  exact hK v (IMap.at_ hD hk hv)
theorem IMap.store (hg : o.guard = none) (mo x v : Operand) (t e : TypeId) (hop : o.op = Op.mapUpdate t mo x v) (K : Keyed Try.prog kt) (ht : Try.prog.underlying t = some (.map kt e))
    (hm : a.eval mo = .map (some b)) (h : IMap w kt b n enc m) (hn : n < maxLen) (k : Int) (y : α) (hx : a.eval x = .int .i64 k) (hv : a.eval v = enc y) (hk : (Lit.int .i64 k).wf = true) (hkey : keyOf Try.prog kt (.int .i64 k) = some (.int .i64 k))
    (hK : ∀ w', IMap w' kt b (n + 1) enc (upd m k y) → w.grownBy w' (some b) → wpList Try.prog ops Q rest (a.put o.dst undef) w') : wpList Try.prog ops Q (o :: rest) a w := by
  obtain ⟨D, ho, hi, hD⟩ := h
  refine wpList_mapUpdate_own (H := Value) w hg mo x v t hop kt e K ht tokR b n D hm ho hn (.int .i64 k) (enc y) (.int .i64 k) hx hv hkey (.held (enc y)) [] rfl fun w' h1 h2 => hK w' ⟨_, h1, ?_, fun j hj => ?_⟩ h2
  · obtain ⟨es, rfl⟩ := hi
    exact ⟨_, rfl⟩
  · unfold upd
    by_cases hjk : j = k
    · subst hjk
      rw [if_pos rfl]
      refine ⟨Maps.has_put_same hi (by trivial) _, fun x hx z => ?_⟩
      injection hx with hx
      subst hx
      exact Maps.atKey_put_same hi (by trivial) _ z
    · rw [if_neg hjk]
      have hne : (Lit.int .i64 j : Lit) ≠ .int .i64 k := fun e => hjk (by injection e)
      rw [Maps.has_put_other hne]
      exact ⟨(hD j hj).1, fun x hx z => by rw [Maps.atKey_put_other hne]; exact (hD j hj).2 x hx z⟩
end
end Go.Proofs.Ytcpenjbgiecgnaa
