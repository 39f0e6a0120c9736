import Derived.Test.YtaghdopickgpgaaDoorOCall
import Derived.Maps.OwnSet
import Derived.Maps.Views
import Derived.Maps.Keyed
import Derived.Maps.RangeWalk
import Derived.Sort.KeysCollected
namespace Go.Proofs.YtaghdopickgpgaaDoor
open Go Go.RowKit
open Go.Maps (Keyed IsMap Tidy)
open Go.WideShapes Go.ChangeMaps
set_option linter.unusedVariables false
set_option linter.unusedSimpArgs false
set_option maxRecDepth 100000

/-! A map from strings that the call has made: what it holds, as a list of names and elements, in whatever order. -/
/-- An element is read as itself. -/
def tokS (v : Value) : Option (DataW Value × List MemPlace) := some (.held v, [])
def klit (s : ByteArray) : Lit := .string s.data.toList
theorem klit_inj {a b : ByteArray} (h : klit a = klit b) : a = b := by
  unfold klit at h
  injection h with h
  exact ByteArray.ext (Array.toList_inj.1 h)
theorem klit_same (a b : ByteArray) : (klit a).sameKey (klit b) = decide (a = b) := by
  by_cases h : a = b
  · subst h
    rw [decide_eq_true rfl]
    exact WideAt.sameKey_self (by trivial)
  · rw [decide_eq_false h]
    exact Maps.sameKey_ne (fun e => h (klit_inj e))
section
variable {α : Type}
def lits (enc : α → Value) (l : List (ByteArray × α)) : List (Lit × DataW Value) := l.map fun p => (klit p.1, .held (enc p.2))
def look (l : List (ByteArray × α)) (k : ByteArray) : Option α := (l.find? fun p => decide (p.1 = k)).map (·.2)
def sans (l : List (ByteArray × α)) (k : ByteArray) : List (ByteArray × α) := l.filter fun p => !decide (p.1 = k)
def SMap (w : World) (kt b : Nat) (enc : α → Value) (l : List (ByteArray × α)) : Prop :=
  ∃ es, w.ownsMap Tryd.prog kt tokS b l.length (.map es) ∧ es.Perm (lits enc l)
variable {w w' : World} {kt b n : Nat} {enc : α → Value} {l l' : List (ByteArray × α)}
theorem lits_length : (lits enc l).length = l.length := List.length_map ..
theorem lits_sans (k : ByteArray) : (lits enc l).filter (ChangeMaps.notKey (klit k)) = lits enc (sans l k) := by
  unfold lits sans
  rw [List.filter_map]
  congr 1
  refine List.filter_congr fun p _ => ?_
  show (!(klit p.1).sameKey (klit k)) = _
  rw [klit_same]
theorem owns_tight {D : DataW Value} (h : w.ownsMap Tryd.prog kt tokS b n D) : w.ownsMap Tryd.prog kt tokS b (Maps.size D) D := by
  obtain ⟨es, clock, hb, F, hs, rfl⟩ := h
  exact ⟨es, clock, hb, F, by simp [Maps.size, length_sorted], rfl⟩
theorem SMap.of_owns {es : List (Lit × DataW Value)} (h : w.ownsMap Tryd.prog kt tokS b n (.map es)) (hp : es.Perm (lits enc l)) : SMap w kt b enc l := by
  refine ⟨es, ?_, hp⟩
  have := owns_tight h
  rwa [show Maps.size (.map es) = l.length by rw [Maps.size_eq, hp.length_eq, lits_length]] at this
theorem SMap.made (w : World) (kt : Nat) (enc : α → Value) : SMap (w.alloc (.map #[] 0)) kt w.heap.size enc [] := ⟨[], World.ownsMap_made .., .nil⟩
theorem SMap.lt (h : SMap w kt b enc l) : b < w.heap.size := by obtain ⟨D, h, _⟩ := h; exact h.lt
theorem SMap.kept {S : Nat → Prop} (h : SMap w kt b enc l) (hk : Kept w w' S) (hn : ¬ S b) : SMap w' kt b enc l := by
  obtain ⟨D, ho, hi⟩ := h
  obtain ⟨es, clock, hh, rest⟩ := ho
  exact ⟨D, ⟨es, clock, (hk.block b (Array.getElem?_eq_some_iff.1 hh).1 hn).trans hh, rest⟩, hi⟩
theorem SMap.alloc (h : SMap w kt b enc l) (o : Obj) : SMap (w.alloc o) kt b enc l := h.kept ((Kept.refl w (fun _ => False)).alloc o) (fun h => h)
theorem SMap.drewN (h : SMap w kt b enc l) (q : Nat) : SMap (w.drewN q) kt b enc l := h.kept ((Kept.refl w (fun _ => False)).drewN q) (fun h => h)
theorem SMap.perm (h : SMap w kt b enc l) (hp : l.Perm l') : SMap w kt b enc l' := by
  obtain ⟨es, ho, hi⟩ := h
  exact .of_owns ho (hi.trans (hp.map _))
theorem SMap.nodup (h : SMap w kt b enc l) (K : Keyed Tryd.prog kt) : l.Pairwise fun p q => p.1 ≠ q.1 := by
  obtain ⟨es, ho, hi⟩ := h
  obtain ⟨es', he, hp, _⟩ := ho.entries K
  injection he with he
  subst he
  have := (hi.pairwise_iff (fun {_ _} hne => Ne.symm hne)).1 hp
  unfold lits at this
  rw [List.pairwise_map] at this
  exact this.imp fun {p q} hne e => hne (by rw [e])
theorem SMap.has {es : List (Lit × DataW Value)} (hi : es.Perm (lits enc l)) (k : ByteArray) : Maps.has (.map es) (klit k) = (look l k).isSome := by
  have e1 : es.any (fun p => p.1.sameKey (klit k)) = (lits enc l).any (fun p => p.1.sameKey (klit k)) := by
    rw [Bool.eq_iff_iff, List.any_eq_true, List.any_eq_true]
    exact ⟨fun ⟨p, hp, e⟩ => ⟨p, hi.mem_iff.1 hp, e⟩, fun ⟨p, hp, e⟩ => ⟨p, hi.mem_iff.2 hp, e⟩⟩
  rw [Maps.has_eq, e1]
  unfold lits look
  rw [List.any_map, Option.isSome_map, List.isSome_find?]
  congr 1
  funext p
  exact klit_same p.1 k
theorem look_mem {k : ByteArray} {x : α} (h : look l k = some x) : (k, x) ∈ l := by
  unfold look at h
  obtain ⟨p, hp, rfl⟩ := Option.map_eq_some_iff.1 h
  have h1 := List.mem_of_find?_eq_some hp
  have h2 : decide (p.1 = k) = true := by have := List.find?_some hp; exact this
  have h2 := of_decide_eq_true h2
  subst h2
  exact h1
theorem SMap.at_ {es : List (Lit × DataW Value)} (h : w.ownsMap Tryd.prog kt tokS b n (.map es)) (K : Keyed Tryd.prog kt) (hi : es.Perm (lits enc l)) {v z : Value} {ps : List MemPlace} {k : ByteArray} (hv : tokS v = some ((DataW.map es).atKey (klit k) (.held z), ps)) : v = match look l k with | some x => enc x | none => z := by
  unfold tokS at hv
  injection hv with hv
  injection hv with hv _
  cases hm : look l k with
  | some x =>
    obtain ⟨es', he, hp, _⟩ := h.entries K
    injection he with he
    subst he
    rw [WideAt.atKey_mem _ (by trivial) hp (hi.mem_iff.2 (List.mem_map.2 ⟨_, look_mem hm, rfl⟩))] at hv
    injection hv
  | none =>
    have hh := SMap.has (enc := enc) hi k
    rw [hm] at hh
    rw [Maps.atKey_of_not_has hh] at hv
    injection hv
theorem SMap.put_ {es : List (Lit × DataW Value)} (hi : es.Perm (lits enc l)) (k : ByteArray) (x : α) (ho : w.ownsMap Tryd.prog kt tokS b n ((DataW.map es).put (klit k) (.held (enc x)))) : SMap w kt b enc ((k, x) :: sans l k) := by
  rw [DataW.put_eq] at ho
  refine .of_owns ho ?_
  unfold ChangeMaps.putKey
  refine (insert_perm _ _).trans ?_
  show List.Perm _ ((klit k, .held (enc x)) :: lits enc (sans l k))
  rw [← lits_sans]
  exact .cons _ (hi.filter _)
theorem SMap.del_ {es : List (Lit × DataW Value)} (hi : es.Perm (lits enc l)) (k : ByteArray) (ho : w.ownsMap Tryd.prog kt tokS b n ((DataW.map es).del (klit k))) : SMap w kt b enc (sans l k) := by
  rw [DataW.del_eq] at ho
  refine .of_owns ho ?_
  unfold ChangeMaps.delKey
  rw [← lits_sans]
  exact hi.filter _
theorem SMap.keys {es : List (Lit × DataW Value)} (hi : es.Perm (lits enc l)) : (strKeys (DataW.map es)).Perm (l.map fun p => p.1.data.toList) := by
  have := hi.map fun p : Lit × DataW Value => strOf p.1
  unfold lits at this
  rw [List.map_map] at this
  exact this
end
section
variable {α : Type} {w : World} {kt b : Nat} {enc : α → Value} {l : List (ByteArray × α)} {ops : Array Oper} {rest : List Oper} {o : Oper} {a : Act} {Q : Exit → Act → World → Prop}
theorem SMap.look_ (hg : o.guard = none) (mo x : Operand) (t e : TypeId) (hop : o.op = Op.lookup t mo x false) (hk : Tryd.prog.underlying kt = some .string) (ht : Tryd.prog.underlying t = some (.map kt e)) {z : Value} (hz : ∀ w, (zeroValue e).run Tryd.prog w = .ok z w)
    (hm : a.eval mo = .map (some b)) (h : SMap w kt b enc l) (k : ByteArray) (hx : a.eval x = .string k) (hs : k.size ≤ maxLen)
    (hK : ∀ v, v = (match look l k with | some x => enc x | none => z) → wpList Tryd.prog ops Q rest (a.put o.dst v) w) : wpList Tryd.prog ops Q (o :: rest) a w := by
  obtain ⟨es, ho, hi⟩ := h
  refine wpList_plain hg fun K' hK' => ?_
  obtain ⟨v, ps, hrun, hv⟩ := ho.lookup (Maps.string_keyed hk) ht (hz w) (zd := .held z) (zp := []) rfl (WideMaps.keyOf_string_mk hk hs)
  unfold Oper.wp
  simp [execOp, hop, hm, hx, hrun, Result.andThen]
  exact hK' _ _ (hK v (SMap.at_ ho (Maps.string_keyed hk) hi hv))
theorem SMap.lookOk (hg : o.guard = none) (mo x : Operand) (t e : TypeId) (hop : o.op = Op.lookup t mo x true) (hk : Tryd.prog.underlying kt = some .string) (ht : Tryd.prog.underlying t = some (.map kt e)) {z : Value} (hz : ∀ w, (zeroValue e).run Tryd.prog w = .ok z w)
    (hm : a.eval mo = .map (some b)) (h : SMap w kt b enc l) (k : ByteArray) (hx : a.eval x = .string k) (hs : k.size ≤ maxLen)
    (hK : ∀ v, v = (match look l k with | some x => enc x | none => z) → wpList Tryd.prog ops Q rest (a.put o.dst (.tuple #[v, .bool (look l k).isSome])) w) : wpList Tryd.prog ops Q (o :: rest) a w := by
  obtain ⟨es, ho, hi⟩ := h
  refine wpList_lookup_own_ok (H := Value) w hg mo x t hop kt e (Maps.string_keyed hk) ht tokS (hz w) (.held z) [] rfl b _ (.map es) hm ho (.string k) (klit k) hx (WideMaps.keyOf_string_mk hk hs) fun v ps hv => ?_
  rw [SMap.has hi]
  exact hK v (SMap.at_ ho (Maps.string_keyed hk) hi hv)
theorem SMap.store (hg : o.guard = none) (mo x v : Operand) (t e : TypeId) (hop : o.op = Op.mapUpdate t mo x v) (hk : Tryd.prog.underlying kt = some .string) (ht : Tryd.prog.underlying t = some (.map kt e))
    (hm : a.eval mo = .map (some b)) (h : SMap w kt b enc l) (hn : l.length < maxLen) (k : ByteArray) (y : α) (hx : a.eval x = .string k) (hs : k.size ≤ maxLen) (hv : a.eval v = enc y)
    (hK : ∀ w', SMap w' kt b enc ((k, y) :: sans l k) → w.grownBy w' (some b) → wpList Tryd.prog ops Q rest (a.put o.dst undef) w') : wpList Tryd.prog ops Q (o :: rest) a w := by
  obtain ⟨es, ho, hi⟩ := h
  exact wpList_mapUpdate_own (H := Value) w hg mo x v t hop kt e (Maps.string_keyed hk) ht tokS b _ (.map es) hm ho hn (.string k) (enc y) (klit k) hx hv (WideMaps.keyOf_string_mk hk hs) (.held (enc y)) [] rfl fun w' h1 h2 => hK w' (SMap.put_ hi k y h1) h2
theorem SMap.delete_ (hg : o.guard = none) (mo x : Operand) (t e : TypeId) (hop : o.op = Op.call { callee := Callee.builtin Builtin.delete, args := #[mo, x], argTypes := #[t, kt] }) (hk : Tryd.prog.underlying kt = some .string) (ht : Tryd.prog.underlying t = some (.map kt e))
    (hm : a.eval mo = .map (some b)) (h : SMap w kt b enc l) (k : ByteArray) (hx : a.eval x = .string k) (hs : k.size ≤ maxLen)
    (hK : ∀ w', SMap w' kt b enc (sans l k) → w.grownBy w' (some b) → wpList Tryd.prog ops Q rest (a.put o.dst (.tuple #[])) w') : wpList Tryd.prog ops Q (o :: rest) a w := by
  obtain ⟨es, ho, hi⟩ := h
  exact wpList_delete_own (H := Value) w hg mo x t kt hop e (Maps.string_keyed hk) ht tokS b _ (.map es) hm ho (.string k) (klit k) hx (WideMaps.keyOf_string_mk hk hs) fun w' h1 h2 => hK w' (SMap.del_ hi k h1) h2.grown
theorem SMap.len_ (hg : o.guard = none) (mo : Operand) (t e : TypeId) (hop : o.op = Op.call { callee := Callee.builtin Builtin.len, args := #[mo], argTypes := #[t] }) (ht : Tryd.prog.underlying t = some (.map kt e))
    (hm : a.eval mo = .map (some b)) (h : SMap w kt b enc l) (hK : wpList Tryd.prog ops Q rest (a.put o.dst (.int .i64 l.length)) w) : wpList Tryd.prog ops Q (o :: rest) a w := by
  obtain ⟨es, ho, hi⟩ := h
  refine wpList_len_own (H := Value) w hg mo t hop kt e ht tokS b _ (.map es) hm ho ?_
  rw [Maps.size_eq, hi.length_eq, lits_length]
  exact hK
/-! The same as equations on an operation's run, for regions that draw their order. -/
theorem SMap.look_run {t e : TypeId} (hk : Tryd.prog.underlying kt = some .string) (ht : Tryd.prog.underlying t = some (.map kt e)) {z : Value} (hz : ∀ w, (zeroValue e).run Tryd.prog w = .ok z w) (h : SMap w kt b enc l) (k : ByteArray) (hs : k.size ≤ maxLen) :
    (Instr.lookup t (.map (some b)) (.string k) false).run Tryd.prog w = .ok (match look l k with | some x => enc x | none => z) w := by
  obtain ⟨es, ho, hi⟩ := h
  obtain ⟨v, ps, hrun, hv⟩ := ho.lookup (Maps.string_keyed hk) ht (hz w) (zd := .held z) (zp := []) rfl (WideMaps.keyOf_string_mk hk hs)
  rw [hrun, SMap.at_ ho (Maps.string_keyed hk) hi hv]
theorem SMap.lookOk_run {t e : TypeId} (hk : Tryd.prog.underlying kt = some .string) (ht : Tryd.prog.underlying t = some (.map kt e)) {z : Value} (hz : ∀ w, (zeroValue e).run Tryd.prog w = .ok z w) (h : SMap w kt b enc l) (k : ByteArray) (hs : k.size ≤ maxLen) :
    (Instr.lookup t (.map (some b)) (.string k) true).run Tryd.prog w = .ok (.tuple #[(match look l k with | some x => enc x | none => z), .bool (look l k).isSome]) w := by
  obtain ⟨es, ho, hi⟩ := h
  obtain ⟨v, ps, hrun, hv⟩ := ho.look_ok (Maps.string_keyed hk) ht (hz w) (zd := .held z) (zp := []) rfl (WideMaps.keyOf_string_mk hk hs)
  rw [hrun, SMap.at_ ho (Maps.string_keyed hk) hi hv]
  rw [show (Lit.string k.data.toList) = klit k from rfl, SMap.has hi]
theorem SMap.store_run {t e : TypeId} (hk : Tryd.prog.underlying kt = some .string) (ht : Tryd.prog.underlying t = some (.map kt e)) (h : SMap w kt b enc l) (hn : l.length < maxLen) (k : ByteArray) (hs : k.size ≤ maxLen) (y : α) :
    ∃ w', (Instr.mapUpdate t (.map (some b)) (.string k) (enc y)).run Tryd.prog w = .ok () w' ∧ SMap w' kt b enc ((k, y) :: sans l k) ∧ w.grownBy w' (some b) ∧ w'.heap.size = w.heap.size := by
  obtain ⟨es, ho, hi⟩ := h
  obtain ⟨w', hrun, h1, h2⟩ := ho.store (Maps.string_keyed hk) ht hn (WideMaps.keyOf_string_mk hk hs) (val := enc y) (d := .held (enc y)) (ps := []) rfl
  refine ⟨w', hrun, SMap.put_ hi k y h1, h2.grown, ?_⟩
  obtain ⟨_, _, _, _, _, rfl⟩ := h2
  simp [setBlock]
theorem SMap.del_run {t e ty : TypeId} (hk : Tryd.prog.underlying kt = some .string) (ht : Tryd.prog.underlying t = some (.map kt e)) (h : SMap w kt b enc l) (k : ByteArray) (hs : k.size ≤ maxLen) :
    ∃ w', (Builtin.delete_ #[t, kt] ty #[.map (some b), .string k]).run Tryd.prog w = .ok (.tuple #[]) w' ∧ SMap w' kt b enc (sans l k) ∧ w.grownBy w' (some b) ∧ w'.heap.size = w.heap.size := by
  obtain ⟨es, ho, hi⟩ := h
  obtain ⟨w', hrun, h1, h2⟩ := ho.drop (Maps.string_keyed hk) ht (WideMaps.keyOf_string_mk hk hs) ty
  refine ⟨w', hrun, SMap.del_ hi k h1, h2.grown, ?_⟩
  obtain ⟨_, _, _, _, _, rfl⟩ := h2
  simp [setBlock]
theorem SMap.len_run {t e ty : TypeId} (ht : Tryd.prog.underlying t = some (.map kt e)) (h : SMap w kt b enc l) : (Builtin.len_ #[t] ty #[.map (some b)]).run Tryd.prog w = .ok (.int .i64 l.length) w := by
  obtain ⟨es, ho, hi⟩ := h
  rw [ho.len ht ty, Maps.size_eq, hi.length_eq, lits_length]
end
end Go.Proofs.YtaghdopickgpgaaDoor
