import Derived.Test.YtcpenjbgiecgnaaBkR
import Derived.DeepKeys5
import Derived.WideKeyEntry
namespace Go.Proofs.Ytcpenjbgiecgnaa
open Go Go.RowKit
open Go.Maps (Keyed IsMap)
set_option linter.unusedVariables false
set_option linter.unusedSimpArgs false
set_option maxRecDepth 100000

/-! A map from pairs of whole numbers to whole numbers. -/
theorem laidOutK : laidOutB Try.prog = true := by kernel_rfl
theorem keyLawK : WideMaps.KeyLaw Try.prog 31 := deep_law_gate laidOutK (by decide +kernel) (by decide +kernel) (by kernel_rfl) (by kernel_rfl)
theorem keyedK : Keyed Try.prog 31 := .of_law keyLawK
def kval (k : Int × Int) : Value := .agg #[.int .i64 k.1, .int .i64 k.2]
def klit (k : Int × Int) : Lit := .string (keyBytes [.int .i64 k.1, .int .i64 k.2])
def kwf (k : Int × Int) : Prop := (Lit.int .i64 k.1).wf = true ∧ (Lit.int .i64 k.2).wf = true
theorem keyOf_k {k : Int × Int} (h : kwf k) : keyOf Try.prog 31 (kval k) = some (klit k) := by
  obtain ⟨h1, h2⟩ := h
  have hS := Try.underlying31
  have hk : Try.prog.keyType 31 = true := by decide +kernel
  have u3 := Try.underlying3
  have z3 : Try.prog.cellsOf 3 = 1 := by decide +kernel
  have z31 : Try.prog.cellsOf 31 = 2 := by decide +kernel
  have hn : Try.prog.types.size = (Try.prog.types.size - 1) + 1 := by decide +kernel
  have hfm : (kval k).formed Try.prog 31 = true := by
    unfold kval
    simp [Value.formed, hS, z31]
  have hl : Try.prog.keyLits (Try.prog.types.size + 1) 31 [.int .i64 k.1, .int .i64 k.2] = some [.int .i64 k.1, .int .i64 k.2] := by
    obtain ⟨N, hN⟩ : ∃ N, Try.prog.types.size = N + 1 := ⟨_, hn⟩
    rw [hN]
    simp [Program.keyLits, hS, z31, z3, u3, h1, h2]
  unfold keyOf
  rw [hS]
  simp only [hk, hfm, Bool.and_self, if_true]
  show ((Try.prog.keyLits (Try.prog.types.size + 1) 31 [.int .i64 k.1, .int .i64 k.2]).map fun ls => (Lit.string (keyBytes ls))) = _
  rw [hl]
  rfl
theorem klit_inj {a b : Int × Int} (ha : kwf a) (hb : kwf b) (h : klit a = klit b) : a = b := by
  have h1 := keyOf_k ha
  have h2 := keyOf_k hb
  rw [h] at h1
  have := keyedK.inj h1 h2
  unfold kval at this
  injection this with this
  have e := congrArg Array.toList this
  simp only [List.cons.injEq, Value.int.injEq, true_and, and_true] at e
  exact Prod.ext e.1 e.2
def KMap (w : World) (b n : Nat) (f : Int × Int → Option Int) : Prop :=
  ∃ D : DataW Value, w.ownsMap Try.prog 31 tokR b n D ∧ IsMap D ∧ ∀ k, kwf k → Maps.has D (klit k) = (f k).isSome ∧ ∀ x, f k = some x → ∀ z, D.atKey (klit k) z = .held (.int .i64 x)
def updK (f : Int × Int → Option Int) (k : Int × Int) (x : Int) : Int × Int → Option Int := fun j => if j = k then some x else f j
section
variable {w w' : World} {b n : Nat} {f : Int × Int → Option Int} {k : Int × Int}
theorem KMap.made (w : World) : KMap (w.alloc (.map #[] 0)) w.heap.size 0 (fun _ => none) := ⟨.map [], World.ownsMap_made .., ⟨_, rfl⟩, fun k _ => ⟨rfl, fun x h => by cases h⟩⟩
theorem KMap.lt (h : KMap w b n f) : b < w.heap.size := by obtain ⟨D, h, _⟩ := h; exact h.lt
theorem KMap.of_block (h : KMap w b n f) (e : w'.heap[b]? = w.heap[b]?) : KMap w' b n f := by
  obtain ⟨D, ⟨es, clock, hh, rest⟩, hi⟩ := h
  exact ⟨D, ⟨es, clock, e.trans hh, rest⟩, hi⟩
theorem KMap.kept {S : Nat → Prop} (h : KMap w b n f) (hk : Kept w w' S) (hn : ¬ S b) : KMap w' b n f := h.of_block (hk.block b h.lt hn)
theorem zero_int : ∀ w : World, (zeroValue 3).run Try.prog w = .ok (.int .i64 0) w := fun w => by kernel_rfl
theorem KMap.look (h : KMap w b n f) (hk : kwf k) : (Instr.lookup 45 (.map (some b)) (kval k) false).run Try.prog w = .ok (.int .i64 ((f k).getD 0)) w := by
  obtain ⟨D, ho, hi, hD⟩ := h
  obtain ⟨v, ps, hrun, hv⟩ := ho.lookup keyedK Try.underlying45 (zero_int w) (zd := .held (.int .i64 0)) (zp := []) rfl (keyOf_k hk)
  rw [hrun]
  unfold tokR at hv
  injection hv with hv
  injection hv with hv _
  cases hm : f k with
  | some x =>
    rw [(hD k hk).2 x hm] at hv
    injection hv with hv
    rw [hv]
    rfl
  | none =>
    have hh := (hD k hk).1
    rw [hm] at hh
    rw [Maps.atKey_of_not_has hh] at hv
    injection hv with hv
    rw [hv]
    rfl
theorem KMap.store (h : KMap w b n f) (hn : n < maxLen) (hk : kwf k) (y : Int) : ∃ w', (Instr.mapUpdate 45 (.map (some b)) (kval k) (.int .i64 y)).run Try.prog w = .ok () w' ∧ KMap w' b (n + 1) (updK f k y) ∧ Kept w w' (fun j => j = b) := by
  obtain ⟨D, ho, hi, hD⟩ := h
  obtain ⟨w', hrun, r1, r2⟩ := ho.update keyedK Try.underlying45 hn (keyOf_k hk) (d := .held (.int .i64 y)) (ps := []) rfl
  refine ⟨w', hrun, ⟨_, r1, ?_, fun j hj => ?_⟩, ⟨r2.os, r2.tape, r2.output, r2.size, fun k hk hn => r2.block k hk (fun e => hn (by injection e))⟩⟩
  · obtain ⟨es, rfl⟩ := hi
    exact ⟨_, rfl⟩
  · unfold updK
    by_cases hjk : j = k
    · subst hjk
      rw [if_pos rfl]
      refine ⟨Maps.has_put_same hi (by trivial) _, fun x hx z => ?_⟩
      injection hx with hx
      subst hx
      exact Maps.atKey_put_same hi (by trivial) _ z
    · rw [if_neg hjk]
      have hne : klit j ≠ klit k := fun e => hjk (klit_inj hj hk e)
      rw [Maps.has_put_other hne]
      exact ⟨(hD j hj).1, fun x hx z => by rw [Maps.atKey_put_other hne]; exact (hD j hj).2 x hx z⟩
open Go.WideElems Go.MapKept Go.ChangeMaps in
/-- mapEntry, then entryStore. -/
theorem KMap.entry (h : KMap w b n f) (hn : n < maxLen) (hk : kwf k) : ∃ (st : Nat) (w1 : World), (Instr.mapEntry 45 (.map (some b)) (kval k)).run Try.prog w = .ok (.tuple #[.int .i64 ((f k).getD 0), .int .i64 st]) w1 ∧ KMap w1 b (n + 1) (updK f k ((f k).getD 0)) ∧ Kept w w1 (fun j => j = b) ∧
    ∀ (w2 : World) (y : Int), w2.heap[b]? = w1.heap[b]? → ∃ w3, (Instr.entryStore 45 (.map (some b)) (.int .i64 st) (.int .i64 y)).run Try.prog w2 = .ok () w3 ∧ KMap w3 b (n + 1) (updK f k y) ∧ Kept w2 w3 (fun j => j = b) := by
  have hl := h.look hk
  have h0 := h
  obtain ⟨D, ⟨es, clock, hb, F, hs, hDD⟩, hi, hD⟩ := h
  have hkey := keyOf_k hk
  have ht := Try.underlying45
  obtain ⟨v0, st, es1, clock1, hr1, hv, hst⟩ := entry_then_store (R := tokR) keyLawK ht zero_int hb F hkey
  have hblt := (Array.getElem?_eq_some_iff.1 hb).1
  obtain ⟨ws, hrs, hKs, hks⟩ := h0.store hn hk ((f k).getD 0)
  have hcase : v0 = .int .i64 ((f k).getD 0) ∧ (Instr.mapUpdate 45 (.map (some b)) (kval k) v0).run Try.prog w = .ok () (setBlock w b (.map es1 clock1)) := by
    rcases keyedK.find w hkey es.toList F.keys with ⟨h1, h2⟩ | ⟨j, e0, h1, h2, h3⟩
    · have e1 : (Instr.mapEntry 45 (.map (some b)) (kval k)).run Try.prog w = .ok (.tuple #[.int .i64 0, goInt clock]) (setBlock w b (.map (es.push ⟨kval k, .int .i64 0, clock⟩) (clock + 1))) := by
        simp [Instr.mapEntry, run_underlying ht, MapKept.run_getObj_map hb, keyedK.check w false hkey, h1, zero_int, MapKept.run_setObj_map _ hb, Result.andThen, setBlock]
      have e2 : (Instr.mapUpdate 45 (.map (some b)) (kval k) (.int .i64 0)).run Try.prog w = .ok () (setBlock w b (.map (es.push ⟨kval k, .int .i64 0, clock⟩) (clock + 1))) := by
        simp [Instr.mapUpdate, run_underlying ht, MapKept.run_getObj_map hb, keyedK.check w false hkey, h1, MapKept.run_setObj_map _ hb, Result.andThen, setBlock]
      have e3 := hl
      simp [Instr.lookup, run_underlying ht, MapKept.run_getObj_map hb, keyedK.check w _ hkey, h1, zero_int w, Result.andThen] at e3
      have e4 := hr1.symm.trans e1
      injection e4 with e5 e6
      injection e5 with e5
      have e7 := congrArg Array.toList e5
      simp only [List.cons.injEq] at e7
      rw [e6, e7.1]
      exact ⟨by rw [← e3], e2⟩
    · have hj : es[j]? = some e0 := by simpa using h2
      have hsame : es.modify j (fun e => { e with key := kval k }) = es := by
        apply Array.ext'
        rw [Array.toList_modify, modify_eq_set _ _ _ _ h2]
        have : ({ e0 with key := kval k } : MapEntry) = e0 := by rw [← h3]
        rw [this]
        exact set_self _ _ _ h2
      have hsame2 : es.modify j (fun e' => { e' with key := kval k, val := e0.val }) = es := by
        apply Array.ext'
        rw [Array.toList_modify, modify_eq_set _ _ _ _ h2]
        have : ({ e0 with key := kval k, val := e0.val } : MapEntry) = e0 := by rw [← h3]
        rw [this]
        exact set_self _ _ _ h2
      have e1 : (Instr.mapEntry 45 (.map (some b)) (kval k)).run Try.prog w = .ok (.tuple #[e0.val, goInt e0.born]) (setBlock w b (.map es clock)) := by
        simp [Instr.mapEntry, run_underlying ht, MapKept.run_getObj_map hb, keyedK.check w false hkey, h1, hj, h3, keyedK.stays w hkey, hsame, MapKept.run_setObj_map _ hb, Result.andThen, setBlock]
      have e2 : (Instr.mapUpdate 45 (.map (some b)) (kval k) e0.val).run Try.prog w = .ok () (setBlock w b (.map es clock)) := by
        simp [Instr.mapUpdate, run_underlying ht, MapKept.run_getObj_map hb, keyedK.check w false hkey, h1, hj, h3, keyedK.stays w hkey, hsame2, MapKept.run_setObj_map _ hb, Result.andThen, setBlock]
      have e3 := hl
      simp [Instr.lookup, run_underlying ht, MapKept.run_getObj_map hb, keyedK.check w _ hkey, h1, Result.andThen] at e3
      have e4 := hr1.symm.trans e1
      injection e4 with e5 e6
      injection e5 with e5
      have e7 := congrArg Array.toList e5
      simp only [List.cons.injEq] at e7
      rw [e6, e7.1]
      exact ⟨e3, e2⟩
  obtain ⟨rfl, hup⟩ := hcase
  have hws := hrs.symm.trans hup
  injection hws with _ hws
  subst hws
  refine ⟨st, _, hr1, hKs, hks, fun w2 y hw2 => ?_⟩
  have hb1 : (setBlock w b (.map es1 clock1)).heap[b]? = some (.map es1 clock1) := heap_setBlock_same hb _
  obtain ⟨es', clock', hs1, hs2⟩ := hst w2 (.int .i64 y) (hw2.trans hb1)
  obtain ⟨wy, hry, hKy, hky⟩ := h0.store hn hk y
  have hwy := hry.symm.trans hs2
  injection hwy with _ hwy
  subst hwy
  refine ⟨_, hs1, hKy.of_block ?_, ⟨rfl, rfl, rfl, by simp [setBlock], fun i hi hn => heap_setBlock_other (hw2.trans hb1) _ hn⟩⟩
  rw [heap_setBlock_same (hw2.trans hb1), heap_setBlock_same hb]
end
end Go.Proofs.Ytcpenjbgiecgnaa
