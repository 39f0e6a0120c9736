import Derived.Test.YtaghdopickgpgaaDoorOStr
namespace Go.Proofs.YtaghdopickgpgaaDoor
open Go Go.RowKit
open Go.Maps (Keyed IsMap Tidy)
open Go.WideShapes Go.ChangeMaps Go.MapKept
open Go.WideElems (Fit rd rg pl rd_val elemAt rd_key rg_of rd_mk)
set_option linter.unusedVariables false
set_option linter.unusedSimpArgs false
set_option maxRecDepth 100000

/-! A store at a key that is there, while a range over the map is under way. -/
theorem ranges_store {H : Type} {P : Program} {k t e : TypeId} {R : Value → Option (DataW H × List MemPlace)} {w : World} {b r n : Nat} {D : DataW H} {left : Lit → Bool} {cnt : Nat} (h : w.ranges P k R b r n D left cnt) (K : Keyed P k) (ht : P.underlying t = some (.map k e)) (hn : n < maxLen)
    {key val : Value} {kl : Lit} {yv : DataW H × List MemPlace} (hkey : keyOf P k key = some kl) (hin : Maps.has D kl = true) (hv : R val = some yv) :
    ∃ w', (Instr.mapUpdate t (.map (some b)) key val).run P w = .ok () w' ∧ w'.ranges P k R b r n (D.put kl yv.1) left cnt ∧ w.grownBy w' (some b) ∧ w'.heap.size = w.heap.size := by
  have hne := h.ne
  obtain ⟨es, clock, since, seen, c0, hb, F, hs, rfl, hr, hold, rfl, hl1, hl2, hsc, hsk⟩ := h
  rcases K.find w hkey es.toList F.keys with ⟨h1, h2⟩ | ⟨j, e0, h1, h2, h3⟩
  · exfalso
    obtain ⟨p, hp, hpk⟩ := List.any_eq_true.1 hin
    obtain ⟨x, hx, rfl⟩ := List.mem_map.1 (mem_sorted.1 hp)
    have e1 := WideAt.sameKey_eq hpk
    obtain ⟨y, hy⟩ := F.reads x hx
    rw [rg_of hy] at e1
    exact h2 x hx (K.inj (e1 ▸ rd_key hy) hkey)
  · obtain ⟨es', clock', hrun, F', hput, _, _, _⟩ := Maps.fit_store (R' := R) K ht hb F (Nat.lt_of_le_of_lt hs hn) (fun _ _ _ _ hz => hz) hkey hv
    have hj : es[j]? = some e0 := by simpa using h2
    have hrun2 : (Instr.mapUpdate t (.map (some b)) key val).run P w = .ok () (setBlock w b (.map (es.modify j fun e' => { e' with key := key, val := val }) clock)) := by
      simp [Instr.mapUpdate, run_underlying ht, MapKept.run_getObj_map hb, K.check w false hkey, h1, hj, h3, K.stays w hkey, MapKept.run_setObj_map _ hb, Result.andThen, setBlock]
    have he := hrun.symm.trans hrun2
    injection he with _ he
    have he2 := congrArg (fun v : World => v.heap[b]?) he
    simp only [heap_setBlock_same hb] at he2
    injection he2 with he2
    injection he2 with he3 he4
    clear he
    subst he3
    cases he4
    have hlist : (es.modify j (fun e' => { e' with key := key, val := val })).toList = es.toList.set j { e0 with key := key, val := val } := by rw [Array.toList_modify, modify_eq_set _ _ _ _ h2]
    have hborn : (es.modify j (fun e' => { e' with key := key, val := val })).toList.map (·.born) = es.toList.map (·.born) := by
      rw [hlist, List.map_set]
      show (es.toList.map (·.born)).set j e0.born = _
      refine List.ext_getElem? fun i => ?_
      rw [List.getElem?_set]
      by_cases hi : j = i
      · subst hi
        rw [if_pos rfl]
        have hjl : j < es.toList.length := (List.getElem?_eq_some_iff.1 h2).1
        rw [if_pos (by rw [List.length_map]; exact hjl), List.getElem?_map, h2]
        rfl
      · rw [if_neg hi]
    have hleft : ∀ a : Array MapEntry, (leftOf a seen).size = ((a.toList.map (·.born)).filter fun x => !seen.contains x).length := fun a => by
      unfold leftOf
      rw [← Array.length_toList, Array.toList_filter, List.filter_map, List.length_map]
      rfl
    have he0 : e0 ∈ es.toList := List.mem_of_getElem? h2
    obtain ⟨y0, hy0⟩ := F.reads e0 he0
    have hk0 : (rg P k R e0).1 = kl := by
      have := rd_key hy0
      rw [h3, hkey] at this
      injection this with this
      rw [rg_of hy0, ← this]
    have hkn : (rg P k R { e0 with key := key, val := val }).1 = kl := by rw [rg_of (rd_mk hkey hv)]
    have who : ∀ x ∈ (es.modify j (fun e' => { e' with key := key, val := val })).toList, x = { e0 with key := key, val := val } ∨ x ∈ es.toList := by
      intro x hx
      rw [hlist] at hx
      rcases List.mem_or_eq_of_mem_set hx with hx | hx
      · exact .inr hx
      · exact .inl hx
    refine ⟨_, hrun, ⟨es.modify j (fun e' => { e' with key := key, val := val }), clock, since, seen, c0, heap_setBlock_same hb _, F', by simpa using hs, by rw [DataW.put_eq, hput], (heap_setBlock_other hb _ hne).trans hr, fun x hx => ?_, by rw [hleft, hleft, hborn], fun x hx => ?_, fun kl' hkl' => ?_, hsc, hsk⟩, ⟨rfl, rfl, rfl, by simp [setBlock], fun i _ hi => heap_setBlock_other hb _ (fun e => hi (by rw [e]))⟩, by simp [setBlock]⟩
    · rcases who x hx with rfl | hx
      · exact hold e0 he0
      · exact hold x hx
    · rcases who x hx with rfl | hx
      · rw [hkn, ← hk0]
        exact hl1 e0 he0
      · exact hl1 x hx
    · obtain ⟨x, hx, rfl⟩ := hl2 kl' hkl'
      by_cases hx0 : x = e0
      · subst hx0
        refine ⟨{ x with key := key, val := val }, ?_, by rw [hkn, hk0]⟩
        rw [hlist]
        exact List.mem_set (List.getElem?_eq_some_iff.1 h2).1 _
      · refine ⟨x, ?_, rfl⟩
        rw [hlist]
        obtain ⟨i, hi, hxi⟩ := List.getElem_of_mem hx
        have hij : j ≠ i := fun e1 => by
          subst e1
          rw [List.getElem?_eq_getElem hi] at h2
          injection h2 with h2
          exact hx0 (hxi ▸ h2)
        refine List.mem_iff_getElem.2 ⟨i, by rw [List.length_set]; exact hi, ?_⟩
        rw [List.getElem_set_ne hij]
        exact hxi

/-! A range over a map from strings, its elements turned one by one. -/
section
variable {α : Type}
def SRange (w : World) (kt b r : Nat) (enc : α → Value) (l : List (ByteArray × α)) (left : Lit → Bool) (cnt : Nat) : Prop :=
  ∃ es, w.ranges Tryd.prog kt tokS b r l.length (.map es) left cnt ∧ es.Perm (lits enc l)
variable {w w' : World} {kt b r cnt : Nat} {enc : α → Value} {l l' : List (ByteArray × α)} {left : Lit → Bool}
theorem SRange.smap (h : SRange w kt b r enc l left cnt) : SMap w kt b enc l := by
  obtain ⟨es, h, hi⟩ := h
  exact ⟨es, h.owns, hi⟩
theorem SRange.perm (h : SRange w kt b r enc l left cnt) (hp : l.Perm l') : SRange w kt b r enc l' left cnt := by
  obtain ⟨es, ho, hi⟩ := h
  rw [hp.length_eq] at ho
  exact ⟨es, ho, hi.trans (hp.map _)⟩
theorem SRange.kept {S : Nat → Prop} (h : SRange w kt b r enc l left cnt) (hk : Kept w w' S) (hb : ¬ S b) (hr : ¬ S r) : SRange w' kt b r enc l left cnt := by
  obtain ⟨es, ho, hi⟩ := h
  refine ⟨es, ?_, hi⟩
  obtain ⟨es', clock, since, seen, c0, h1, F, hs, hD, h2, rest⟩ := ho
  exact ⟨es', clock, since, seen, c0, (hk.block b (Array.getElem?_eq_some_iff.1 h1).1 hb).trans h1, F, hs, hD, (hk.block r (Array.getElem?_eq_some_iff.1 h2).1 hr).trans h2, rest⟩
theorem SRange.left_eq (h : SRange w kt b r enc l left cnt) : w.rangeLeft b r = cnt := by
  obtain ⟨es, ho, hi⟩ := h
  exact ho.left_eq
theorem SRange.ne (h : SRange w kt b r enc l left cnt) : r ≠ b := by
  obtain ⟨es, ho, hi⟩ := h
  exact ho.ne
variable {ops : Array Oper} {rest : List Oper} {o : Oper} {a : Act} {Q : Exit → Act → World → Prop}
theorem SMap.range_ (hg : o.guard = none) (mo : Operand) (t e : TypeId) (hop : o.op = Op.range t mo) (hk : Tryd.prog.underlying kt = some .string) (ht : Tryd.prog.underlying t = some (.map kt e)) (hm : a.eval mo = .map (some b)) (h : SMap w kt b enc l)
    (hK : ∀ w' left, SRange w' kt b w.heap.size enc l left l.length → (∀ p ∈ l, left (klit p.1) = true) → w.grownBy w' none → w'.heap.size = w.heap.size + 1 → wpList Tryd.prog ops Q rest (a.put o.dst (.pointer (some ⟨w.heap.size, 0, none⟩))) w') : wpList Tryd.prog ops Q (o :: rest) a w := by
  obtain ⟨es, ho, hi⟩ := h
  refine wpList_range_own (H := Value) w hg mo t hop kt e (Maps.string_keyed hk) ht tokS b _ (.map es) hm ho fun w' h1 h2 h3 => ?_
  rw [Maps.size_eq, hi.length_eq, lits_length] at h1
  refine hK w' _ ⟨es, h1, hi⟩ (fun p hp => ?_) h2 h3
  rw [SMap.has hi]
  unfold look
  rw [Option.isSome_map, List.isSome_find?, List.any_eq_true]
  exact ⟨p, hp, by simp⟩
theorem SRange.next_ (hg : o.guard = none) (it : Operand) (hop : o.op = Op.next it false) (hk : Tryd.prog.underlying kt = some .string) (hit : a.eval it = .pointer (some ⟨r, 0, none⟩)) (h : SRange w kt b r enc l left cnt)
    (hDone : cnt = 0 → (∀ kl, left kl = false) → wpList Tryd.prog ops Q rest (a.put o.dst (.tuple #[.bool false])) w)
    (hMore : ∀ (p : ByteArray × α) (w' : World) (cnt' : Nat), p ∈ l → p.1.size ≤ maxLen → left (klit p.1) = true → SRange w' kt b r enc l (fun z => left z && !z.sameKey (klit p.1)) cnt' → cnt' < cnt →
      w.grownBy w' (some r) → w'.heap.size = w.heap.size → (Instr.entry (.pointer (some ⟨r, 0, none⟩))).run Tryd.prog w' = .ok (.tuple #[.string p.1, enc p.2]) w' → wpList Tryd.prog ops Q rest (a.put o.dst (.tuple #[.bool true, .string p.1, enc p.2])) w') :
    wpList Tryd.prog ops Q (o :: rest) a w := by
  obtain ⟨es, ho, hi⟩ := h
  refine wpList_next_ranges (H := Value) w hg it hop kt (Maps.string_keyed hk) tokS Value.string (id : Value → Value) (fun key kl' hkk => by obtain ⟨x, rfl, _⟩ := Maps.keyOf_str hk hkk; exact ⟨_, rfl⟩) (fun v _ _ => ⟨v, rfl⟩) b r _ (.map es) left cnt hit ho hDone ?_
  intro x c kl' y w2 cnt2 hkk hlk hv hat hrg hlt hgr hsz hen
  obtain ⟨x', ex, rfl, hx'⟩ := Maps.keyOf_str hk hkk
  have hxx : x' = x.data.toList := by
    unfold encStr at ex
    injection ex with ex
    rw [ex]
  subst hxx
  have hhas := Maps.has_true_of_atKey hat
  rw [show (Lit.string x.data.toList) = klit x from rfl, SMap.has hi] at hhas
  obtain ⟨z, hz⟩ := Option.isSome_iff_exists.1 hhas
  have hc : c = enc z := by
    have e1 : tokS c = some ((DataW.map es).atKey (klit x) (.held (enc z)), y.2) := by
      rw [show (DataW.map es).atKey (klit x) (.held (enc z)) = y.1 from hat _]
      exact hv
    have := SMap.at_ ho.owns (Maps.string_keyed hk) hi e1
    rw [hz] at this
    exact this
  subst hc
  rw [Array.length_toList] at hx'
  exact hMore (x, z) w2 cnt2 (look_mem hz) hx' hlk ⟨es, hrg, hi⟩ hlt hgr hsz hen
theorem SRange.store_run {t e : TypeId} (hk : Tryd.prog.underlying kt = some .string) (ht : Tryd.prog.underlying t = some (.map kt e)) (h : SRange w kt b r enc l left cnt) (hn : l.length < maxLen) (k : ByteArray) (y : α) (hs : k.size ≤ maxLen) (hin : ∃ p ∈ l, p.1 = k) :
    ∃ w', (Instr.mapUpdate t (.map (some b)) (.string k) (enc y)).run Tryd.prog w = .ok () w' ∧ SRange w' kt b r enc (l.map fun p => if p.1 = k then (k, y) else p) left cnt ∧ w.grownBy w' (some b) ∧ w'.heap.size = w.heap.size := by
  have hnd := h.smap.nodup (Maps.string_keyed hk)
  obtain ⟨es, ho, hi⟩ := h
  have hhas : Maps.has (.map es) (klit k) = true := by
    rw [SMap.has hi]
    unfold look
    rw [Option.isSome_map, List.isSome_find?, List.any_eq_true]
    obtain ⟨p, hp, e1⟩ := hin
    exact ⟨p, hp, decide_eq_true e1⟩
  obtain ⟨w', hrun, h1, h2, h3⟩ := ranges_store ho (Maps.string_keyed hk) ht hn (key := .string k) (val := enc y) (kl := klit k) (yv := (.held (enc y), [])) (WideMaps.keyOf_string_mk hk hs) hhas rfl
  refine ⟨w', hrun, ⟨putKey (klit k) (.held (enc y)) es, ?_, ?_⟩, h2, h3⟩
  · rw [List.length_map]
    exact h1
  · unfold putKey
    refine (insert_perm _ _).trans ?_
    refine (List.Perm.cons _ (hi.filter _)).trans ?_
    rw [lits_sans]
    show (lits enc ((k, y) :: sans l k)).Perm (lits enc _)
    refine List.Perm.map _ ?_
    clear hi ho h1 hhas hrun h2 h3
    induction l with
    | nil => obtain ⟨p, hp, _⟩ := hin; cases hp
    | cons p l ih =>
      obtain ⟨hp1, hp2⟩ := List.pairwise_cons.1 hnd
      by_cases hpk : p.1 = k
      · have e1 : sans (p :: l) k = l := by
          unfold sans
          rw [List.filter_cons_of_neg (by simp [hpk])]
          exact List.filter_eq_self.2 fun q hq => by have := hp1 q hq; rw [hpk] at this; simp [Ne.symm this]
        have e2 : (l.map fun p => if p.1 = k then (k, y) else p) = l := by
          conv => rhs; rw [← List.map_id l]
          refine List.map_congr_left fun q hq => ?_
          have := hp1 q hq
          rw [hpk] at this
          rw [if_neg (Ne.symm this)]
          rfl
        rw [e1, List.map_cons, if_pos hpk, e2]
      · have e1 : sans (p :: l) k = p :: sans l k := by
          unfold sans
          rw [List.filter_cons_of_pos (by simp [hpk])]
        rw [e1, List.map_cons, if_neg hpk]
        refine (List.Perm.swap _ _ _).trans (.cons _ (ih (by simpa using Nat.lt_of_succ_lt hn) ?_ hp2))
        obtain ⟨q, hq, e2⟩ := hin
        rcases List.mem_cons.1 hq with rfl | hq
        · exact absurd e2 hpk
        · exact ⟨q, hq, e2⟩
end
end Go.Proofs.YtaghdopickgpgaaDoor
