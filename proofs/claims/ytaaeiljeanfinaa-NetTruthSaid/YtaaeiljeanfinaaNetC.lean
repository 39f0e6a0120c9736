import Derived.Test.YtaaeiljeanfinaaNetB
import Derived.WalkSpells
namespace Go.Proofs.Ytaaeiljeanfinaa
open Go Go.RowKit
set_option linter.unusedVariables false
set_option linter.unusedSimpArgs false

set_option maxHeartbeats 4000000 in
set_option maxRecDepth 1000000 in
theorem delfunc_pairs (v : Value) (l : List Pr) (gf : Nat) (lb : Array Value) (p : Pr → Bool) (w : World) (hr : Row w 69 2 Pr.cells v l) (hl : l.length ≤ 4611686018427387904)
    (hp : Says (fun k => v.ownBlock = some k) gf lb Pr.val p w) (eg : ∀ args w, (callFunc gf args).run Try.prog w = .ok (.enter gf args) w) :
    Calls Try.prog 30 #[v, .func (.func gf) #[] lb] w fun e w' => ∃ v', e = .returned v' ∧ Row w' 69 2 Pr.cells v' (l.filter fun x => !p x) ∧ Kept w w' (fun k => v.ownBlock = some k) ∧ v'.ownBlock = v.ownBlock := by
  have hI := idx_pairs _ v l gf lb p w hr hl hp eg
  rcases idx_spec p l with ⟨hi, ha⟩ | ⟨k0, hk0, hi, hb⟩
  · rw [hi] at hI
    have hf : (l.filter fun x => !p x) = l := List.filter_eq_self.2 (fun x hx => by rw [ha x hx]; rfl)
    rw [hf]
    have HR := Lib.hid hr
    clear hr hf hi ha hp
    go_enter Try.func30, Try.ntmps30
    go_wp2_with (fail)
    refine hI.mono ?_
    rintro e w1 ⟨rfl, hb1⟩
    go_wp2
    go_ret
    exact ⟨_, rfl, HR.out.kept (S := fun _ => False) (Kept.of_below hb1 _) (fun _ _ h => h), Kept.of_below hb1 _, rfl⟩
  · rw [hi] at hI
    obtain ⟨g, c, rfl, hgl, hcl⟩ := hr.form (by omega)
    have HR := Lib.hid hr
    have HP := Lib.hid hp
    have HF := Lib.hid hb
    have hne1 : ((k0 : Int) == -1) = false := beq_eq_false_iff_ne.2 (by omega)
    clear hr hp hb hi
    go_enter Try.func30, Try.ntmps30
    go_wp2_with (fail)
    refine hI.mono ?_
    rintro e w1 ⟨rfl, hb1⟩
    have HB1 := Lib.hid hb1
    clear hb1 hI
    go_wp2
    go_loopg [5, 6, 7] l.length (fun gg s5 s6 _ wr => ∃ (i j : Nat) (dk : List Pr), s5 = .int .i64 i ∧ s6 = .int .i64 j ∧ i < j ∧ j ≤ l.length ∧ l.length - j ≤ gg ∧ Hid (Row wr 69 2 Pr.cells (.slice (some ⟨g, 0, none⟩) l.length c) dk) ∧ Hid (Kept w wr (fun k => k = g)) ∧ Hid (dk.length = l.length ∧ dk.take i = ((l.take j).filter fun x => !p x) ∧ dk.drop j = l.drop j))
    case atStart => exact ⟨k0, k0 + 1, l, rfl, by go_num, by omega, by omega, by omega, Lib.hid (HR.out.kept (S := fun _ => False) (Kept.of_below HB1.out _) (fun _ _ h => h)), Lib.hid (Kept.of_below HB1.out _), Lib.hid ⟨rfl, HF.out, rfl⟩⟩
    case round =>
      obtain ⟨i, j, dk, rfl, rfl, hij, hjl, hgg, HRr, HK, HD⟩ := hrel
      have hdl := HD.out.1
      have hrn := HRr.out.block.1
      have hgr : g < wr.heap.size := Nat.lt_of_lt_of_le hgl HK.out.size
      by_cases hlt : j < l.length
      · have hltz : (j : Int) < (l.length : Int) := by omega
        have hjd : j < dk.length := by omega
        have hid : i < dk.length := by omega
        have c0 := HRr.out.cell (fun _ => rfl) j 0 hjd (by omega)
        have d0 := HRr.out.cell (fun _ => rfl) i 0 hid (by omega)
        have c1 := HRr.out.cell (fun _ => rfl) j 1 hjd (by omega)
        have d1 := HRr.out.cell (fun _ => rfl) i 1 hid (by omega)
        have hcall := fun (W : World) hW => HP.out W dk[j] hW
        have HX : Hid ((l.take (j + 1)).filter (fun x => !p x) = (l.take j).filter (fun x => !p x) ++ if p dk[j] then [] else [dk[j]]) := Lib.hid (by
          have e1 : dk[j] = l[j] := by
            have := HD.out.2.2
            rw [List.drop_eq_getElem_cons hjd, List.drop_eq_getElem_cons hlt] at this
            injection this
          rw [List.take_succ_eq_append_getElem hlt, List.filter_append, e1]
          cases hq : p l[j] <;> simp [hq])
        have HY : Hid (∀ x, x = dk[j] → (dk.set i x).take (i + 1) = dk.take i ++ [x] ∧ (dk.set i x).drop (j + 1) = l.drop (j + 1)) := Lib.hid (fun x _ => by
          refine ⟨?_, ?_⟩
          · rw [List.take_succ_eq_append_getElem (by simpa using hid), List.getElem_set_self, List.take_set, List.set_eq_of_length_le (by simp; omega)]
          · rw [List.drop_set_of_lt (by omega), ← List.drop_drop, HD.out.2.2, List.drop_drop])
        have HZ : Hid (dk.drop (j + 1) = l.drop (j + 1)) := Lib.hid (by rw [← List.drop_drop, HD.out.2.2, List.drop_drop])
        obtain ⟨x, hx⟩ : ∃ x, x = dk[j] := ⟨_, rfl⟩
        have HW := Lib.hid (HY.out x hx)
        rw [← hx] at hcall HX
        rw [← hx] at c0 c1
        clear hx HY hdl hrn
        generalize dk[i] = y at d0 d1
        simp only [Pr.cells, List.getElem?_cons_zero, List.getElem?_cons_succ, Nat.add_zero, Nat.mul_one] at c0 c1 d0 d1
        go_wp2_with (fail)
        refine (hcall _ ((HK.out.alloc _).mono fun k _ h => by simp [Value.ownBlock]; exact h.symm)).mono ?_
        rintro e w' ⟨rfl, hb'⟩
        have HB' := Lib.hid hb'
        have hz : wr.heap.size + 1 ≤ w'.heap.size := by have := hb'.size; simpa using this
        have hff : ∀ k, w'.frozen? ⟨g, k, none⟩ = false := fun k => (hb'.frozen (p := ⟨g, k, none⟩) (by simp; omega)).trans ((HRr.out.alloc _).frozen k)
        have c0' : w'.cell? ⟨g, i * 2, none⟩ = _ := (hb'.cell (p := ⟨g, i * 2, none⟩) (by simp; omega)).trans ((World.cell?_alloc_lt _ _ _ hgr).trans d0)
        have e0 : w'.cell? ⟨wr.heap.size, 0, none⟩ = some (.int .i64 x.1) := (hb'.cell (p := ⟨wr.heap.size, 0, none⟩) (by simp)).trans (by go_simp)
        have c1' : w'.cell? ⟨g, i * 2 + 1, none⟩ = _ := (hb'.cell (p := ⟨g, i * 2 + 1, none⟩) (by simp; omega)).trans ((World.cell?_alloc_lt _ _ _ hgr).trans d1)
        have e1 : w'.cell? ⟨wr.heap.size, 1, none⟩ = some (.int .i64 x.2) := (hb'.cell (p := ⟨wr.heap.size, 1, none⟩) (by simp)).trans (by go_simp)
        clear hcall hb' c0 c1 d0 d1
        have HN := Lib.hid (HK.out.alloc (.cells #[(.int .i64 x.1), (.int .i64 x.2)] 69))
        have HR2 := Lib.hid ((HRr.out.alloc (.cells #[(.int .i64 x.1), (.int .i64 x.2)] 69)).kept (S := fun _ => False) (Kept.of_below HB'.out _) (fun _ _ h => h))
        have HK2 := Lib.hid (HN.out.then_ (Kept.of_below HB'.out (fun _ => False)) (fun _ h => h.elim))
        cases hq : p x with
        | true =>
          rw [hq] at HX
          go_wp2
          go_roundg (l.length - (j + 1))
          case measure => omega
          case rel => exact ⟨i, j + 1, dk, rfl, by go_num, by omega, by omega, Nat.le_refl _, HR2, HK2, Lib.hid ⟨HD.out.1, by rw [HX.out, HD.out.2.1]; simp, HZ.out⟩⟩
        | false =>
          rw [hq] at HX
          go_wp2
          go_roundg (l.length - (j + 1))
          case measure => omega
          case rel => exact ⟨i + 1, j + 1, dk.set i x, by go_num, by go_num, by omega, by omega, Nat.le_refl _, Lib.hid (HR2.out.set_ (fun _ => rfl) (fun x u hu => by simp [Pr.cells] at hu; rcases hu with rfl | rfl <;> rfl) i x hid).1, Lib.hid (HK2.out.then_ (Kept.of_grown (HR2.out.set_ (fun _ => rfl) (fun x u hu => by simp [Pr.cells] at hu; rcases hu with rfl | rfl <;> rfl) i x hid).2) (fun _ h => .inl h)), Lib.hid ⟨by simpa using HD.out.1, by rw [HX.out, HW.out.1, HD.out.2.1]; simp, HW.out.2⟩⟩
      · have hje : j = l.length := by omega
        subst hje
        obtain ⟨hbn, cur, hg, hdc, hcm, hcs, hct⟩ := HRr.out.block
        have hil : i ≤ l.length := by omega
        have hic : i ≤ c := by omega
        have hm2 : l.length * 2 ≤ c * 2 := Nat.mul_le_mul_right _ (by omega)
        obtain ⟨cs2, hcl2, hs2, ht2⟩ := run_clear_row Try.prog wr 60 69 0 (.agg #[.int .i64 0, .int .i64 0]) 2 Try.underlying60 (fun w => by kernel_rfl) rfl (by intro u hu; simp [Value.cells] at hu; rcases hu with rfl | rfl <;> rfl) g (i * 2) (l.length - i) (c - i) cur hg (by rw [hcs]; omega)
        obtain ⟨W2, hW2⟩ : ∃ W2, W2 = wr.setRow g cs2 := ⟨_, rfl⟩
        rw [← hW2] at hcl2
        have hfl : (l.filter fun x => !p x).length = i := by
          have := HD.out.2.1
          rw [List.take_length] at this
          rw [← this, List.length_take]; omega
        have H : Hid (Row W2 69 2 Pr.cells (.slice (some ⟨g, 0, none⟩) i c) (l.filter fun x => !p x) ∧ Kept w W2 (fun k => k = g)) := Lib.hid ⟨Row.of_block (cur := cs2) (by rw [hW2]; exact setRow_heap wr g cur cs2 _ _ hg) hfl hic hcm (by rw [hs2, hcs]) (fun _ => rfl) (by
          rw [ht2]
          have e1 : (cur.toList.take (dk.length * 2)).take (i * 2) = cur.toList.take (i * 2) := by rw [List.take_take, Nat.min_eq_left (by omega)]
          have e2 : dk.flatMap Pr.cells = (dk.take i).flatMap Pr.cells ++ (dk.drop i).flatMap Pr.cells := by rw [← List.flatMap_append, List.take_append_drop]
          rw [← e1, hct, e2, List.take_left' (by rw [flat_length (enc := Pr.cells) (sz := 2) (fun _ => rfl), List.length_take, Nat.min_eq_left (by omega)]), HD.out.2.1, List.take_length]), HK.out.then_ (Kept.of_grown (by rw [hW2]; exact grown_setRow wr g cs2)) (fun _ h => .inl h)⟩
        clear hW2 hs2 ht2 hct hcs hcm hg hfl hdl hrn hm2 hdc hbn
        go_wp2
        go_ret
        exact ⟨_, rfl, H.out.1, H.out.2.mono (fun k _ h => by simp [Value.ownBlock]; exact h.symm), rfl⟩

set_option maxHeartbeats 4000000 in
set_option maxRecDepth 1000000 in
theorem delfunc_letters (v : Value) (l : List Letter) (gf : Nat) (lb : Array Value) (p : Letter → Bool) (w : World) (hr : Row w 38 4 Letter.cells v l) (hl : l.length ≤ 4611686018427387904)
    (hp : Says (fun k => v.ownBlock = some k) gf lb Letter.val p w) (eg : ∀ args w, (callFunc gf args).run Try.prog w = .ok (.enter gf args) w) :
    Calls Try.prog 32 #[v, .func (.func gf) #[] lb] w fun e w' => ∃ v', e = .returned v' ∧ Row w' 38 4 Letter.cells v' (l.filter fun x => !p x) ∧ Kept w w' (fun k => v.ownBlock = some k) ∧ v'.ownBlock = v.ownBlock := by
  have hI := idx_letters _ v l gf lb p w hr hl hp eg
  rcases idx_spec p l with ⟨hi, ha⟩ | ⟨k0, hk0, hi, hb⟩
  · rw [hi] at hI
    have hf : (l.filter fun x => !p x) = l := List.filter_eq_self.2 (fun x hx => by rw [ha x hx]; rfl)
    rw [hf]
    have HR := Lib.hid hr
    clear hr hf hi ha hp
    go_enter Try.func32, Try.ntmps32
    go_wp2_with (fail)
    refine hI.mono ?_
    rintro e w1 ⟨rfl, hb1⟩
    go_wp2
    go_ret
    exact ⟨_, rfl, HR.out.kept (S := fun _ => False) (Kept.of_below hb1 _) (fun _ _ h => h), Kept.of_below hb1 _, rfl⟩
  · rw [hi] at hI
    obtain ⟨g, c, rfl, hgl, hcl⟩ := hr.form (by omega)
    have HR := Lib.hid hr
    have HP := Lib.hid hp
    have HF := Lib.hid hb
    have hne1 : ((k0 : Int) == -1) = false := beq_eq_false_iff_ne.2 (by omega)
    clear hr hp hb hi
    go_enter Try.func32, Try.ntmps32
    go_wp2_with (fail)
    refine hI.mono ?_
    rintro e w1 ⟨rfl, hb1⟩
    have HB1 := Lib.hid hb1
    clear hb1 hI
    go_wp2
    go_loopg [5, 6, 7] l.length (fun gg s5 s6 _ wr => ∃ (i j : Nat) (dk : List Letter), s5 = .int .i64 i ∧ s6 = .int .i64 j ∧ i < j ∧ j ≤ l.length ∧ l.length - j ≤ gg ∧ Hid (Row wr 38 4 Letter.cells (.slice (some ⟨g, 0, none⟩) l.length c) dk) ∧ Hid (Kept w wr (fun k => k = g)) ∧ Hid (dk.length = l.length ∧ dk.take i = ((l.take j).filter fun x => !p x) ∧ dk.drop j = l.drop j))
    case atStart => exact ⟨k0, k0 + 1, l, rfl, by go_num, by omega, by omega, by omega, Lib.hid (HR.out.kept (S := fun _ => False) (Kept.of_below HB1.out _) (fun _ _ h => h)), Lib.hid (Kept.of_below HB1.out _), Lib.hid ⟨rfl, HF.out, rfl⟩⟩
    case round =>
      obtain ⟨i, j, dk, rfl, rfl, hij, hjl, hgg, HRr, HK, HD⟩ := hrel
      have hdl := HD.out.1
      have hrn := HRr.out.block.1
      have hgr : g < wr.heap.size := Nat.lt_of_lt_of_le hgl HK.out.size
      by_cases hlt : j < l.length
      · have hltz : (j : Int) < (l.length : Int) := by omega
        have hjd : j < dk.length := by omega
        have hid : i < dk.length := by omega
        have c0 := HRr.out.cell (fun _ => rfl) j 0 hjd (by omega)
        have d0 := HRr.out.cell (fun _ => rfl) i 0 hid (by omega)
        have c1 := HRr.out.cell (fun _ => rfl) j 1 hjd (by omega)
        have d1 := HRr.out.cell (fun _ => rfl) i 1 hid (by omega)
        have c2 := HRr.out.cell (fun _ => rfl) j 2 hjd (by omega)
        have d2 := HRr.out.cell (fun _ => rfl) i 2 hid (by omega)
        have c3 := HRr.out.cell (fun _ => rfl) j 3 hjd (by omega)
        have d3 := HRr.out.cell (fun _ => rfl) i 3 hid (by omega)
        have hcall := fun (W : World) hW => HP.out W dk[j] hW
        have HX : Hid ((l.take (j + 1)).filter (fun x => !p x) = (l.take j).filter (fun x => !p x) ++ if p dk[j] then [] else [dk[j]]) := Lib.hid (by
          have e1 : dk[j] = l[j] := by
            have := HD.out.2.2
            rw [List.drop_eq_getElem_cons hjd, List.drop_eq_getElem_cons hlt] at this
            injection this
          rw [List.take_succ_eq_append_getElem hlt, List.filter_append, e1]
          cases hq : p l[j] <;> simp [hq])
        have HY : Hid (∀ x, x = dk[j] → (dk.set i x).take (i + 1) = dk.take i ++ [x] ∧ (dk.set i x).drop (j + 1) = l.drop (j + 1)) := Lib.hid (fun x _ => by
          refine ⟨?_, ?_⟩
          · rw [List.take_succ_eq_append_getElem (by simpa using hid), List.getElem_set_self, List.take_set, List.set_eq_of_length_le (by simp; omega)]
          · rw [List.drop_set_of_lt (by omega), ← List.drop_drop, HD.out.2.2, List.drop_drop])
        have HZ : Hid (dk.drop (j + 1) = l.drop (j + 1)) := Lib.hid (by rw [← List.drop_drop, HD.out.2.2, List.drop_drop])
        obtain ⟨x, hx⟩ : ∃ x, x = dk[j] := ⟨_, rfl⟩
        have HW := Lib.hid (HY.out x hx)
        rw [← hx] at hcall HX
        rw [← hx] at c0 c1 c2 c3
        clear hx HY hdl hrn
        generalize dk[i] = y at d0 d1 d2 d3
        simp only [Letter.cells, List.getElem?_cons_zero, List.getElem?_cons_succ, Nat.add_zero, Nat.mul_one] at c0 c1 c2 c3 d0 d1 d2 d3
        go_wp2_with (fail)
        refine (hcall _ ((HK.out.alloc _).mono fun k _ h => by simp [Value.ownBlock]; exact h.symm)).mono ?_
        rintro e w' ⟨rfl, hb'⟩
        have HB' := Lib.hid hb'
        have hz : wr.heap.size + 1 ≤ w'.heap.size := by have := hb'.size; simpa using this
        have hff : ∀ k, w'.frozen? ⟨g, k, none⟩ = false := fun k => (hb'.frozen (p := ⟨g, k, none⟩) (by simp; omega)).trans ((HRr.out.alloc _).frozen k)
        have c0' : w'.cell? ⟨g, i * 4, none⟩ = _ := (hb'.cell (p := ⟨g, i * 4, none⟩) (by simp; omega)).trans ((World.cell?_alloc_lt _ _ _ hgr).trans d0)
        have e0 : w'.cell? ⟨wr.heap.size, 0, none⟩ = some (.int .i64 x.id) := (hb'.cell (p := ⟨wr.heap.size, 0, none⟩) (by simp)).trans (by go_simp)
        have c1' : w'.cell? ⟨g, i * 4 + 1, none⟩ = _ := (hb'.cell (p := ⟨g, i * 4 + 1, none⟩) (by simp; omega)).trans ((World.cell?_alloc_lt _ _ _ hgr).trans d1)
        have e1 : w'.cell? ⟨wr.heap.size, 1, none⟩ = some (.int .i64 x.src) := (hb'.cell (p := ⟨wr.heap.size, 1, none⟩) (by simp)).trans (by go_simp)
        have c2' : w'.cell? ⟨g, i * 4 + 2, none⟩ = _ := (hb'.cell (p := ⟨g, i * 4 + 2, none⟩) (by simp; omega)).trans ((World.cell?_alloc_lt _ _ _ hgr).trans d2)
        have e2 : w'.cell? ⟨wr.heap.size, 2, none⟩ = some (.int .i64 x.dst) := (hb'.cell (p := ⟨wr.heap.size, 2, none⟩) (by simp)).trans (by go_simp)
        have c3' : w'.cell? ⟨g, i * 4 + 3, none⟩ = _ := (hb'.cell (p := ⟨g, i * 4 + 3, none⟩) (by simp; omega)).trans ((World.cell?_alloc_lt _ _ _ hgr).trans d3)
        have e3 : w'.cell? ⟨wr.heap.size, 3, none⟩ = some (.string x.body) := (hb'.cell (p := ⟨wr.heap.size, 3, none⟩) (by simp)).trans (by go_simp)
        clear hcall hb' c0 c1 c2 c3 d0 d1 d2 d3
        have HN := Lib.hid (HK.out.alloc (.cells #[(.int .i64 x.id), (.int .i64 x.src), (.int .i64 x.dst), (.string x.body)] 38))
        have HR2 := Lib.hid ((HRr.out.alloc (.cells #[(.int .i64 x.id), (.int .i64 x.src), (.int .i64 x.dst), (.string x.body)] 38)).kept (S := fun _ => False) (Kept.of_below HB'.out _) (fun _ _ h => h))
        have HK2 := Lib.hid (HN.out.then_ (Kept.of_below HB'.out (fun _ => False)) (fun _ h => h.elim))
        cases hq : p x with
        | true =>
          rw [hq] at HX
          go_wp2
          go_roundg (l.length - (j + 1))
          case measure => omega
          case rel => exact ⟨i, j + 1, dk, rfl, by go_num, by omega, by omega, Nat.le_refl _, HR2, HK2, Lib.hid ⟨HD.out.1, by rw [HX.out, HD.out.2.1]; simp, HZ.out⟩⟩
        | false =>
          rw [hq] at HX
          go_wp2
          go_roundg (l.length - (j + 1))
          case measure => omega
          case rel => exact ⟨i + 1, j + 1, dk.set i x, by go_num, by go_num, by omega, by omega, Nat.le_refl _, Lib.hid (HR2.out.set_ (fun _ => rfl) (fun x u hu => by simp [Letter.cells] at hu; rcases hu with rfl | rfl | rfl | rfl <;> rfl) i x hid).1, Lib.hid (HK2.out.then_ (Kept.of_grown (HR2.out.set_ (fun _ => rfl) (fun x u hu => by simp [Letter.cells] at hu; rcases hu with rfl | rfl | rfl | rfl <;> rfl) i x hid).2) (fun _ h => .inl h)), Lib.hid ⟨by simpa using HD.out.1, by rw [HX.out, HW.out.1, HD.out.2.1]; simp, HW.out.2⟩⟩
      · have hje : j = l.length := by omega
        subst hje
        obtain ⟨hbn, cur, hg, hdc, hcm, hcs, hct⟩ := HRr.out.block
        have hil : i ≤ l.length := by omega
        have hic : i ≤ c := by omega
        have hm2 : l.length * 4 ≤ c * 4 := Nat.mul_le_mul_right _ (by omega)
        obtain ⟨cs2, hcl2, hs2, ht2⟩ := run_clear_row Try.prog wr 41 38 0 (.agg #[.int .i64 0, .int .i64 0, .int .i64 0, .string ⟨#[]⟩]) 4 Try.underlying41 (fun w => by kernel_rfl) rfl (by intro u hu; simp [Value.cells] at hu; rcases hu with rfl | rfl | rfl | rfl <;> rfl) g (i * 4) (l.length - i) (c - i) cur hg (by rw [hcs]; omega)
        obtain ⟨W2, hW2⟩ : ∃ W2, W2 = wr.setRow g cs2 := ⟨_, rfl⟩
        rw [← hW2] at hcl2
        have hfl : (l.filter fun x => !p x).length = i := by
          have := HD.out.2.1
          rw [List.take_length] at this
          rw [← this, List.length_take]; omega
        have H : Hid (Row W2 38 4 Letter.cells (.slice (some ⟨g, 0, none⟩) i c) (l.filter fun x => !p x) ∧ Kept w W2 (fun k => k = g)) := Lib.hid ⟨Row.of_block (cur := cs2) (by rw [hW2]; exact setRow_heap wr g cur cs2 _ _ hg) hfl hic hcm (by rw [hs2, hcs]) (fun _ => rfl) (by
          rw [ht2]
          have e1 : (cur.toList.take (dk.length * 4)).take (i * 4) = cur.toList.take (i * 4) := by rw [List.take_take, Nat.min_eq_left (by omega)]
          have e2 : dk.flatMap Letter.cells = (dk.take i).flatMap Letter.cells ++ (dk.drop i).flatMap Letter.cells := by rw [← List.flatMap_append, List.take_append_drop]
          rw [← e1, hct, e2, List.take_left' (by rw [flat_length (enc := Letter.cells) (sz := 4) (fun _ => rfl), List.length_take, Nat.min_eq_left (by omega)]), HD.out.2.1, List.take_length]), HK.out.then_ (Kept.of_grown (by rw [hW2]; exact grown_setRow wr g cs2)) (fun _ h => .inl h)⟩
        clear hW2 hs2 ht2 hct hcs hcm hg hfl hdl hrn hm2 hdc hbn
        go_wp2
        go_ret
        exact ⟨_, rfl, H.out.1, H.out.2.mono (fun k _ h => by simp [Value.ownBlock]; exact h.symm), rfl⟩
end Go.Proofs.Ytaaeiljeanfinaa
