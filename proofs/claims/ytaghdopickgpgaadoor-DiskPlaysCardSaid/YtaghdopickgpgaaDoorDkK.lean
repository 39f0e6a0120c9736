import Derived.Test.YtaghdopickgpgaaDoorDkJ
namespace Go.Proofs.YtaghdopickgpgaaDoor
open Go Go.RowKit Go.Shelf Go.Maps Go.Sort
set_option linter.unusedVariables false
set_option linter.unusedSimpArgs false
attribute [local go_sem] Oper.semAt_some

def namesOf (fs : Files) : List ByteArray := fs.map (·.1)
theorem sorted_names {fs : Files} (h : fs.Pairwise fun p q => ltB p.1 q.1 = true) {ss : List (List UInt8)} (hp : ss.Perm (fs.map fun p => p.1.data.toList)) : ss.mergeSort (fun x y => decide (x ≤ y)) = fs.map fun p => p.1.data.toList := by
  have e1 : ss.mergeSort leB = (fs.map fun p => p.1.data.toList).mergeSort leB := mergeSort_of_perm hp
  have hs : (fs.map fun p => p.1.data.toList).Pairwise fun a b => leB a b = true := by
    rw [List.pairwise_map]
    exact h.imp fun {p q} hh => decide_eq_true (List.le_of_lt (of_decide_eq_true hh))
  exact e1.trans (List.mergeSort_of_pairwise hs)
theorem sorts_in (m : Nat) : AnyZ.SortsIn Tryd.prog sortedRen0 Fence.wide m :=
  ⟨fun blk off cap ss W hH hblk hsz => callsIn_wide.2 (sort_strs blk off cap ss W hH hblk hsz), fun p cap W => callsIn_wide.2 (sort_none p cap W)⟩
set_option maxHeartbeats 1000000 in
theorem disk_names (F : Nat → Prop) (g : Nat) (s : DkS) (w : World) (h : DkAt w F g s) (hs : s.Ok) :
    Calls Tryd.prog 19 #[.pointer (some ⟨g, 0, none⟩)] w fun e w' => ∃ v, e = .returned v ∧ Row w' 9 1 scells v (namesOf s.fs) ∧ Below w.heap.size w w' ∧ ∀ k, v.ownBlock = some k → w.heap.size ≤ k := by
  refine (callsIn_wide (n := 6)).1 ?_
  obtain ⟨b, hb, hm, hg, f1, fz⟩ := h
  have c2 := hb.cell 2
  have hlt := hb.lt
  obtain ⟨es, hown, hi⟩ := hm
  have hbl := hown.lt
  have hsize : Maps.size (DataW.map es) = s.fs.length := by rw [Maps.size_eq, hi.length_eq, lits_length]
  have hn64 := hs.n
  have hseq : SeqGives Fence.wide 2 Tryd.prog 51 #[.pointer (some ⟨w.heap.size, 0, none⟩)] encStr (fun ss => ss.Perm (strKeys (DataW.map es))) (Maps.size (DataW.map es)) (w.alloc (.cells #[.map (some b)] 60)) :=
    AnyZ.keys_gives (ρ := keysRen) { keysLays with } Fence.wide _ trivial rfl (by omega) w.heap.size b _ (.map es) _ (by simp) (by simp) (hown.alloc _)
  have cK : ∀ mb W, CallsIn Fence.wide 5 Tryd.prog 35 #[.map mb] W fun e w' => e = .returned (.func (.func 51) #[] #[.pointer (some ⟨W.heap.size, 0, none⟩)]) ∧ w' = W.alloc (.cells #[.map mb] 60) := fun mb W => AnyZ.keys_in keysLays Fence.wide 5 trivial rfl mb W
  have cS := AnyZ.sorted_in sortedLays0 Fence.wide 5 trivial trivial trivial trivial rfl (by omega) (sorts_in _) (enters_of Tryd.func50 (by kernel_rfl) rfl) 51 #[.pointer (some ⟨w.heap.size, 0, none⟩)] trivial (enters_of Tryd.func51 (by kernel_rfl) rfl) _ _ (by rw [hsize]; simp only [maxLen]; omega) (by rw [hsize]; omega) _ hseq
  change CallsIn _ _ Tryd.prog 34 _ _ _ at cS
  have hfK : Fence.wide.fn 35 := trivial
  have hfS : Fence.wide.fn 34 := trivial
  have HSO := Lib.hid hs.sorted
  have HI := Lib.hid hi
  clear hseq hs hb hi fz hown hsize
  refine callsIn_of_wp Tryd.func19 rfl trivial ?_ rfl
  simp only [Tryd.ntmps19, List.size_toArray, List.length_cons, List.length_nil, Nat.reduceAdd, Nat.reduceSub, Array.replicate_succ, Array.replicate_zero, List.push_toArray, List.append_toArray, List.nil_append, List.cons_append]
  gi_wp2_with (first
    | (gi_at_call 35; refine (cK _ _).mono ?_; rintro e w' ⟨rfl, rfl⟩)
    | (gi_at_call 34; refine cS.mono ?_; rintro e w' ⟨v, ss, rfl, hS, hrow, hnil, hb⟩))
  go_ret
  have hss := sorted_names HSO.out (hS.trans (SMap.keys HI.out))
  have hlen : ss.length = (namesOf s.fs).length := by rw [hS.length_eq, (SMap.keys HI.out).length_eq]; simp [namesOf]
  have hr2 := ownsRow_base_a hrow (Nat.zero_le _)
  rw [hss, hlen] at hr2
  have hflat : (s.fs.map fun p => p.1.data.toList).map encStr = (namesOf s.fs).flatMap scells := by
    unfold namesOf
    induction s.fs with
    | nil => rfl
    | cons p fs ih => rw [List.map_cons, List.map_cons, List.map_cons, List.flatMap_cons, ih]; simp [scells, encStr]
  rw [hflat] at hr2
  refine ⟨v, rfl, hr2, ((Below.refl _ w).alloc (Nat.le_refl _) _).trans (hb.mono (by simp)), fun k hk => ?_⟩
  have := (World.ownsRow.lt hrow k hk).1
  simp at this
  omega
end Go.Proofs.YtaghdopickgpgaaDoor
