import Derived.Test.YtpimpdgibcjbeaaRlZg
import Derived.Test.YtpimpdgibcjbeaaWLast
namespace Go.Proofs.Ytpimpdgibcjbeaa
open Go Go.RowKit
open Go.Proofs.YtpimpdgibcjbeaaW.PrintLast
set_option linter.unusedVariables false
set_option linter.unusedSimpArgs false

theorem own_ge {v1 v : Value} {H b n : Nat} (h : v1.ownBlock = v.ownBlock ∨ v1.ownBlock = some H) (hb : v.ownBlock = some b ∧ n ≤ b) (hH : n ≤ H) : ∀ k, v1.ownBlock = some k → n ≤ k := by
  intro k e
  rcases h with h | h <;> rw [h] at e
  · rw [hb.1] at e; injection e with e; omega
  · injection e with e; omega
theorem own_ge2 {v1 v : Value} {H n : Nat} (h : v1.ownBlock = v.ownBlock ∨ v1.ownBlock = some H) (hb : ∀ k, v.ownBlock = some k → n ≤ k) (hH : n ≤ H) : ∀ k, v1.ownBlock = some k → n ≤ k := by
  intro k e
  rcases h with h | h <;> rw [h] at e
  · exact hb k e
  · injection e with e; omega
def RPost (w : World) (F : Nat → Prop) (g : Nat) (s : LogS) (w' : World) : Prop := Kept w w' F ∧ RAt w' (grow F w w') g s
theorem RPost.of_below {w w' : World} {F : Nat → Prop} {g : Nat} {s : LogS} (h : RAt w F g s) (hb : Below w.heap.size w w') : RPost w F g s w' := ⟨Kept.of_below hb F, (h.below hb).mono fun k _ h => .inl h⟩
/-- A new row in the place of the old one. -/
theorem RAt.reset {w w1 w2 : World} {F : Nat → Prop} {g : Nat} {s : LogS} {b t : Int} {v : Value} {l : List Ent} (h : RAt w F g s) (hb : Below w.heap.size w w1) (hr : Row w1 44 2 Ent.cells v l) (hv : ∀ k, v.ownBlock = some k → w.heap.size ≤ k)
    (hk : Kept w1 w2 (fun k => k = g)) (hg2 : Blk w2 g 52 #[.int .i64 b, .int .i64 t, v]) : RPost w F g ⟨b, t, l⟩ w2 := by
  obtain ⟨vl, hb0, h1, hg, f1⟩ := h
  have hgl := hb0.lt
  refine ⟨(Kept.of_below hb F).then_ hk (fun k e => .inl (e ▸ hg)), v, hg2, hr.kept hk (fun k e e2 => by have := hv k e; omega), .inl hg, fun k e => .inr ⟨hv k e, Nat.lt_of_lt_of_le (hr.lt e) hk.size⟩⟩
/-- What holds all through a region that lays the list anew. -/
structure PI (w W : World) (g : Nat) (base term : Int) (vl : Value) (l : List Ent) (p0 p1 : Addr) (x : Ent) : Prop where
  b : Blk W g 52 #[.int .i64 base, .int .i64 term, vl]
  x0 : W.cell? p0 = some (.int .i64 x.term)
  x1 : W.cell? p1 = some (.string x.data)
  r : Row W 44 2 Ent.cells vl l
  k : Below w.heap.size w W
  g : g < w.heap.size
  v : ∀ k, vl.ownBlock = some k → k < w.heap.size
  a0 : p0.block < w.heap.size
  a1 : p1.block < w.heap.size
section
variable {w W W' : World} {g : Nat} {base term : Int} {vl : Value} {l : List Ent} {p0 p1 : Addr} {x : Ent}
theorem PI.z (h : PI w W g base term vl l p0 p1 x) : w.heap.size ≤ W.heap.size := h.k.size
theorem PI.alloc (h : PI w W g base term vl l p0 p1 x) (o : Obj) : PI w (W.alloc o) g base term vl l p0 p1 x := by
  have hz := h.k.size
  have hx := h.a0
  have hy := h.a1
  exact ⟨h.b.alloc o, (World.cell?_alloc_lt W o p0 (by omega)).trans h.x0, (World.cell?_alloc_lt W o p1 (by omega)).trans h.x1, h.r.alloc o, h.k.alloc hz o, h.g, h.v, h.a0, h.a1⟩
theorem PI.drew (h : PI w W g base term vl l p0 p1 x) : PI w W.drew g base term vl l p0 p1 x := ⟨h.b, h.x0, h.x1, h.r, h.k.drew, h.g, h.v, h.a0, h.a1⟩
theorem PI.grownV {row : Option Nat} (h : PI w W g base term vl l p0 p1 x) (hg : W.grownBy W' row) (hr : ∀ k, row = some k → w.heap.size ≤ k) : PI w W' g base term vl l p0 p1 x :=
  ⟨h.b.grown hg (fun e => by have := hr _ e.symm; have := h.g; omega), hg.cell h.x0 (fun e => by have h1 := hr _ e.symm; have := h.a0; omega), hg.cell h.x1 (fun e => by have h1 := hr _ e.symm; have := h.a1; omega), h.r.grown hg (fun k e e2 => by have := hr _ e2.symm; have := h.v k e; omega), h.k.grown hg h.k.size (fun k e => hr k e), h.g, h.v, h.a0, h.a1⟩
theorem PI.grown {r : Nat} (h : PI w W g base term vl l p0 p1 x) (hg : W.grownBy W' (some r)) (hr : w.heap.size ≤ r) : PI w W' g base term vl l p0 p1 x := h.grownV hg (fun k e => by injection e with e; omega)
end
set_option maxRecDepth 100000 in
set_option maxHeartbeats 4000000 in
theorem ref_append_ok (F : Nat → Prop) (g : Nat) (s : LogS) (x : Ent) (w : World) (h : RAt w F g s) (hb0 : 0 ≤ s.base) (hl : s.base + s.l.length < 1048576) (ht : mayT x.term = true) (hr : s.lastTerm ≤ x.term) (hs : x.data.size ≤ 4096) :
    Calls Try.prog 33 #[.pointer (some ⟨g, 0, none⟩), .agg #[.int .i64 x.term, .string x.data]] w fun e w' => e = .returned (.tuple #[.int .i64 (s.last + 1), .int .i64 0]) ∧ RPost w F g ⟨s.base, s.term, s.l ++ [x]⟩ w' := by
  have hlast := ref_last F g s _ (h.below ((Below.refl _ w).alloc (Nat.le_refl _) (.cells #[.int .i64 x.term, .string x.data] 44))) hb0 (by omega) (by omega)
  have H := Lib.hid h
  have a1 : (x.data.size : Int) ≤ 4096 := by omega
  have hla : s.last < 1048576 ∧ 0 ≤ s.last := by unfold LogS.last; omega
  have a2 : s.last < 1048576 := hla.1
  have a20 : 0 ≤ s.last := hla.2
  have t12 : 1 ≤ x.term ∧ x.term ≤ 1073741824 := by unfold mayT at ht; simpa using ht
  have t1 : 1 ≤ x.term := t12.1
  have t2 : x.term ≤ 1073741824 := t12.2
  have qt : decide (1073741824 < x.term) = false := decide_eq_false (by omega)
  generalize hLT : s.lastTerm = lt at hlast hr
  generalize hLA : s.last = la at hlast a2 a20 ⊢
  clear h hLT hla hLA t12 ht
  go_enter Try.func33, Try.ntmps33
  go_wp2_with (fail)
  refine hlast.mono ?_
  rintro e w2 ⟨rfl, hb2⟩
  clear hlast
  have hX2 := Lib.hid ((Blk.new w 44 #[.int .i64 x.term, .string x.data]).kept (Kept.of_below hb2 fun _ => False) (fun h => h))
  have x0 := hX2.out.cell 0
  have x1 := hX2.out.cell 1
  have HB2 := Lib.hid (below_next ((Below.refl _ w).alloc (Nat.le_refl _) _) hb2)
  have HL2 := H.out.below HB2.out
  have hwW := hX2.out.lt
  clear hb2
  obtain ⟨vl, hb, h1, hg, f1⟩ := HL2
  obtain ⟨A, c, rfl⟩ := h1.shape
  have J0 := Lib.hid (show PI w2 w2 g s.base s.term (.slice A s.l.length c) s.l ⟨w.heap.size, 0, none⟩ ⟨w.heap.size, 0 + 1, none⟩ x from ⟨hb, hX2.out.cell 0, hX2.out.cell 1, h1, Below.refl _ _, hb.lt, fun k e => h1.lt e, hX2.out.lt, hX2.out.lt⟩)
  have hle := Lib.hid (show (([] : List Ent).length + s.l.length) * 24 ≤ 140737488355328 by simp only [List.length_nil]; omega)
  have hle2 := Lib.hid (show (([] ++ s.l).length + [x].length) * 24 ≤ 140737488355328 by simp only [List.nil_append, List.length_cons, List.length_nil]; omega)
  have HH2 := Lib.hid (H.out.below HB2.out)
  clear hb h1
  go_wp2_with (fail)
  refine start_ (n := 13) (S := fun w' => w'.cell? ⟨g, 2, none⟩ = some (.slice A s.l.length c) ∧ w'.cell? ⟨w.heap.size, 0, none⟩ = some (.int .i64 x.term) ∧ w'.cell? ⟨w.heap.size, 0 + 1, none⟩ = some (.string x.data)) (ds := [12]) #[false, false, false, false, false, false, false, false, false, false, false, false, false] (by kernel_rfl) rfl rfl ⟨J0.out.drew.b.cell 2, J0.out.drew.x0, J0.out.drew.x1⟩ (fun hHeld => ?_)
  refine pure_ (i := 0) (N := some 33) (v := ?_) (a' := ?_) #[true, false, false, false, false, false, false, false, false, false, false, false, false] rfl rfl (by kernel_rfl) (fun _ _ _ h => h) (Or.inl ⟨by rfl, ?_⟩) ?_ ?_
  rotate_left
  · intro w'
    go_simp
    with_reducible rfl
  rotate_left
  · simp only [Act.put, List.setIfInBounds_toArray, List.set_cons_zero, List.set_cons_succ, i64_w, i32_w]
    rfl
  refine pure_ (i := 2) (N := some 35) (v := ?_) (a' := ?_) #[true, false, true, false, false, false, false, false, false, false, false, false, false] rfl rfl (by kernel_rfl) (fun _ _ _ h => h) (Or.inl ⟨by rfl, ?_⟩) ?_ ?_
  rotate_left
  · intro w'
    go_simp
    with_reducible rfl
  rotate_left
  · simp only [Act.put, List.setIfInBounds_toArray, List.set_cons_zero, List.set_cons_succ, i64_w, i32_w]
    rfl
  refine pure_ (i := 3) (N := some 36) (v := ?_) (a' := ?_) #[true, false, true, true, false, false, false, false, false, false, false, false, false] rfl rfl (by kernel_rfl) (fun _ _ _ h => h) (Or.inl ⟨by rfl, ?_⟩) ?_ ?_
  rotate_left
  · intro w'
    go_simp
    with_reducible rfl
  rotate_left
  · simp only [Act.put, List.setIfInBounds_toArray, List.set_cons_zero, List.set_cons_succ, i64_w, i32_w]
    rfl
  refine pure_ (i := 4) (N := some 37) (v := ?_) (a' := ?_) #[true, false, true, true, true, false, false, false, false, false, false, false, false] rfl rfl (by kernel_rfl) (fun _ _ _ h => h) (Or.inl ⟨by rfl, ?_⟩) ?_ ?_
  rotate_left
  · intro w'
    go_simp
    with_reducible rfl
  rotate_left
  · simp only [Act.put, List.setIfInBounds_toArray, List.set_cons_zero, List.set_cons_succ, i64_w, i32_w]
    rfl
  refine take_ (i := 5) (N := some 38) (v := ?_) (a' := ?_) #[true, false, true, true, true, true, false, false, false, false, false, false, false] rfl rfl (by kernel_rfl) (fun _ _ _ h => h) (Or.inl ⟨by rfl, ?_⟩) hHeld ?_ ?_
  rotate_left
  · rintro w' ⟨s0, s1, s2⟩
    go_simp
    with_reducible rfl
  rotate_left
  · simp only [Act.put, List.setIfInBounds_toArray, List.set_cons_zero, List.set_cons_succ, i64_w, i32_w]
    rfl
  refine take_ (i := 7) (N := some 40) (v := ?_) (a' := ?_) #[true, false, true, true, true, true, false, true, false, false, false, false, false] rfl rfl (by kernel_rfl) (fun _ _ _ h => h) (Or.inl ⟨by rfl, ?_⟩) hHeld ?_ ?_
  rotate_left
  · rintro w' ⟨s0, s1, s2⟩
    go_simp
    with_reducible rfl
  rotate_left
  · simp only [Act.put, List.setIfInBounds_toArray, List.set_cons_zero, List.set_cons_succ, i64_w, i32_w]
    rfl
  refine join_ (σ := Value × Value × Value) 4 #[true, true, true, true, true, true, true, true, true, false, false, false, false] (fun q => [(34, q.1), (39, q.2.1), (41, q.2.2)]) (fun q w' => Row w' 44 2 Ent.cells q.2.1 ([] ++ (s.l)) ∧ Row w' 44 2 Ent.cells q.2.2 [x] ∧ PI w2 w' g s.base s.term (.slice A s.l.length c) (s.l) (⟨w.heap.size, 0, none⟩) (⟨w.heap.size, 0 + 1, none⟩) x ∧ (∀ k, q.2.1.ownBlock = some k → w2.heap.size ≤ k)) ?_ ?_
  rotate_left
  · intro hCont
    refine two_ (i := 1) (j := 8) (Ni := some 34) (Nj := some 41) #[true, true, true, true, true, true, false, true, false, false, false, false, false] #[true, false, true, true, true, true, false, true, true, false, false, false, false] rfl rfl rfl rfl (by kernel_rfl) (by decide) (by decide) (fun K hK => ?_) (fun K hK => ?_)
    · skip
      refine value_ (w1 := ?_) (v := ?_) (by rfl) rfl ?_ ?_
      rotate_left 2
      · go_simp
        constructor
        · rfl
        · rfl
      have J1 := Lib.hid (J0.out.drew.alloc (.cells #[] 44))
      have E1 := Lib.hid (Row.empty w2.drew 44 2 Ent.cells)
      refine hK.out _ _ ⟨J1.out.b.cell 2, J1.out.x0, J1.out.x1⟩ (fun hHeld => ?_)
      clear hK K
      refine norm_ (a' := ?_) ?_ ?_
      rotate_left
      · show Act.put _ (some 34) _ = _
        simp only [Act.put, List.setIfInBounds_toArray, List.set_cons_zero, List.set_cons_succ, i64_w, i32_w]
        rfl
      refine two_ (i := 6) (j := 8) (Ni := some 39) (Nj := some 41) #[true, true, true, true, true, true, true, true, false, false, false, false, false] #[true, true, true, true, true, true, false, true, true, false, false, false, false] rfl rfl rfl rfl (by kernel_rfl) (by decide) (by decide) (fun K hK => ?_) (fun K hK => ?_)
      · skip
        refine Row.appendRow_step (by rfl) (.tmp 34) (.tmp 38) 36 44 (.agg #[.int .i64 0, .string ⟨#[]⟩]) 2 24 (by rfl) Try.underlying36 info_entries rfl (by decide) (by decide) (.slice (some ⟨w2.heap.size, 0, none⟩) 0 0) (.slice A s.l.length c) [] (s.l) (by rfl) (by rfl) E1.out J1.out.r (fun _ => rfl) one_ent hle.out ?_
        intro v6 w6 hR hG hO
        have J6 := Lib.hid (J1.out.grown (r := w2.heap.size) hG (by omega))
        have R6 := Lib.hid hR
        have V6 := Lib.hid (own_ge (n := w2.heap.size) (b := w2.heap.size) hO ⟨rfl, by omega⟩ (by first | exact Nat.le_refl _ | (simp <;> omega)))
        clear hR hG hO
        refine hK.out _ _ ⟨J6.out.b.cell 2, J6.out.x0, J6.out.x1⟩ (fun hHeld => ?_)
        clear hK K
        refine norm_ (a' := ?_) ?_ ?_
        rotate_left
        · show Act.put _ (some 39) _ = _
          simp only [Act.put, List.setIfInBounds_toArray, List.set_cons_zero, List.set_cons_succ, i64_w, i32_w]
          rfl
        refine one_ (i := 8) (N := some 41) #[true, true, true, true, true, true, true, true, true, false, false, false, false] rfl rfl (by kernel_rfl) (by decide) (fun K hK => ?_)
        refine value_ (w1 := ?_) (v := ?_) (by rfl) rfl ?_ ?_
        rotate_left 2
        · go_simp
          constructor
          · rfl
          · rfl
        have J8 := Lib.hid (J6.out.alloc (.cells #[.int .i64 x.term, .string x.data] 44))
        have N8 := Lib.hid (Row.lit1 Ent.cells w6 44 2 x #[.int .i64 x.term, .string x.data] rfl rfl)
        have R8 := Lib.hid (R6.out.alloc (.cells #[.int .i64 x.term, .string x.data] 44))
        refine hK.out _ _ ⟨J8.out.b.cell 2, J8.out.x0, J8.out.x1⟩ (fun hHeld => ?_)
        clear hK K
        refine norm_ (a' := ?_) ?_ ?_
        rotate_left
        · show Act.put _ (some 41) _ = _
          simp only [Act.put, List.setIfInBounds_toArray, List.set_cons_zero, List.set_cons_succ, i64_w, i32_w]
          rfl
        exact norm_ (by simp only [putAll, Act.put, List.setIfInBounds_toArray, List.set_cons_zero, List.set_cons_succ]) (hCont ((Value.slice (some ⟨w2.heap.size, 0, none⟩) 0 0), v6, Value.slice (some ⟨w6.heap.size, 0, none⟩) 1 1) _ ⟨R8.out, N8.out, J8.out, V6.out⟩)
      · skip
        refine value_ (w1 := ?_) (v := ?_) (by rfl) rfl ?_ ?_
        rotate_left 2
        · go_simp
          constructor
          · rfl
          · rfl
        have J8 := Lib.hid (J1.out.alloc (.cells #[.int .i64 x.term, .string x.data] 44))
        have n8 := Row.lit1 Ent.cells (w2.drew.alloc (.cells #[] 44)) 44 2 x #[.int .i64 x.term, .string x.data] rfl rfl
        simp only [World.size_alloc] at n8
        have N8 := Lib.hid n8
        clear n8
        have E8 := Lib.hid (E1.out.alloc (.cells #[.int .i64 x.term, .string x.data] 44))
        refine hK.out _ _ ⟨J8.out.b.cell 2, J8.out.x0, J8.out.x1⟩ (fun hHeld => ?_)
        clear hK K
        refine norm_ (a' := ?_) ?_ ?_
        rotate_left
        · show Act.put _ (some 41) _ = _
          simp only [Act.put, List.setIfInBounds_toArray, List.set_cons_zero, List.set_cons_succ, i64_w, i32_w]
          rfl
        refine one_ (i := 6) (N := some 39) #[true, true, true, true, true, true, true, true, true, false, false, false, false] rfl rfl (by kernel_rfl) (by decide) (fun K hK => ?_)
        refine Row.appendRow_step (by rfl) (.tmp 34) (.tmp 38) 36 44 (.agg #[.int .i64 0, .string ⟨#[]⟩]) 2 24 (by rfl) Try.underlying36 info_entries rfl (by decide) (by decide) (.slice (some ⟨w2.heap.size, 0, none⟩) 0 0) (.slice A s.l.length c) [] (s.l) (by rfl) (by rfl) E8.out J8.out.r (fun _ => rfl) one_ent hle.out ?_
        intro v6 w6 hR hG hO
        have J6 := Lib.hid (J8.out.grown (r := w2.heap.size) hG (by omega))
        have R6 := Lib.hid hR
        have V6 := Lib.hid (own_ge (n := w2.heap.size) (b := w2.heap.size) hO ⟨rfl, by omega⟩ (by first | exact Nat.le_refl _ | (simp <;> omega)))
        have N6 := Lib.hid (N8.out.grown (row := some w2.heap.size) hG (by simp [Value.ownBlock] <;> omega))
        clear hR hG hO
        refine hK.out _ _ ⟨J6.out.b.cell 2, J6.out.x0, J6.out.x1⟩ (fun hHeld => ?_)
        clear hK K
        refine norm_ (a' := ?_) ?_ ?_
        rotate_left
        · show Act.put _ (some 39) _ = _
          simp only [Act.put, List.setIfInBounds_toArray, List.set_cons_zero, List.set_cons_succ, i64_w, i32_w]
          rfl
        exact norm_ (by simp only [putAll, Act.put, List.setIfInBounds_toArray, List.set_cons_zero, List.set_cons_succ]) (hCont ((Value.slice (some ⟨w2.heap.size, 0, none⟩) 0 0), v6, Value.slice (some ⟨w2.heap.size + 1, 0, none⟩) 1 1) _ ⟨R6.out, N6.out, J6.out, V6.out⟩)
    · skip
      refine value_ (w1 := ?_) (v := ?_) (by rfl) rfl ?_ ?_
      rotate_left 2
      · go_simp
        constructor
        · rfl
        · rfl
      have J8 := Lib.hid (J0.out.drew.alloc (.cells #[.int .i64 x.term, .string x.data] 44))
      have N8 := Lib.hid (Row.lit1 Ent.cells w2.drew 44 2 x #[.int .i64 x.term, .string x.data] rfl rfl)
      refine hK.out _ _ ⟨J8.out.b.cell 2, J8.out.x0, J8.out.x1⟩ (fun hHeld => ?_)
      clear hK K
      refine norm_ (a' := ?_) ?_ ?_
      rotate_left
      · show Act.put _ (some 41) _ = _
        simp only [Act.put, List.setIfInBounds_toArray, List.set_cons_zero, List.set_cons_succ, i64_w, i32_w]
        rfl
      refine one_ (i := 1) (N := some 34) #[true, true, true, true, true, true, false, true, true, false, false, false, false] rfl rfl (by kernel_rfl) (by decide) (fun K hK => ?_)
      refine value_ (w1 := ?_) (v := ?_) (by rfl) rfl ?_ ?_
      rotate_left 2
      · go_simp
        constructor
        · rfl
        · rfl
      have J1 := Lib.hid (J8.out.alloc (.cells #[] 44))
      have e1 := Row.empty (w2.drew.alloc (.cells #[.int .i64 x.term, .string x.data] 44)) 44 2 Ent.cells
      simp only [World.size_alloc] at e1
      have E1 := Lib.hid e1
      clear e1
      have N1 := Lib.hid (N8.out.alloc (.cells #[] 44))
      refine hK.out _ _ ⟨J1.out.b.cell 2, J1.out.x0, J1.out.x1⟩ (fun hHeld => ?_)
      clear hK K
      refine norm_ (a' := ?_) ?_ ?_
      rotate_left
      · show Act.put _ (some 34) _ = _
        simp only [Act.put, List.setIfInBounds_toArray, List.set_cons_zero, List.set_cons_succ, i64_w, i32_w]
        rfl
      refine one_ (i := 6) (N := some 39) #[true, true, true, true, true, true, true, true, true, false, false, false, false] rfl rfl (by kernel_rfl) (by decide) (fun K hK => ?_)
      refine Row.appendRow_step (by rfl) (.tmp 34) (.tmp 38) 36 44 (.agg #[.int .i64 0, .string ⟨#[]⟩]) 2 24 (by rfl) Try.underlying36 info_entries rfl (by decide) (by decide) (.slice (some ⟨(w2.heap.size + 1), 0, none⟩) 0 0) (.slice A s.l.length c) [] (s.l) (by rfl) (by rfl) E1.out J1.out.r (fun _ => rfl) one_ent hle.out ?_
      intro v6 w6 hR hG hO
      have J6 := Lib.hid (J1.out.grown (r := (w2.heap.size + 1)) hG (by omega))
      have R6 := Lib.hid hR
      have V6 := Lib.hid (own_ge (n := w2.heap.size) (b := (w2.heap.size + 1)) hO ⟨rfl, by omega⟩ (by first | exact Nat.le_refl _ | (simp <;> omega)))
      have N6 := Lib.hid (N1.out.grown (row := some (w2.heap.size + 1)) hG (by simp [Value.ownBlock] <;> omega))
      clear hR hG hO
      refine hK.out _ _ ⟨J6.out.b.cell 2, J6.out.x0, J6.out.x1⟩ (fun hHeld => ?_)
      clear hK K
      refine norm_ (a' := ?_) ?_ ?_
      rotate_left
      · show Act.put _ (some 39) _ = _
        simp only [Act.put, List.setIfInBounds_toArray, List.set_cons_zero, List.set_cons_succ, i64_w, i32_w]
        rfl
      exact norm_ (by simp only [putAll, Act.put, List.setIfInBounds_toArray, List.set_cons_zero, List.set_cons_succ]) (hCont ((Value.slice (some ⟨w2.heap.size + 1, 0, none⟩) 0 0), v6, Value.slice (some ⟨w2.heap.size, 0, none⟩) 1 1) _ ⟨R6.out, N6.out, J6.out, V6.out⟩)
  rintro ⟨v31, v36, v38⟩ w7 ⟨fr, fn, fj, fv⟩
  have R7 := Lib.hid fr
  have N7 := Lib.hid fn
  have J7 := Lib.hid fj
  have V7 := Lib.hid fv
  have hHeld := (show (w7.cell? ⟨g, 2, none⟩ = some (.slice A s.l.length c) ∧ w7.cell? ⟨w.heap.size, 0, none⟩ = some (.int .i64 x.term) ∧ w7.cell? ⟨w.heap.size, 0 + 1, none⟩ = some (.string x.data)) from ⟨fj.b.cell 2, fj.x0, fj.x1⟩)
  clear fr fn fj fv
  refine norm_ (a' := ?_) ?_ ?_
  rotate_left
  · simp only [putAll, Act.put, List.setIfInBounds_toArray, List.set_cons_zero, List.set_cons_succ]
    rfl
  refine one_ (i := 9) (N := some 42) #[true, true, true, true, true, true, true, true, true, true, false, false, false] rfl rfl (by kernel_rfl) (by decide) (fun K hK => ?_)
  refine Row.appendRow_step (by rfl) (.tmp 39) (.tmp 41) 36 44 (.agg #[.int .i64 0, .string ⟨#[]⟩]) 2 24 (by rfl) Try.underlying36 info_entries rfl (by decide) (by decide) v36 v38 ([] ++ (s.l)) [x] (by rfl) (by rfl) R7.out N7.out (fun _ => rfl) one_ent hle2.out ?_
  intro v9 w9 hR hG hO
  obtain ⟨A9, m9, c9, rfl⟩ := hR.some_slice
  have J9 := Lib.hid (J7.out.grownV hG (fun k e => V7.out k e))
  have R9 := Lib.hid hR
  have V9 := Lib.hid (own_ge2 hO (fun k e => V7.out k e) J7.out.z)
  have hc9 := J9.out.b.cell 2
  have hf9 := J9.out.b.frozen 2
  clear hR hG hO
  refine hK.out _ _ ⟨J9.out.b.cell 2, J9.out.x0, J9.out.x1⟩ (fun hHeld => ?_)
  clear hK K
  refine norm_ (a' := ?_) ?_ ?_
  rotate_left
  · show Act.put _ (some 42) _ = _
    simp only [Act.put, List.setIfInBounds_toArray, List.set_cons_zero, List.set_cons_succ, i64_w, i32_w]
    rfl
  refine pure_ (i := 10) (N := some 43) (v := ?_) (a' := ?_) #[true, true, true, true, true, true, true, true, true, true, true, false, false] rfl rfl (by kernel_rfl) (fun _ _ _ h => h) (Or.inl ⟨by rfl, ?_⟩) ?_ ?_
  rotate_left
  · intro w'
    go_simp
    with_reducible rfl
  rotate_left
  · simp only [Act.put, List.setIfInBounds_toArray, List.set_cons_zero, List.set_cons_succ, i64_w, i32_w]
    rfl
  refine pure_ (i := 11) (N := some 44) (v := ?_) (a' := ?_) #[true, true, true, true, true, true, true, true, true, true, true, true, false] rfl rfl (by kernel_rfl) (fun _ _ _ h => h) (Or.inl ⟨by rfl, ?_⟩) ?_ ?_
  rotate_left
  · intro w'
    go_simp
    with_reducible rfl
  rotate_left
  · simp only [Act.put, List.setIfInBounds_toArray, List.set_cons_zero, List.set_cons_succ, i64_w, i32_w]
    rfl
  refine last_ (i := 12) (N := none) #[true, true, true, true, true, true, true, true, true, true, true, true, true] rfl rfl (by kernel_rfl) (by decide) (fun K hK => ?_)
  refine skip_ (w1 := ?_) (by rfl) rfl ?_ ?_
  rotate_left
  · go_simp
    rfl
  refine hK.out _ _ ?_
  clear hK K
  refine done_ (by kernel_rfl) ?_

  go_wp2
  go_ret2
  have hr := R9.out
  rw [List.nil_append] at hr
  have hk : Kept w9 (w9.setCell ⟨g, 2, none⟩ (.slice A9 m9 c9)) (fun k => k = g) := (Kept.refl w9 (fun k => k = g)).setCell (p := ⟨g, 2, none⟩) (.inl rfl) _
  have hp := RAt.reset HH2.out J9.out.k hr (fun k e => V9.out k e) hk (J9.out.b.set_ 2 _)
  exact ⟨rfl, (Kept.of_below HB2.out F).trans hp.1, hp.2.mono fun k hk h => grow_sub HB2.out.size h⟩
set_option maxRecDepth 100000 in
set_option maxHeartbeats 1000000 in
theorem ref_append_bad (F : Nat → Prop) (g : Nat) (s : LogS) (x : Ent) (w : World) (h : RAt w F g s) (hb0 : 0 ≤ s.base) (hb1 : s.base ≤ 1048576) (hl : s.l.length ≤ 1048576) (hs : x.data.size ≤ 140737488355328) (hbad : mayT x.term = false ∨ x.term < s.lastTerm ∨ 4096 < x.data.size ∨ 1048576 ≤ s.last) :
    Calls Try.prog 33 #[.pointer (some ⟨g, 0, none⟩), .agg #[.int .i64 x.term, .string x.data]] w fun e w' => e = .returned (.tuple #[.int .i64 0, .int .i64 (s.app x).2.2]) ∧ Below w.heap.size w w' := by
  have hlast := ref_last F g s _ (h.below ((Below.refl _ w).alloc (Nat.le_refl _) (.cells #[.int .i64 x.term, .string x.data] 44))) hb0 hb1 hl
  have HA := Lib.hid (show (s.app x).2.2 = if mayT x.term = false then 1 else if x.term < s.lastTerm then 150 else 2 from by
    unfold LogS.app
    split
    · rfl
    · split
      · rfl
      · rename_i q1 q2
        rw [if_pos (by rcases hbad with h | h | h <;> first | exact absurd h q1 | exact absurd h q2 | exact h)])
  generalize (s.app x).2.2 = er at HA ⊢
  generalize s.lastTerm = lt at hlast hbad HA
  generalize s.last = la at hlast hbad
  have HBAD := Lib.hid hbad
  have hB0 := Lib.hid ((Below.refl _ w).alloc (Nat.le_refl _) (.cells #[.int .i64 x.term, .string x.data] 44))
  clear h hbad
  by_cases ht : 1 ≤ x.term ∧ x.term ≤ 1073741824
  · have hm : mayT x.term = true := by unfold mayT; simpa using ht
    have HA2 := Lib.hid (show er = if x.term < lt then 150 else 2 from by have := HA.out; rw [hm, if_neg (by simp)] at this; exact this)
    obtain ⟨t1, t2⟩ := ht
    have qt1 : decide (x.term < 1) = false := decide_eq_false (by omega)
    have qt2 : decide (1073741824 < x.term) = false := decide_eq_false (by omega)
    have HMT := Lib.hid hm
    clear hm
    go_enter Try.func33, Try.ntmps33
    go_wp2_with (fail)
    refine hlast.mono ?_
    rintro e w2 ⟨rfl, hb2⟩
    clear hlast
    have hX2 := Lib.hid ((Blk.new w 44 #[.int .i64 x.term, .string x.data]).kept (Kept.of_below hb2 fun _ => False) (fun h => h))
    have x0 := hX2.out.cell 0
    have x1 := hX2.out.cell 1
    have hk0 := Lib.hid (below_next hB0.out hb2)
    clear hb2
    by_cases h1 : x.term < lt
    · obtain rfl : er = 150 := by have := HA2.out; rw [if_pos h1] at this; exact this
      go_wp2
      go_ret2
      exact ⟨rfl, hk0.out⟩
    · obtain rfl : er = 2 := by have := HA2.out; rw [if_neg h1] at this; exact this
      have h2 : lt ≤ x.term := by omega
      by_cases h3 : 4096 < x.data.size
      · have h4 : (4096 : Int) < (x.data.size : Int) := by omega
        clear h1 h3
        go_wp2
        go_ret2
        exact ⟨rfl, hk0.out⟩
      · have h4 : (x.data.size : Int) ≤ 4096 := by omega
        have h5 : 1048576 ≤ la := by rcases HBAD.out with h | h | h | h <;> first | (rw [HMT.out] at h; cases h) | omega
        clear h1 h3
        go_wp2
        go_ret2
        exact ⟨rfl, hk0.out⟩
  · have hm : mayT x.term = false := by unfold mayT; rw [Bool.and_eq_false_iff, decide_eq_false_iff_not, decide_eq_false_iff_not]; omega
    obtain rfl : er = 1 := by have := HA.out; rw [hm, if_pos rfl] at this; exact this
    have q12 : x.term < 1 ∨ 1 ≤ x.term ∧ 1073741824 < x.term := by omega
    clear hm ht
    rcases q12 with q | ⟨q1, q2⟩
    · go_enter Try.func33, Try.ntmps33
      go_wp2
      go_ret2
      exact ⟨rfl, hB0.out⟩
    · have qt1 : decide (x.term < 1) = false := decide_eq_false (by omega)
      go_enter Try.func33, Try.ntmps33
      go_wp2
      go_ret2
      exact ⟨rfl, hB0.out⟩
theorem ref_append (F : Nat → Prop) (g : Nat) (s : LogS) (x : Ent) (w : World) (h : RAt w F g s) (hb0 : 0 ≤ s.base) (hl : s.last ≤ 1048576) (hs : x.data.size ≤ 140737488355328) :
    Calls Try.prog 33 #[.pointer (some ⟨g, 0, none⟩), .agg #[.int .i64 x.term, .string x.data]] w fun e w' => e = .returned (.tuple #[.int .i64 (s.app x).2.1, .int .i64 (s.app x).2.2]) ∧ RPost w F g (s.app x).1 w' := by
  have hll : s.base + (s.l.length : Int) ≤ 1048576 := hl
  by_cases hbad : mayT x.term = false ∨ x.term < s.lastTerm ∨ 4096 < x.data.size ∨ 1048576 ≤ s.last
  · have e1 : (s.app x).1 = s ∧ (s.app x).2.1 = 0 := by
      unfold LogS.app
      split
      · exact ⟨rfl, rfl⟩
      · split
        · exact ⟨rfl, rfl⟩
        · rename_i q1 q2
          rw [if_pos (by rcases hbad with h | h | h <;> first | exact absurd h q1 | exact absurd h q2 | exact h)]
          exact ⟨rfl, rfl⟩
    rw [e1.1, e1.2]
    refine (ref_append_bad F g s x w h hb0 (by omega) (by omega) hs hbad).mono ?_
    rintro e w' ⟨rfl, hb⟩
    exact ⟨rfl, .of_below h hb⟩
  · have e1 : s.app x = (⟨s.base, s.term, s.l ++ [x]⟩, s.last + 1, 0) := by
      unfold LogS.app
      rw [if_neg (fun h => hbad (.inl h)), if_neg (fun h => hbad (.inr (.inl h))), if_neg (fun h => hbad (.inr (.inr h)))]
    rw [e1]
    refine ref_append_ok F g s x w h hb0 ?_ (by cases hm : mayT x.term with | true => rfl | false => exact absurd (.inl hm) hbad) (by omega) (by omega)
    have : ¬ 1048576 ≤ s.last := fun h => hbad (.inr (.inr (.inr h)))
    unfold LogS.last at this
    omega
end Go.Proofs.Ytpimpdgibcjbeaa
