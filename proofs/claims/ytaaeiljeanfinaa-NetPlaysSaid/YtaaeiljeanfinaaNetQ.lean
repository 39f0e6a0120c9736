import Derived.Test.YtaaeiljeanfinaaNetP
import Derived.Test.YtaaeiljeanfinaaWLast
namespace Go.Proofs.Ytaaeiljeanfinaa
open Go Go.RowKit
open Go.Proofs.YtaaeiljeanfinaaW.PrintLast
set_option linter.unusedVariables false
set_option linter.unusedSimpArgs false

theorem info_rl : (Try.prog.info? 81).map (fun i => (i.zero, i.size, i.bytes)) = some (some (.agg #[.int .i64 0, .int .i64 0, .int .i64 0, .string ⟨#[]⟩]), 4, 40) := by kernel_rfl
theorem one_letter : ∀ x : Letter, ∀ u ∈ Letter.cells x, u.oneCell' = true := fun x u hu => by simp [Letter.cells] at hu; rcases hu with rfl | rfl | rfl | rfl <;> rfl
theorem own_ge {v1 v : Value} {H b n : Nat} (h : v1.ownBlock = v.ownBlock ∨ v1.ownBlock = some H) (hb : v.ownBlock = some b ∧ n ≤ b) (hH : n ≤ H) : ∀ k, v1.ownBlock = some k → n ≤ k := by
  intro k e
  rcases h with h | h <;> rw [h] at e
  · rw [hb.1] at e; injection e with e; omega
  · injection e with e; omega
theorem own_ge2 {v1 v : Value} {H n : Nat} (h : v1.ownBlock = v.ownBlock ∨ v1.ownBlock = some H) (hb : ∀ k, v.ownBlock = some k → n ≤ k) (hH : n ≤ H) : ∀ k, v1.ownBlock = some k → n ≤ k := by
  intro k e
  rcases h with h | h <;> rw [h] at e
  · exact hb k e
  · injection e with e; omega
/-- A new row in the place of the old one. -/
theorem RefAt.reset {w w1 : World} {F : Nat → Prop} {g : Nat} {s : RefS} {v : Value} {l : List Letter} {next : Int} (h : RefAt w F g s) (hb : Below w.heap.size w w1) (hr : Row w1 81 4 Letter.cells v l) (hv : ∀ k, v.ownBlock = some k → w.heap.size ≤ k)
    {w2 : World} (hk : Kept w1 w2 (fun k => k = g)) (hg2 : ∀ vl vc, Blk w1 g 79 #[.int .i64 s.nodes, vl, .int .i64 s.next, vc] → Blk w2 g 79 #[.int .i64 s.nodes, v, .int .i64 next, vc]) :
    RefPost w F g ⟨s.nodes, next, l, s.cut⟩ w2 := by
  obtain ⟨vl, vc, bs, N, hb0, h1, h2, h3, hg, f1, f2⟩ := h.below hb
  have hgl : g < w.heap.size := by obtain ⟨vl, vc, bs, N, hb0, _⟩ := h; exact hb0.lt
  have hk2 : Kept w w2 F := (Kept.of_below hb F).then_ hk (fun k e => .inl (e ▸ hg))
  refine ⟨hk2, v, vc, bs, N, hg2 _ _ hb0, ?_, ?_, ?_, .inl hg, ?_, fun k e => .inl (f2 k e)⟩
  · exact hr.kept hk (fun k e e2 => by have := hv k e; omega)
  · exact h2.kept hk (fun k e e2 => h2.ne_blk hb0 (by decide) (e2 ▸ e))
  · refine ⟨h3.len, h3.nodup, fun i i1 i2 => ⟨(h3.each i i1 i2).1.kept hk (fun k e e2 => (h3.each i i1 i2).1.ne_blk hb0 (by decide) (e2 ▸ e)), .inl (h3.each i i1 i2).2⟩⟩
  · intro k e
    exact .inr ⟨hv k e, Nat.lt_of_lt_of_le (hr.lt e) hk.size⟩
/-- What holds all through put's great region. -/
structure PI (w W : World) (g : Nat) (nodes next : Int) (vl vc : Value) (l : List Letter) (src dst : Int) (bd : ByteArray) : Prop where
  b : Blk W g 79 #[.int .i64 nodes, vl, .int .i64 next, vc]
  x : Blk W w.heap.size 81 #[.int .i64 next, .int .i64 src, .int .i64 dst, .string bd]
  r : Row W 81 4 Letter.cells vl l
  k : Below w.heap.size w W
  z : w.heap.size + 1 ≤ W.heap.size
  g : g < w.heap.size
  v : ∀ k, vl.ownBlock = some k → k < w.heap.size
section
variable {w W W' : World} {g : Nat} {nodes next : Int} {vl vc : Value} {l : List Letter} {src dst : Int} {bd : ByteArray}
theorem PI.alloc (h : PI w W g nodes next vl vc l src dst bd) (o : Obj) : PI w (W.alloc o) g nodes next vl vc l src dst bd := ⟨h.b.alloc o, h.x.alloc o, h.r.alloc o, h.k.alloc (by have := h.z; omega) o, by have := h.z; simp; omega, h.g, h.v⟩
theorem PI.drew (h : PI w W g nodes next vl vc l src dst bd) : PI w W.drew g nodes next vl vc l src dst bd := ⟨h.b, h.x, h.r, h.k.drew, h.z, h.g, h.v⟩
theorem PI.grownV {row : Option Nat} (h : PI w W g nodes next vl vc l src dst bd) (hg : W.grownBy W' row) (hr : ∀ k, row = some k → w.heap.size + 1 ≤ k) : PI w W' g nodes next vl vc l src dst bd :=
  ⟨h.b.grown hg (fun e => by have := hr _ e.symm; have := h.g; omega), h.x.grown hg (fun e => by have := hr _ e.symm; omega), h.r.grown hg (fun k e e2 => by have := hr _ e2.symm; have := h.v k e; omega), h.k.grown hg (by have := h.z; omega) (fun k e => by have := hr k e; omega), Nat.le_trans h.z hg.size, h.g, h.v⟩
theorem PI.grown {r : Nat} (h : PI w W g nodes next vl vc l src dst bd) (hg : W.grownBy W' (some r)) (hr : w.heap.size + 1 ≤ r) : PI w W' g nodes next vl vc l src dst bd := h.grownV hg (fun k e => by injection e with e; omega)
end

set_option maxRecDepth 100000 in
set_option maxHeartbeats 4000000 in
theorem ref_put_ok (F : Nat → Prop) (g : Nat) (s : RefS) (id src dst : Int) (bd : ByteArray) (w : World) (h : RefAt w F g s) (hf : ¬ s.full bd) (hn : 0 ≤ s.next) :
    Calls Try.prog 50 #[.pointer (some ⟨g, 0, none⟩), .agg #[.int .i64 id, .int .i64 src, .int .i64 dst, .string bd]] w fun e w' => e = .returned (.tuple #[.int .i64 s.next, .int .i64 0]) ∧ RefPost w F g (s.add src dst bd) w' := by
  have H := Lib.hid h
  obtain ⟨vl, vc, bs, N, hb, h1, h2, h3, hg, f1, f2⟩ := h
  have hlt := hb.lt
  have hc1 := hb.cell 1
  have hc2 := hb.cell 2
  have hfz := hb.frozen
  obtain ⟨A, c, rfl⟩ := h1.shape
  have HB := Lib.hid hb
  have H1 := Lib.hid h1
  have a1 : (bd.size : Int) ≤ 65536 := by unfold RefS.full at hf; omega
  have a2 : (s.l.length : Int) < 4096 := by unfold RefS.full at hf; omega
  have a3 : s.next < 1099511627776 := by unfold RefS.full at hf; omega
  have hgl : g ≠ w.heap.size := by omega
  clear hb h1 h2 h3 hf
  go_enter Try.func50, Try.ntmps50
  go_wp2
  have J0 := Lib.hid (show PI w (w.alloc (.cells #[.int .i64 s.next, .int .i64 src, .int .i64 dst, .string bd] 81)) g s.nodes s.next (.slice A s.l.length c) vc s.l src dst bd from ⟨HB.out.alloc _, Blk.new w _ _, H1.out.alloc _, (Below.refl _ _).alloc (Nat.le_refl _) _, by simp, hlt, fun k e => H1.out.lt e⟩)
  have hz0 : (w.alloc (.cells #[.int .i64 s.next, .int .i64 src, .int .i64 dst, .string bd] 81)).heap.size = w.heap.size + 1 := by simp
  generalize (w.alloc (.cells #[.int .i64 s.next, .int .i64 src, .int .i64 dst, .string bd] 81)) = W0 at J0 hz0 ⊢
  have HZ0 := Lib.hid hz0
  obtain ⟨X, HX⟩ : ∃ X : Letter, Hid (X = ⟨s.next, src, dst, bd⟩) := ⟨_, Lib.hid rfl⟩
  have HXc : Hid (#[Value.int .i64 s.next, .int .i64 src, .int .i64 dst, .string bd].toList = X.cells) := Lib.hid (by rw [HX.out]; rfl)
  have hle : (0 + s.l.length) * 40 ≤ 140737488355328 := by omega
  have hle2 : (s.l.length + 1) * 40 ≤ 140737488355328 := by omega
  clear hz0 hc1 hc2 hfz
  refine start_ (n := 13) (S := fun w' => w'.cell? ⟨g, 1, none⟩ = some (.slice A s.l.length c) ∧ w'.cell? ⟨w.heap.size, 0, none⟩ = some (.int .i64 s.next) ∧ w'.cell? ⟨w.heap.size, 1, none⟩ = some (.int .i64 src) ∧ w'.cell? ⟨w.heap.size, 2, none⟩ = some (.int .i64 dst) ∧ w'.cell? ⟨w.heap.size, 3, none⟩ = some (.string bd)) (ds := [12]) #[false, false, false, false, false, false, false, false, false, false, false, false, false] (by kernel_rfl) rfl rfl ⟨J0.out.drew.b.cell 1, J0.out.drew.x.cell 0, J0.out.drew.x.cell 1, J0.out.drew.x.cell 2, J0.out.drew.x.cell 3⟩ (fun hHeld => ?_)
  refine pure_ (i := 0) (N := some 30) (v := ?_) (a' := ?_) #[true, false, false, false, false, false, false, false, false, false, false, false, false] rfl rfl (by kernel_rfl) (fun _ _ _ h => h) (Or.inl ⟨by rfl, ?_⟩) ?_ ?_
  rotate_left
  · intro w'
    go_simp
    with_reducible rfl
  rotate_left
  · simp only [Act.put, List.setIfInBounds_toArray, List.set_cons_zero, List.set_cons_succ, i64_w, i32_w]
    rfl
  refine pure_ (i := 2) (N := some 32) (v := ?_) (a' := ?_) #[true, false, true, false, false, false, false, false, false, false, false, false, false] rfl rfl (by kernel_rfl) (fun _ _ _ h => h) (Or.inl ⟨by rfl, ?_⟩) ?_ ?_
  rotate_left
  · intro w'
    go_simp
    with_reducible rfl
  rotate_left
  · simp only [Act.put, List.setIfInBounds_toArray, List.set_cons_zero, List.set_cons_succ, i64_w, i32_w]
    rfl
  refine pure_ (i := 3) (N := some 33) (v := ?_) (a' := ?_) #[true, false, true, true, false, false, false, false, false, false, false, false, false] rfl rfl (by kernel_rfl) (fun _ _ _ h => h) (Or.inl ⟨by rfl, ?_⟩) ?_ ?_
  rotate_left
  · intro w'
    go_simp
    with_reducible rfl
  rotate_left
  · simp only [Act.put, List.setIfInBounds_toArray, List.set_cons_zero, List.set_cons_succ, i64_w, i32_w]
    rfl
  refine pure_ (i := 4) (N := some 34) (v := ?_) (a' := ?_) #[true, false, true, true, true, false, false, false, false, false, false, false, false] rfl rfl (by kernel_rfl) (fun _ _ _ h => h) (Or.inl ⟨by rfl, ?_⟩) ?_ ?_
  rotate_left
  · intro w'
    go_simp
    with_reducible rfl
  rotate_left
  · simp only [Act.put, List.setIfInBounds_toArray, List.set_cons_zero, List.set_cons_succ, i64_w, i32_w]
    rfl
  refine take_ (i := 5) (N := some 35) (v := ?_) (a' := ?_) #[true, false, true, true, true, true, false, false, false, false, false, false, false] rfl rfl (by kernel_rfl) (fun _ _ _ h => h) (Or.inl ⟨by rfl, ?_⟩) hHeld ?_ ?_
  rotate_left
  · rintro w' ⟨s0, s1, s2, s3, s4⟩
    go_simp
    with_reducible rfl
  rotate_left
  · simp only [Act.put, List.setIfInBounds_toArray, List.set_cons_zero, List.set_cons_succ, i64_w, i32_w]
    rfl
  refine take_ (i := 7) (N := some 37) (v := ?_) (a' := ?_) #[true, false, true, true, true, true, false, true, false, false, false, false, false] rfl rfl (by kernel_rfl) (fun _ _ _ h => h) (Or.inl ⟨by rfl, ?_⟩) hHeld ?_ ?_
  rotate_left
  · rintro w' ⟨s0, s1, s2, s3, s4⟩
    go_simp
    with_reducible rfl
  rotate_left
  · simp only [Act.put, List.setIfInBounds_toArray, List.set_cons_zero, List.set_cons_succ, i64_w, i32_w]
    rfl
  refine join_ (σ := Value × Value × Value) 4 #[true, true, true, true, true, true, true, true, true, false, false, false, false] (fun q => [(31, q.1), (36, q.2.1), (38, q.2.2)]) (fun q w' => Row w' 81 4 Letter.cells q.2.1 ([] ++ s.l) ∧ Row w' 81 4 Letter.cells q.2.2 [X] ∧ PI w w' g s.nodes s.next (.slice A s.l.length c) vc s.l src dst bd ∧ (∀ k, q.2.1.ownBlock = some k → W0.heap.size ≤ k)) ?_ ?_
  rotate_left
  · intro hCont
    refine two_ (i := 1) (j := 8) (Ni := some 31) (Nj := some 38) #[true, true, true, true, true, true, false, true, false, false, false, false, false] #[true, false, true, true, true, true, false, true, true, false, false, false, false] rfl rfl rfl rfl (by kernel_rfl) (by decide) (by decide) (fun K hK => ?_) (fun K hK => ?_)
    · skip
      refine value_ (w1 := ?_) (v := ?_) (by rfl) rfl ?_ ?_
      rotate_left 2
      · go_simp
        constructor
        · rfl
        · rfl
      have J1 := Lib.hid (J0.out.drew.alloc (.cells #[] 81))
      have E1 := Lib.hid (Row.empty W0.drew 81 4 Letter.cells)
      refine hK.out _ _ ⟨J1.out.b.cell 1, J1.out.x.cell 0, J1.out.x.cell 1, J1.out.x.cell 2, J1.out.x.cell 3⟩ (fun hHeld => ?_)
      clear hK K
      refine norm_ (a' := ?_) ?_ ?_
      rotate_left
      · show Act.put _ (some 31) _ = _
        simp only [Act.put, List.setIfInBounds_toArray, List.set_cons_zero, List.set_cons_succ, i64_w, i32_w]
        rfl
      refine two_ (i := 6) (j := 8) (Ni := some 36) (Nj := some 38) #[true, true, true, true, true, true, true, true, false, false, false, false, false] #[true, true, true, true, true, true, false, true, true, false, false, false, false] rfl rfl rfl rfl (by kernel_rfl) (by decide) (by decide) (fun K hK => ?_) (fun K hK => ?_)
      · skip
        refine Row.appendRow_step (by rfl) (.tmp 31) (.tmp 35) 76 81 (.agg #[.int .i64 0, .int .i64 0, .int .i64 0, .string ⟨#[]⟩]) 4 40 (by rfl) Try.underlying76 info_rl rfl (by decide) (by decide) (.slice (some ⟨W0.heap.size, 0, none⟩) 0 0) (.slice A s.l.length c) [] s.l (by rfl) (by rfl) E1.out J1.out.r (fun _ => rfl) one_letter hle ?_
        intro v6 w6 hR hG hO
        have J6 := Lib.hid (J1.out.grown (r := W0.heap.size) hG (by have := HZ0.out; omega))
        have R6 := Lib.hid hR
        have V6 := Lib.hid (own_ge (n := W0.heap.size) (b := W0.heap.size) hO ⟨rfl, by omega⟩ (by first | exact Nat.le_refl _ | (simp <;> omega)))
        clear hR hG hO
        refine hK.out _ _ ⟨J6.out.b.cell 1, J6.out.x.cell 0, J6.out.x.cell 1, J6.out.x.cell 2, J6.out.x.cell 3⟩ (fun hHeld => ?_)
        clear hK K
        refine norm_ (a' := ?_) ?_ ?_
        rotate_left
        · show Act.put _ (some 36) _ = _
          simp only [Act.put, List.setIfInBounds_toArray, List.set_cons_zero, List.set_cons_succ, i64_w, i32_w]
          rfl
        refine one_ (i := 8) (N := some 38) #[true, true, true, true, true, true, true, true, true, false, false, false, false] rfl rfl (by kernel_rfl) (by decide) (fun K hK => ?_)
        refine value_ (w1 := ?_) (v := ?_) (by rfl) rfl ?_ ?_
        rotate_left 2
        · go_simp
          constructor
          · rfl
          · rfl
        have J8 := Lib.hid (J6.out.alloc (.cells #[.int .i64 s.next, .int .i64 src, .int .i64 dst, .string bd] 81))
        have N8 := Lib.hid (Row.lit1 Letter.cells w6 81 4 X #[.int .i64 s.next, .int .i64 src, .int .i64 dst, .string bd] HXc.out rfl)
        have R8 := Lib.hid (R6.out.alloc (.cells #[.int .i64 s.next, .int .i64 src, .int .i64 dst, .string bd] 81))
        refine hK.out _ _ ⟨J8.out.b.cell 1, J8.out.x.cell 0, J8.out.x.cell 1, J8.out.x.cell 2, J8.out.x.cell 3⟩ (fun hHeld => ?_)
        clear hK K
        refine norm_ (a' := ?_) ?_ ?_
        rotate_left
        · show Act.put _ (some 38) _ = _
          simp only [Act.put, List.setIfInBounds_toArray, List.set_cons_zero, List.set_cons_succ, i64_w, i32_w]
          rfl
        exact norm_ (by simp only [putAll, Act.put, List.setIfInBounds_toArray, List.set_cons_zero, List.set_cons_succ]) (hCont ((Value.slice (some ⟨W0.heap.size, 0, none⟩) 0 0), v6, Value.slice (some ⟨w6.heap.size, 0, none⟩) 1 1) _ ⟨R8.out, N8.out, J8.out, V6.out⟩)
      · skip
        refine value_ (w1 := ?_) (v := ?_) (by rfl) rfl ?_ ?_
        rotate_left 2
        · go_simp
          constructor
          · rfl
          · rfl
        have J8 := Lib.hid (J1.out.alloc (.cells #[.int .i64 s.next, .int .i64 src, .int .i64 dst, .string bd] 81))
        have n8 := Row.lit1 Letter.cells (W0.drew.alloc (.cells #[] 81)) 81 4 X #[.int .i64 s.next, .int .i64 src, .int .i64 dst, .string bd] HXc.out rfl
        simp only [World.size_alloc] at n8
        have N8 := Lib.hid n8
        clear n8
        have E8 := Lib.hid (E1.out.alloc (.cells #[.int .i64 s.next, .int .i64 src, .int .i64 dst, .string bd] 81))
        refine hK.out _ _ ⟨J8.out.b.cell 1, J8.out.x.cell 0, J8.out.x.cell 1, J8.out.x.cell 2, J8.out.x.cell 3⟩ (fun hHeld => ?_)
        clear hK K
        refine norm_ (a' := ?_) ?_ ?_
        rotate_left
        · show Act.put _ (some 38) _ = _
          simp only [Act.put, List.setIfInBounds_toArray, List.set_cons_zero, List.set_cons_succ, i64_w, i32_w]
          rfl
        refine one_ (i := 6) (N := some 36) #[true, true, true, true, true, true, true, true, true, false, false, false, false] rfl rfl (by kernel_rfl) (by decide) (fun K hK => ?_)
        refine Row.appendRow_step (by rfl) (.tmp 31) (.tmp 35) 76 81 (.agg #[.int .i64 0, .int .i64 0, .int .i64 0, .string ⟨#[]⟩]) 4 40 (by rfl) Try.underlying76 info_rl rfl (by decide) (by decide) (.slice (some ⟨W0.heap.size, 0, none⟩) 0 0) (.slice A s.l.length c) [] s.l (by rfl) (by rfl) E8.out J8.out.r (fun _ => rfl) one_letter hle ?_
        intro v6 w6 hR hG hO
        have J6 := Lib.hid (J8.out.grown (r := W0.heap.size) hG (by have := HZ0.out; omega))
        have R6 := Lib.hid hR
        have V6 := Lib.hid (own_ge (n := W0.heap.size) (b := W0.heap.size) hO ⟨rfl, by omega⟩ (by first | exact Nat.le_refl _ | (simp <;> omega)))
        have N6 := Lib.hid (N8.out.grown (row := some W0.heap.size) hG (by simp [Value.ownBlock] <;> omega))
        clear hR hG hO
        refine hK.out _ _ ⟨J6.out.b.cell 1, J6.out.x.cell 0, J6.out.x.cell 1, J6.out.x.cell 2, J6.out.x.cell 3⟩ (fun hHeld => ?_)
        clear hK K
        refine norm_ (a' := ?_) ?_ ?_
        rotate_left
        · show Act.put _ (some 36) _ = _
          simp only [Act.put, List.setIfInBounds_toArray, List.set_cons_zero, List.set_cons_succ, i64_w, i32_w]
          rfl
        exact norm_ (by simp only [putAll, Act.put, List.setIfInBounds_toArray, List.set_cons_zero, List.set_cons_succ]) (hCont ((Value.slice (some ⟨W0.heap.size, 0, none⟩) 0 0), v6, Value.slice (some ⟨W0.heap.size + 1, 0, none⟩) 1 1) _ ⟨R6.out, N6.out, J6.out, V6.out⟩)
    · skip
      refine value_ (w1 := ?_) (v := ?_) (by rfl) rfl ?_ ?_
      rotate_left 2
      · go_simp
        constructor
        · rfl
        · rfl
      have J8 := Lib.hid (J0.out.drew.alloc (.cells #[.int .i64 s.next, .int .i64 src, .int .i64 dst, .string bd] 81))
      have N8 := Lib.hid (Row.lit1 Letter.cells W0.drew 81 4 X #[.int .i64 s.next, .int .i64 src, .int .i64 dst, .string bd] HXc.out rfl)
      refine hK.out _ _ ⟨J8.out.b.cell 1, J8.out.x.cell 0, J8.out.x.cell 1, J8.out.x.cell 2, J8.out.x.cell 3⟩ (fun hHeld => ?_)
      clear hK K
      refine norm_ (a' := ?_) ?_ ?_
      rotate_left
      · show Act.put _ (some 38) _ = _
        simp only [Act.put, List.setIfInBounds_toArray, List.set_cons_zero, List.set_cons_succ, i64_w, i32_w]
        rfl
      refine one_ (i := 1) (N := some 31) #[true, true, true, true, true, true, false, true, true, false, false, false, false] rfl rfl (by kernel_rfl) (by decide) (fun K hK => ?_)
      refine value_ (w1 := ?_) (v := ?_) (by rfl) rfl ?_ ?_
      rotate_left 2
      · go_simp
        constructor
        · rfl
        · rfl
      have J1 := Lib.hid (J8.out.alloc (.cells #[] 81))
      have e1 := Row.empty (W0.drew.alloc (.cells #[.int .i64 s.next, .int .i64 src, .int .i64 dst, .string bd] 81)) 81 4 Letter.cells
      simp only [World.size_alloc] at e1
      have E1 := Lib.hid e1
      clear e1
      have N1 := Lib.hid (N8.out.alloc (.cells #[] 81))
      refine hK.out _ _ ⟨J1.out.b.cell 1, J1.out.x.cell 0, J1.out.x.cell 1, J1.out.x.cell 2, J1.out.x.cell 3⟩ (fun hHeld => ?_)
      clear hK K
      refine norm_ (a' := ?_) ?_ ?_
      rotate_left
      · show Act.put _ (some 31) _ = _
        simp only [Act.put, List.setIfInBounds_toArray, List.set_cons_zero, List.set_cons_succ, i64_w, i32_w]
        rfl
      refine one_ (i := 6) (N := some 36) #[true, true, true, true, true, true, true, true, true, false, false, false, false] rfl rfl (by kernel_rfl) (by decide) (fun K hK => ?_)
      refine Row.appendRow_step (by rfl) (.tmp 31) (.tmp 35) 76 81 (.agg #[.int .i64 0, .int .i64 0, .int .i64 0, .string ⟨#[]⟩]) 4 40 (by rfl) Try.underlying76 info_rl rfl (by decide) (by decide) (.slice (some ⟨(W0.heap.size + 1), 0, none⟩) 0 0) (.slice A s.l.length c) [] s.l (by rfl) (by rfl) E1.out J1.out.r (fun _ => rfl) one_letter hle ?_
      intro v6 w6 hR hG hO
      have J6 := Lib.hid (J1.out.grown (r := (W0.heap.size + 1)) hG (by have := HZ0.out; omega))
      have R6 := Lib.hid hR
      have V6 := Lib.hid (own_ge (n := W0.heap.size) (b := (W0.heap.size + 1)) hO ⟨rfl, by omega⟩ (by first | exact Nat.le_refl _ | (simp <;> omega)))
      have N6 := Lib.hid (N1.out.grown (row := some (W0.heap.size + 1)) hG (by simp [Value.ownBlock] <;> omega))
      clear hR hG hO
      refine hK.out _ _ ⟨J6.out.b.cell 1, J6.out.x.cell 0, J6.out.x.cell 1, J6.out.x.cell 2, J6.out.x.cell 3⟩ (fun hHeld => ?_)
      clear hK K
      refine norm_ (a' := ?_) ?_ ?_
      rotate_left
      · show Act.put _ (some 36) _ = _
        simp only [Act.put, List.setIfInBounds_toArray, List.set_cons_zero, List.set_cons_succ, i64_w, i32_w]
        rfl
      exact norm_ (by simp only [putAll, Act.put, List.setIfInBounds_toArray, List.set_cons_zero, List.set_cons_succ]) (hCont ((Value.slice (some ⟨W0.heap.size + 1, 0, none⟩) 0 0), v6, Value.slice (some ⟨W0.heap.size, 0, none⟩) 1 1) _ ⟨R6.out, N6.out, J6.out, V6.out⟩)
  rintro ⟨v31, v36, v38⟩ w7 ⟨fr, fn, fj, fv⟩
  have R7 := Lib.hid fr
  have N7 := Lib.hid fn
  have J7 := Lib.hid fj
  have V7 := Lib.hid fv
  have hHeld := (show (w7.cell? ⟨g, 1, none⟩ = some (.slice A s.l.length c) ∧ w7.cell? ⟨w.heap.size, 0, none⟩ = some (.int .i64 s.next) ∧ w7.cell? ⟨w.heap.size, 1, none⟩ = some (.int .i64 src) ∧ w7.cell? ⟨w.heap.size, 2, none⟩ = some (.int .i64 dst) ∧ w7.cell? ⟨w.heap.size, 3, none⟩ = some (.string bd)) from ⟨fj.b.cell 1, fj.x.cell 0, fj.x.cell 1, fj.x.cell 2, fj.x.cell 3⟩)
  clear fr fn fj fv
  refine norm_ (a' := ?_) ?_ ?_
  rotate_left
  · simp only [putAll, Act.put, List.setIfInBounds_toArray, List.set_cons_zero, List.set_cons_succ]
    rfl
  refine one_ (i := 9) (N := some 39) #[true, true, true, true, true, true, true, true, true, true, false, false, false] rfl rfl (by kernel_rfl) (by decide) (fun K hK => ?_)
  refine Row.appendRow_step (by rfl) (.tmp 36) (.tmp 38) 76 81 (.agg #[.int .i64 0, .int .i64 0, .int .i64 0, .string ⟨#[]⟩]) 4 40 (by rfl) Try.underlying76 info_rl rfl (by decide) (by decide) v36 v38 ([] ++ s.l) [X] (by rfl) (by rfl) R7.out N7.out (fun _ => rfl) one_letter hle2 ?_
  intro v9 w9 hR hG hO
  obtain ⟨A9, m9, c9, rfl⟩ := hR.some_slice
  have J9 := Lib.hid (J7.out.grownV hG (fun k e => by have := V7.out k e; have := HZ0.out; omega))
  have R9 := Lib.hid hR
  have V9 := Lib.hid (own_ge2 hO (fun k e => by have := V7.out k e; have := HZ0.out; omega) J7.out.z)
  have hc9 := J9.out.b.cell 1
  have hf9 := J9.out.b.frozen 1
  clear hR hG hO
  refine hK.out _ _ ⟨J9.out.b.cell 1, J9.out.x.cell 0, J9.out.x.cell 1, J9.out.x.cell 2, J9.out.x.cell 3⟩ (fun hHeld => ?_)
  clear hK K
  refine norm_ (a' := ?_) ?_ ?_
  rotate_left
  · show Act.put _ (some 39) _ = _
    simp only [Act.put, List.setIfInBounds_toArray, List.set_cons_zero, List.set_cons_succ, i64_w, i32_w]
    rfl
  refine pure_ (i := 10) (N := some 40) (v := ?_) (a' := ?_) #[true, true, true, true, true, true, true, true, true, true, true, false, false] rfl rfl (by kernel_rfl) (fun _ _ _ h => h) (Or.inl ⟨by rfl, ?_⟩) ?_ ?_
  rotate_left
  · intro w'
    go_simp
    with_reducible rfl
  rotate_left
  · simp only [Act.put, List.setIfInBounds_toArray, List.set_cons_zero, List.set_cons_succ, i64_w, i32_w]
    rfl
  refine pure_ (i := 11) (N := some 41) (v := ?_) (a' := ?_) #[true, true, true, true, true, true, true, true, true, true, true, true, false] rfl rfl (by kernel_rfl) (fun _ _ _ h => h) (Or.inl ⟨by rfl, ?_⟩) ?_ ?_
  rotate_left
  · intro w'
    go_simp
    with_reducible rfl
  rotate_left
  · simp only [Act.put, List.setIfInBounds_toArray, List.set_cons_zero, List.set_cons_succ, i64_w, i32_w]
    rfl
  refine last_ (i := 12) (N := none) #[true, true, true, true, true, true, true, true, true, true, true, true, true] rfl rfl (by kernel_rfl) (by decide) (fun K hK => ?_)
  refine skip_ (w1 := ?_) (by rfl) rfl ?_ ?_
  rotate_left
  · go_simp
    rfl
  refine hK.out _ _ ?_
  clear hK K
  refine done_ (by kernel_rfl) ?_

  have z0 := J9.out.x.cell 0
  have g2 := J9.out.b.cell 2
  have g2f := J9.out.b.frozen 2
  go_wp2
  go_ret2
  refine ⟨rfl, ?_⟩
  have hXX := HX.out
  have hr := R9.out
  rw [hXX, List.nil_append] at hr
  have hk : Kept w9 ((w9.setCell ⟨g, 1, none⟩ (.slice A9 m9 c9)).setCell ⟨g, 2, none⟩ (.int .i64 (s.next + 1))) (fun k => k = g) := ((Kept.refl w9 (fun k => k = g)).setCell (p := ⟨g, 1, none⟩) (.inl rfl) _).setCell (p := ⟨g, 2, none⟩) (.inl rfl) _
  exact RefAt.reset (next := s.next + 1) H.out J9.out.k hr (fun k e => by have := V9.out k e; omega) hk (fun vl vc hb => (hb.set_ 1 _).set_ 2 _)
end Go.Proofs.Ytaaeiljeanfinaa
