import Derived.Test.YtaaeiljeanfinaaNetQ
namespace Go.Proofs.Ytaaeiljeanfinaa
open Go Go.RowKit
open Go.Proofs.YtaaeiljeanfinaaW.PrintLast
set_option linter.unusedVariables false
set_option linter.unusedSimpArgs false

theorem Row.prefix_ {α : Type} {w : World} {e sz g n c : Nat} {enc : α → List Value} {l : List α} (h : Row w e sz enc (.slice (some ⟨g, 0, none⟩) n c) l) (i : Nat) (hi : i ≤ l.length ∧ ∀ x, (enc x).length = sz) : Row w e sz enc (.slice (some ⟨g, 0, none⟩) i c) (l.take i) := by
  obtain ⟨rfl, cur, hg, hc, hm, hs, ht⟩ := h.block
  refine Row.of_block hg (by rw [List.length_take]; omega) (by omega) hm hs hi.2 ?_
  have e : (l.flatMap enc).take (i * sz) = (l.take i).flatMap enc := by
    have e1 : l.flatMap enc = (l.take i).flatMap enc ++ (l.drop i).flatMap enc := by rw [← List.flatMap_append, List.take_append_drop]
    rw [e1, List.take_left' (by rw [flat_length hi.2, List.length_take, Nat.min_eq_left hi.1])]
  rw [← e, ← ht, List.take_take, Nat.min_eq_left (Nat.mul_le_mul_right _ hi.1)]
/-- What holds all through a region that lays a list anew. -/
structure DI (w W : World) (g : Nat) (s : RefS) (vl vc : Value) : Prop where
  b : Blk W g 79 #[.int .i64 s.nodes, vl, .int .i64 s.next, vc]
  r : Row W 81 4 Letter.cells vl s.l
  k : Below w.heap.size w W
  g : g < w.heap.size
  v : ∀ k, vl.ownBlock = some k → k < w.heap.size
section
variable {w W W' : World} {g : Nat} {s : RefS} {vl vc : Value}
theorem DI.alloc (h : DI w W g s vl vc) (o : Obj) : DI w (W.alloc o) g s vl vc := ⟨h.b.alloc o, h.r.alloc o, h.k.alloc h.k.size o, h.g, h.v⟩
theorem DI.drew (h : DI w W g s vl vc) : DI w W.drew g s vl vc := ⟨h.b, h.r, h.k.drew, h.g, h.v⟩
theorem DI.grownV {row : Option Nat} (h : DI w W g s vl vc) (hg : W.grownBy W' row) (hr : ∀ k, row = some k → w.heap.size ≤ k) : DI w W' g s vl vc :=
  ⟨h.b.grown hg (fun e => by have := hr _ e.symm; have := h.g; omega), h.r.grown hg (fun k e e2 => by have := hr _ e2.symm; have := h.v k e; omega), h.k.grown hg h.k.size (fun k e => hr k e), h.g, h.v⟩
theorem DI.grown {r : Nat} (h : DI w W g s vl vc) (hg : W.grownBy W' (some r)) (hr : w.heap.size ≤ r) : DI w W' g s vl vc := h.grownV hg (fun k e => by injection e with e; omega)
end
def RefS.cutL (s : RefS) (i : Nat) : RefS := { s with l := s.l.eraseIdx i }
set_option maxRecDepth 100000 in
set_option maxHeartbeats 4000000 in
theorem ref_drop (F : Nat → Prop) (g : Nat) (s : RefS) (i : Nat) (hi : i < s.l.length) (w : World) (h : RefAt w F g s) (hl : s.l.length ≤ 1000000) :
    Calls Try.prog 52 #[.pointer (some ⟨g, 0, none⟩), .int .i64 (i : Int)] w fun e w' => e = .returned (.tuple #[]) ∧ RefPost w F g (s.cutL i) w' := by
  have H := Lib.hid h
  obtain ⟨vl, vc, bs, N, hb, h1, h2, h3, hg, f1, f2⟩ := h
  obtain ⟨gb, c, rfl, hgl, hcl⟩ := h1.form (by omega)
  have hlen : ∀ x, (Letter.cells x).length = 4 := fun _ => rfl
  have J0 := Lib.hid (show DI w w g s (.slice (some ⟨gb, 0, none⟩) s.l.length c) vc from ⟨hb, h1, Below.refl _ _, hb.lt, fun k e => h1.lt e⟩)
  obtain ⟨j, HJ⟩ : ∃ j, Hid (j = i + 1) := ⟨_, Lib.hid rfl⟩
  have hjz : (i : Int) + 1 = (j : Int) := by have := HJ.out; omega
  have hdl0 : (s.l.drop j).length = s.l.length - j := by rw [List.length_drop]
  obtain ⟨AD, hA, hsrc0⟩ : ∃ A : Addr, (if c = j then some (⟨gb, 0, none⟩ : Addr) else some ⟨gb, j * 4, none⟩) = some A ∧ (∀ t u, ((s.l.drop j).flatMap Letter.cells)[t]? = some u → w.cell? (A.add t) = some u ∧ (A.add t).block < w.heap.size) := by
    have hj := HJ.out
    by_cases h : c = j
    · refine ⟨⟨gb, 0, none⟩, by simp [h], fun t u hu => ?_⟩
      have h0 : s.l.drop j = [] := List.drop_of_length_le (by omega)
      rw [h0] at hu
      simp at hu
    · refine ⟨⟨gb, j * 4, none⟩, by simp [h], fun t u hu => ?_⟩
      have ht : t < (s.l.length - j) * 4 := by rw [← hdl0, ← flat_length hlen]; exact (List.getElem?_eq_some_iff.1 hu).1
      have e1 := flat_get hlen (s.l.drop j) (t / 4) (t % 4) (by rw [List.length_drop]; omega) (by omega)
      rw [show t / 4 * 4 + t % 4 = t by omega, hu, List.getElem_drop] at e1
      have e2 := h1.cell hlen (j + t / 4) (t % 4) (by omega) (by omega)
      rw [← e1] at e2
      rw [Addr.add_lit, show j * 4 + t = (j + t / 4) * 4 + t % 4 by omega]
      exact ⟨e2, hgl⟩
  have hsrc := Lib.hid hsrc0
  have hdl := Lib.hid hdl0
  have hil := Lib.hid (And.intro (show i ≤ s.l.length by omega) hlen)
  have hle1 := Lib.hid (show (([] : List Letter).length + (s.l.take i).length) * 40 ≤ 140737488355328 by rw [List.length_take]; simp only [List.length_nil]; omega)
  have hle2 := Lib.hid (show (([] ++ s.l.take i).length + (s.l.length - j)) * 40 ≤ 140737488355328 by rw [List.nil_append, List.length_take]; omega)
  have hic : i ≤ c := by omega
  have hjc : j ≤ c := by have := HJ.out; omega
  have hjl : j ≤ s.l.length := by have := HJ.out; omega
  have g0 : (0 : Int) ≤ (i : Int) := by omega
  have gj : (0 : Int) ≤ (j : Int) := by omega
  have gw : IntKind.i64.wrap ((i : Int) + 1) = (j : Int) := by rw [hjz]; exact IntWalk.i64_in _ (by omega)
  clear hb h1 h2 h3 hsrc0 hdl0 hlen hjz
  go_enter Try.func52, Try.ntmps52
  refine start_ (n := 20) (S := fun w' => w'.cell? ⟨g, 1, none⟩ = some (.slice (some ⟨gb, 0, none⟩) s.l.length c)) (ds := [19]) #[false, false, false, false, false, false, false, false, false, false, false, false, false, false, false, false, false, false, false, false] (by kernel_rfl) rfl rfl (J0.out.drew.b.cell 1) (fun hHeld => ?_)
  refine pure_ (i := 0) (N := some 4) (v := ?_) (a' := ?_) #[true, false, false, false, false, false, false, false, false, false, false, false, false, false, false, false, false, false, false, false] rfl rfl (by kernel_rfl) (fun _ _ _ h => h) (Or.inl ⟨by rfl, ?_⟩) ?_ ?_
  rotate_left
  · intro w'
    go_simp
    with_reducible rfl
  rotate_left
  · simp only [Act.put, List.setIfInBounds_toArray, List.set_cons_zero, List.set_cons_succ, i64_w, i32_w]
    rfl
  refine pure_ (i := 2) (N := some 6) (v := ?_) (a' := ?_) #[true, false, true, false, false, false, false, false, false, false, false, false, false, false, false, false, false, false, false, false] rfl rfl (by kernel_rfl) (fun _ _ _ h => h) (Or.inl ⟨by rfl, ?_⟩) ?_ ?_
  rotate_left
  · intro w'
    go_simp
    with_reducible rfl
  rotate_left
  · simp only [Act.put, List.setIfInBounds_toArray, List.set_cons_zero, List.set_cons_succ, i64_w, i32_w]
    rfl
  refine pure_ (i := 3) (N := some 7) (v := ?_) (a' := ?_) #[true, false, true, true, false, false, false, false, false, false, false, false, false, false, false, false, false, false, false, false] rfl rfl (by kernel_rfl) (fun _ _ _ h => h) (Or.inl ⟨by rfl, ?_⟩) ?_ ?_
  rotate_left
  · intro w'
    go_simp
    with_reducible rfl
  rotate_left
  · simp only [Act.put, List.setIfInBounds_toArray, List.set_cons_zero, List.set_cons_succ, i64_w, i32_w]
    rfl
  refine pure_ (i := 4) (N := some 8) (v := ?_) (a' := ?_) #[true, false, true, true, true, false, false, false, false, false, false, false, false, false, false, false, false, false, false, false] rfl rfl (by kernel_rfl) (fun _ _ _ h => h) (Or.inl ⟨by rfl, ?_⟩) ?_ ?_
  rotate_left
  · intro w'
    go_simp
    with_reducible rfl
  rotate_left
  · simp only [Act.put, List.setIfInBounds_toArray, List.set_cons_zero, List.set_cons_succ, i64_w, i32_w]
    rfl
  refine pure_ (i := 6) (N := some 10) (v := ?_) (a' := ?_) #[true, false, true, true, true, false, true, false, false, false, false, false, false, false, false, false, false, false, false, false] rfl rfl (by kernel_rfl) (fun _ _ _ h => h) (Or.inl ⟨by rfl, ?_⟩) ?_ ?_
  rotate_left
  · intro w'
    go_simp
    with_reducible rfl
  rotate_left
  · simp only [Act.put, List.setIfInBounds_toArray, List.set_cons_zero, List.set_cons_succ, i64_w, i32_w]
    rfl
  refine pure_ (i := 9) (N := some 13) (v := ?_) (a' := ?_) #[true, false, true, true, true, false, true, false, false, true, false, false, false, false, false, false, false, false, false, false] rfl rfl (by kernel_rfl) (fun _ _ _ h => h) (Or.inl ⟨by rfl, ?_⟩) ?_ ?_
  rotate_left
  · intro w'
    go_simp
    with_reducible rfl
  rotate_left
  · simp only [Act.put, List.setIfInBounds_toArray, List.set_cons_zero, List.set_cons_succ, i64_w, i32_w]
    rfl
  refine pure_ (i := 10) (N := some 14) (v := ?_) (a' := ?_) #[true, false, true, true, true, false, true, false, false, true, true, false, false, false, false, false, false, false, false, false] rfl rfl (by kernel_rfl) (fun _ _ _ h => h) (Or.inl ⟨by rfl, ?_⟩) ?_ ?_
  rotate_left
  · intro w'
    go_simp
    with_reducible rfl
  rotate_left
  · simp only [Act.put, List.setIfInBounds_toArray, List.set_cons_zero, List.set_cons_succ, i64_w, i32_w]
    rfl
  refine pure_ (i := 11) (N := some 15) (v := ?_) (a' := ?_) #[true, false, true, true, true, false, true, false, false, true, true, true, false, false, false, false, false, false, false, false] rfl rfl (by kernel_rfl) (fun _ _ _ h => h) (Or.inl ⟨by rfl, ?_⟩) ?_ ?_
  rotate_left
  · intro w'
    go_simp
    with_reducible rfl
  rotate_left
  · simp only [Act.put, List.setIfInBounds_toArray, List.set_cons_zero, List.set_cons_succ, i64_w, i32_w]
    rfl
  refine pure_ (i := 13) (N := some 17) (v := ?_) (a' := ?_) #[true, false, true, true, true, false, true, false, false, true, true, true, false, true, false, false, false, false, false, false] rfl rfl (by kernel_rfl) (fun _ _ _ h => h) (Or.inl ⟨by rfl, ?_⟩) ?_ ?_
  rotate_left
  · intro w'
    go_simp
    with_reducible rfl
  rotate_left
  · simp only [Act.put, List.setIfInBounds_toArray, List.set_cons_zero, List.set_cons_succ, i64_w, i32_w]
    rfl
  refine pure_ (i := 14) (N := some 18) (v := ?_) (a' := ?_) #[true, false, true, true, true, false, true, false, false, true, true, true, false, true, true, false, false, false, false, false] rfl rfl (by kernel_rfl) (fun _ _ _ h => h) (Or.inl ⟨by rfl, ?_⟩) ?_ ?_
  rotate_left
  · intro w'
    go_simp
    with_reducible rfl
  rotate_left
  · simp only [Act.put, List.setIfInBounds_toArray, List.set_cons_zero, List.set_cons_succ, i64_w, i32_w]
    rfl
  refine take_ (i := 5) (N := some 9) (v := ?_) (a' := ?_) #[true, false, true, true, true, true, true, false, false, true, true, true, false, true, true, false, false, false, false, false] rfl rfl (by kernel_rfl) (fun _ _ _ h => h) (Or.inl ⟨by rfl, ?_⟩) hHeld ?_ ?_
  rotate_left
  · intro w' s0
    go_simp
    with_reducible rfl
  rotate_left
  · simp only [Act.put, List.setIfInBounds_toArray, List.set_cons_zero, List.set_cons_succ, i64_w, i32_w]
    rfl
  refine pure_ (i := 7) (N := some 11) (v := ?_) (a' := ?_) #[true, false, true, true, true, true, true, true, false, true, true, true, false, true, true, false, false, false, false, false] rfl rfl (by kernel_rfl) (fun _ _ _ h => h) (Or.inl ⟨by rfl, ?_⟩) ?_ ?_
  rotate_left
  · intro w'
    go_simp
    with_reducible rfl
  rotate_left
  · simp only [Act.put, List.setIfInBounds_toArray, List.set_cons_zero, List.set_cons_succ, i64_w, i32_w]
    rfl
  refine take_ (i := 12) (N := some 16) (v := ?_) (a' := ?_) #[true, false, true, true, true, true, true, true, false, true, true, true, true, true, true, false, false, false, false, false] rfl rfl (by kernel_rfl) (fun _ _ _ h => h) (Or.inl ⟨by rfl, ?_⟩) hHeld ?_ ?_
  rotate_left
  · intro w' s0
    go_simp
    with_reducible rfl
  rotate_left
  · simp only [Act.put, List.setIfInBounds_toArray, List.set_cons_zero, List.set_cons_succ, i64_w, i32_w]
    rfl
  refine pure_ (i := 15) (N := some 19) (v := ?_) (a' := ?_) #[true, false, true, true, true, true, true, true, false, true, true, true, true, true, true, true, false, false, false, false] rfl rfl (by kernel_rfl) (fun _ _ _ h => h) (Or.inl ⟨by rfl, ?_⟩) ?_ ?_
  rotate_left
  · intro w'
    go_simp
    with_reducible rfl
  rotate_left
  · simp only [Act.put, List.setIfInBounds_toArray, List.set_cons_zero, List.set_cons_succ, i64_w, i32_w]
    rfl
  refine one_ (i := 1) (N := some 5) #[true, true, true, true, true, true, true, true, false, true, true, true, true, true, true, true, false, false, false, false] rfl rfl (by kernel_rfl) (by decide) (fun K hK => ?_)
  refine value_ (w1 := ?_) (v := ?_) (by rfl) rfl ?_ ?_
  rotate_left 2
  · go_simp
    constructor
    · rfl
    · rfl
  have J1 := Lib.hid (J0.out.drew.alloc (.cells #[] 81))
  have E1 := Lib.hid (Row.empty w.drew 81 4 Letter.cells)
  refine hK.out _ _ (J1.out.b.cell 1) (fun hHeld => ?_)
  clear hK K
  refine norm_ (a' := ?_) ?_ ?_
  rotate_left
  · show Act.put _ (some 5) _ = _
    simp only [Act.put, List.setIfInBounds_toArray, List.set_cons_zero, List.set_cons_succ, i64_w, i32_w]
    rfl
  refine one_ (i := 8) (N := some 12) #[true, true, true, true, true, true, true, true, true, true, true, true, true, true, true, true, false, false, false, false] rfl rfl (by kernel_rfl) (by decide) (fun K hK => ?_)
  refine Row.appendRow_step (by rfl) (.tmp 5) (.tmp 11) 76 81 (.agg #[.int .i64 0, .int .i64 0, .int .i64 0, .string ⟨#[]⟩]) 4 40 (by rfl) Try.underlying76 info_rl rfl (by decide) (by decide) (.slice (some ⟨w.heap.size, 0, none⟩) 0 0) (.slice (some ⟨gb, 0, none⟩) i c) [] (s.l.take i) (by rfl) (by rfl) E1.out (J1.out.r.prefix_ i hil.out) (fun _ => rfl) one_letter hle1.out ?_
  intro v6 w6 hR hG hO
  obtain ⟨A6, m6, c6, rfl⟩ := hR.some_slice
  have J6 := Lib.hid (J1.out.grown (r := w.heap.size) hG (Nat.le_refl _))
  have R6 := Lib.hid hR
  have V6 := Lib.hid (own_ge (n := w.heap.size) (b := w.heap.size) hO ⟨rfl, by omega⟩ (by first | exact Nat.le_refl _ | (simp <;> omega)))
  clear hR hG hO
  refine hK.out _ _ (J6.out.b.cell 1) (fun hHeld => ?_)
  clear hK K
  refine norm_ (a' := ?_) ?_ ?_
  rotate_left
  · show Act.put _ (some 12) _ = _
    simp only [Act.put, List.setIfInBounds_toArray, List.set_cons_zero, List.set_cons_succ, i64_w, i32_w]
    rfl
  refine one_ (i := 16) (N := some 20) #[true, true, true, true, true, true, true, true, true, true, true, true, true, true, true, true, true, false, false, false] rfl rfl (by kernel_rfl) (by decide) (fun K hK => ?_)
  refine Row.append_step (by rfl) (.tmp 12) (.tmp 19) 76 81 (.agg #[.int .i64 0, .int .i64 0, .int .i64 0, .string ⟨#[]⟩]) 4 40 (by rfl) Try.underlying76 info_rl rfl (by decide) (by decide) (.slice A6 m6 c6) ([] ++ s.l.take i) (s.l.drop j) (by rfl) AD (s.l.length - j) (c - j) (by rfl) R6.out hdl.out (fun _ => rfl) (fun t u hu => (J6.out.k.cell (hsrc.out t u hu).2).trans (hsrc.out t u hu).1) one_letter hle2.out ?_
  intro v9 w9 hR hG hO
  obtain ⟨A9, m9, c9, rfl⟩ := hR.some_slice
  have J9 := Lib.hid (J6.out.grownV hG V6.out)
  have R9 := Lib.hid hR
  have V9 := Lib.hid (own_ge2 hO V6.out J6.out.k.size)
  have hc9 := J9.out.b.cell 1
  have hf9 := J9.out.b.frozen 1
  clear hR hG hO
  refine hK.out _ _ (J9.out.b.cell 1) (fun hHeld => ?_)
  clear hK K
  refine norm_ (a' := ?_) ?_ ?_
  rotate_left
  · show Act.put _ (some 20) _ = _
    simp only [Act.put, List.setIfInBounds_toArray, List.set_cons_zero, List.set_cons_succ, i64_w, i32_w]
    rfl
  refine pure_ (i := 17) (N := some 21) (v := ?_) (a' := ?_) #[true, true, true, true, true, true, true, true, true, true, true, true, true, true, true, true, true, true, false, false] rfl rfl (by kernel_rfl) (fun _ _ _ h => h) (Or.inl ⟨by rfl, ?_⟩) ?_ ?_
  rotate_left
  · intro w'
    go_simp
    with_reducible rfl
  rotate_left
  · simp only [Act.put, List.setIfInBounds_toArray, List.set_cons_zero, List.set_cons_succ, i64_w, i32_w]
    rfl
  refine pure_ (i := 18) (N := some 22) (v := ?_) (a' := ?_) #[true, true, true, true, true, true, true, true, true, true, true, true, true, true, true, true, true, true, true, false] rfl rfl (by kernel_rfl) (fun _ _ _ h => h) (Or.inl ⟨by rfl, ?_⟩) ?_ ?_
  rotate_left
  · intro w'
    go_simp
    with_reducible rfl
  rotate_left
  · simp only [Act.put, List.setIfInBounds_toArray, List.set_cons_zero, List.set_cons_succ, i64_w, i32_w]
    rfl
  refine last_ (i := 19) (N := none) #[true, true, true, true, true, true, true, true, true, true, true, true, true, true, true, true, true, true, true, true] rfl rfl (by kernel_rfl) (by decide) (fun K hK => ?_)
  refine skip_ (w1 := ?_) (by rfl) rfl ?_ ?_
  rotate_left
  · go_simp
    rfl
  refine hK.out _ _ ?_
  clear hK K
  refine done_ (by kernel_rfl) ?_

  go_wp2
  go_end0
  have hr := R9.out
  rw [List.nil_append, HJ.out, ← List.eraseIdx_eq_take_drop_succ] at hr
  have hk : Kept w9 (w9.setCell ⟨g, 1, none⟩ (.slice A9 m9 c9)) (fun k => k = g) := (Kept.refl w9 (fun k => k = g)).setCell (p := ⟨g, 1, none⟩) (.inl rfl) _
  exact ⟨rfl, RefAt.reset (next := s.next) H.out J9.out.k hr V9.out hk (fun vl vc hb => hb.set_ 1 _)⟩
end Go.Proofs.Ytaaeiljeanfinaa
