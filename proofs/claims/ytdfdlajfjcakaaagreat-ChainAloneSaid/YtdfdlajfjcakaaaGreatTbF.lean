import Derived.Test.YtdfdlajfjcakaaaGreatKA
import Derived.Test.YtdfdlajfjcakaaaGreatQA
namespace Go.Proofs.YtdfdlajfjcakaaaGreat
open Go Go.RowKit
open Go.Proofs.YtdfdlajfjcakaaaGreatW.PrintLast
set_option linter.unusedVariables false
set_option linter.unusedSimpArgs false
set_option maxRecDepth 100000

/-! splice. -/
theorem info_row : (Tryz.prog.info? 115).map (fun i => (i.zero, i.size, i.bytes)) = some (some (.agg #[.string ⟨#[]⟩, .int .i64 0, .string ⟨#[]⟩]), 3, 40) := by kernel_rfl
theorem one_row : ∀ (x : RowT), ∀ u ∈ RowT.cells x, u.oneCell' = true := by
  intro x u hu
  simp [RowT.cells] at hu
  rcases hu with rfl | rfl | rfl <;> rfl
theorem SegG.prefix_ {α : Type} {w : World} {enc : α → List Value} {A : Option Addr} {n c : Nat} {l : List α} (h : SegG w enc (.slice A n c) l) (i c' : Nat) (hi : i ≤ l.length) (hic : i ≤ c') (hc : c' ≤ maxLen) : SegG w enc (.slice A i c') (l.take i) := by
  obtain ⟨A', c0, hv, _, _, h⟩ := h
  injection hv with hA _ _
  subst hA
  refine ⟨A, c', by rw [List.length_take, Nat.min_eq_left hi], by rw [List.length_take]; omega, hc, fun h0 => ?_⟩
  obtain ⟨ad, hA, hcell⟩ := h (by rw [List.length_take] at h0; omega)
  refine ⟨ad, hA, fun j u hu => hcell j u ?_⟩
  have e1 : l.flatMap enc = (l.take i).flatMap enc ++ (l.drop i).flatMap enc := by rw [← List.flatMap_append, List.take_append_drop]
  rw [e1, List.getElem?_append_left (List.getElem?_eq_some_iff.1 hu).1]
  exact hu
theorem add_add' (ad : Addr) (a b : Nat) (h : 0 < a) : (ad.add a).add b = ad.add (a + b) := by
  unfold Addr.add
  by_cases hb : b = 0
  · subst hb; rfl
  · rw [if_neg hb, if_neg (show ¬ a = 0 by omega), if_neg (show ¬ a + b = 0 by omega)]
    simp [Nat.add_assoc]
theorem SegG.suffix {α : Type} {w : World} {enc : α → List Value} {sz : Nat} {A : Option Addr} {n c : Nat} {l : List α} (h : SegG w enc (.slice A n c) l) (i : Nat) (hi : i ≤ l.length) (hs : ∀ x, (enc x).length = sz) (hz : 0 < sz) : SegG w enc (.slice (cutA A c i sz) (n - i) (c - i)) (l.drop i) := by
  obtain ⟨A', c0, hv, hc, hm, h⟩ := h
  injection hv with hA hn hcc
  subst hA hn hcc
  refine ⟨_, _, by rw [List.length_drop], by rw [List.length_drop]; omega, by omega, fun h0 => ?_⟩
  rw [List.length_drop] at h0
  obtain ⟨ad, rfl, hcell⟩ := h (by omega)
  have e1 : l.flatMap enc = (l.take i).flatMap enc ++ (l.drop i).flatMap enc := by rw [← List.flatMap_append, List.take_append_drop]
  have hl : ((l.take i).flatMap enc).length = i * sz := by rw [flat_length hs, List.length_take, Nat.min_eq_left hi]
  have hc2 : ∀ j u, ((l.drop i).flatMap enc)[j]? = some u → w.cell? (ad.add (i * sz + j)) = some u := fun j u hu => hcell (i * sz + j) u (by rw [e1, List.getElem?_append_right (by omega), hl, Nat.add_sub_cancel_left]; exact hu)
  have hci : ¬ c = i := by omega
  refine ⟨ad.add (i * sz), by unfold cutA; rw [if_neg hci]; rfl, fun j u hu => ?_⟩
  rcases Nat.eq_zero_or_pos (i * sz) with hp | hp
  · have := hc2 j u hu
    rw [hp, Nat.zero_add] at this
    rw [hp]
    have e0 : ad.add 0 = ad := rfl
    rw [e0]
    exact this
  · rw [add_add' _ _ _ hp]
    exact hc2 j u hu
/-- A row that is laid anew: still the old one's beginning, or one of its own. -/
def Half (w : World) (B : Nat) (v : Value) (l : List RowT) : Prop :=
  (∃ A n, v = .slice A n n ∧ SegG w RowT.cells v l ∧ (∀ k, v.ownBlock = some k → ∃ cs, Blk w k 115 cs)) ∨ (Row w 115 3 RowT.cells v l ∧ ∀ k, v.ownBlock = some k → B ≤ k)
theorem half_run {P : Program} {W : World} {B : Nat} (t ty : TypeId) (ht : P.underlying t = some (.slice 115)) (hinfo : (P.info? 115).map (fun i => (i.zero, i.size, i.bytes)) = some (some (.agg #[.string ⟨#[]⟩, .int .i64 0, .string ⟨#[]⟩]), 3, 40))
    (v v2 : Value) (l ys : List RowT) (HB : Half W B v l) (HY : SegG W RowT.cells v2 ys) (hl : (l.length + ys.length) * 40 ≤ 140737488355328) (hB : B ≤ W.heap.size) :
    ∃ A n c w1, (Builtin.append_ #[t, t] ty #[v, v2]).run P W = .ok (.slice A n c) w1 ∧ Half w1 B (.slice A n c) (l ++ ys) ∧ Below B W w1 := by
  rcases HB with ⟨A, n, rfl, hs, hty⟩ | ⟨hR, hf⟩
  · obtain ⟨v1, w1, hr, hb, h⟩ := clip_append (P := P) t ty 115 _ 3 40 ht hinfo rfl (by decide) (by decide) A n v2 l ys hs HY (fun _ => rfl) one_row hl
    rcases h with ⟨rfl, rfl, rfl⟩ | ⟨hR, hf⟩
    · exact ⟨A, n, n, w1, hr, .inl ⟨A, n, rfl, by rw [List.append_nil]; exact hs, hty⟩, hb.mono hB⟩
    · obtain ⟨A1, n1, c1, rfl⟩ := hR.some_slice
      exact ⟨A1, n1, c1, w1, hr, .inr ⟨hR, fun k hk => Nat.le_trans hB (hf k hk)⟩, hb.mono hB⟩
  · obtain ⟨A2, c2, rfl, hc2, hm2⟩ := HY.shape
    rcases Nat.eq_zero_or_pos ys.length with h0 | h0
    · have hy : ys = [] := List.eq_nil_of_length_eq_zero h0
      obtain ⟨i0, hi, _⟩ := Option.map_eq_some_iff.1 hinfo
      obtain ⟨A, n, c, rfl⟩ := hR.some_slice
      refine ⟨A, n, c, W, ?_, .inr ⟨by rw [hy, List.append_nil]; exact hR, hf⟩, Below.refl _ _⟩
      rw [h0]
      exact append_zero t ty _ i0 ht hi A n c A2 c2 hR.cap.2.1
    · obtain ⟨a2, c', hv, _, _⟩ := HY.form h0
      injection hv with hA _ hcc
      subst hA hcc
      obtain ⟨A', c'', hv, _, _, hcy⟩ := HY
      injection hv with hA _ hcc
      subst hA hcc
      obtain ⟨a3, ha, hcy⟩ := hcy h0
      injection ha with ha
      subst ha
      obtain ⟨v1, w1, hr, hR1, hg, hO⟩ := Row.append_run (P := P) (W := W) t ty _ _ 3 40 ht hinfo rfl (by decide) (by decide) v l ys hR a2 ys.length c2 rfl (fun _ => rfl) hcy one_row hl
      obtain ⟨A1, n1, c1, rfl⟩ := hR1.some_slice
      exact ⟨A1, n1, c1, w1, hr, .inr ⟨hR1, own_ge2 hO hf hB⟩, (Below.refl B W).grown hg hB hf⟩
theorem half_step {P : Program} {ops : Array Oper} {o : Oper} {a : Act} {Q : Exit → Act → World → Prop} {K : Act → World → Prop} {E : Prop} {W : World} (hgd : o.guard = none) (s x : Operand) (t e : TypeId)
    (ho : o.op = .call { callee := .builtin .append, args := #[s, x], argTypes := #[t, t] }) (ht : P.underlying t = some (.slice 115)) (hinfo : (P.info? 115).map (fun i => (i.zero, i.size, i.bytes)) = some (some (.agg #[.string ⟨#[]⟩, .int .i64 0, .string ⟨#[]⟩]), 3, 40))
    {B : Nat} {v v2 : Value} {l ys : List RowT} (hs : a.eval s = v) (hx : a.eval x = v2) (HB : Half W B v l) (HY : SegG W RowT.cells v2 ys) (hl : (l.length + ys.length) * 40 ≤ 140737488355328) (hB : B ≤ W.heap.size)
    (h : ∀ A n c w1, Half w1 B (.slice A n c) (l ++ ys) → Below B W w1 → K (a.put o.dst (.slice A n c)) w1) : if Region.wanted o (yielded ops a.tmps) = true then Oper.wp P o a W K Q else E := by
  have hw : Region.wanted o (yielded ops a.tmps) = true := by simp [Region.wanted, hgd]
  rw [if_pos hw]
  obtain ⟨A, n, c, w1, hr, h1, h2⟩ := half_run (P := P) (W := W) t o.type ht hinfo v v2 l ys HB HY hl hB
  unfold Oper.wp execOp
  simp only [ho, resolve, invoke, builtin, Sem.run_bind, Sem.run_pure, Result.andThen_ok, List.map_toArray, List.map_cons, List.map_nil, hs, hx, hr]
  exact h A n c w1 h1 h2
theorem Half.seg {w : World} {B : Nat} {v : Value} {l : List RowT} (h : Half w B v l) : SegG w RowT.cells v l ∧ ∀ k, v.ownBlock = some k → ∃ cs, Blk w k 115 cs := by
  rcases h with ⟨A, n, rfl, hs, ht⟩ | ⟨hR, _⟩
  · exact ⟨hs, ht⟩
  · exact ⟨SegG.of_row hR, fun k hk => hR.typed hk⟩
structure TJ (w W : World) (g : Nat) (v : Value) : Prop where
  b : Blk W g 100 #[v]
  k : Below w.heap.size w W
  g : g < w.heap.size
section
variable {w W W' : World} {g : Nat} {v : Value}
theorem TJ.drew (h : TJ w W g v) : TJ w W.drew g v := ⟨h.b, h.k.drew, h.g⟩
theorem TJ.below (h : TJ w W g v) (hb : Below w.heap.size W W') : TJ w W' g v := ⟨(hb.block g h.g).trans h.b, h.k.trans hb, h.g⟩
end
theorem map_add0 (A : Option Addr) : A.map (fun x => x.add 0) = A := by cases A <;> rfl
set_option maxHeartbeats 4000000 in
theorem tab_splice (g : Nat) (l m : List RowT) (i j : Nat) (v3 : Value) (w : World) (h : TabAt w g l) (hij : i ≤ j) (hj : j ≤ l.length) (hm : SegG w RowT.cells v3 m) (hl : l.length ≤ 1000000) (hml : m.length ≤ 1000000) :
    Calls Tryz.prog 68 #[.pointer (some ⟨g, 0, none⟩), .int .i64 (i : Int), .int .i64 (j : Int), v3] w fun e w' => e = .returned (.tuple #[]) ∧ TabAt w' g (spl l i j m) ∧ Kept w w' (fun k => k = g) := by
  obtain ⟨v, hb, hs, ht⟩ := h
  obtain ⟨A, c, rfl, hc, hcm⟩ := hs.shape
  have J0 := Lib.hid (show TJ w w g (.slice A l.length c) from ⟨hb, Below.refl _ _, hb.lt⟩)
  have HALF := Lib.hid (fun W (k : Below w.heap.size w W) => show Half W w.heap.size (.slice A i i) (l.take i) from .inl ⟨A, i, rfl, (hs.below k).prefix_ i i (by omega) (Nat.le_refl _) (by omega), fun k' hk' => by
    obtain ⟨cs, hcs⟩ := ht k' (by cases A <;> exact hk')
    exact ⟨cs, hcs.kept (Kept.of_below k fun _ => False) (fun h => h)⟩⟩)
  have SUF := Lib.hid (fun W (k : Below w.heap.size w W) => (hs.below k).suffix (sz := 3) j hj (fun _ => rfl) (by decide))
  have H3 := Lib.hid hm
  have hle1 := Lib.hid (show ((l.take i).length + m.length) * 40 ≤ 140737488355328 by rw [List.length_take]; omega)
  have hle2 := Lib.hid (show ((l.take i ++ m).length + (l.drop j).length) * 40 ≤ 140737488355328 by rw [List.length_append, List.length_take, List.length_drop]; omega)
  have g0 : (0 : Int) ≤ (i : Int) := by omega
  have gj : (0 : Int) ≤ (j : Int) := by omega
  have q1 : (i : Int) ≤ (c : Int) := by omega
  have q2 : (j : Int) ≤ (l.length : Int) := by omega
  have q3 : i ≤ c := by omega
  have hA0 := map_add0 A
  have hA1 : (if c = j then A else Option.map (fun x => x.add (j * 3)) A) = cutA A c j 3 := rfl
  generalize l.length = n at *
  clear hb hs ht hm hl hml hc hcm hij
  go_enter Tryz.func68, Tryz.ntmps68
  refine start_ (n := 20) (S := fun w' => w'.cell? ⟨g, 0, none⟩ = some (.slice A n c)) (ds := [19]) #[false, false, false, false, false, false, false, false, false, false, false, false, false, false, false, false, false, false, false, false] (by kernel_rfl) rfl rfl (J0.out.drew.b.cell 0) (fun hHeld => ?_)
  refine pure_ (i := 0) (N := some 8) (v := ?_) (a' := ?_) #[true, false, false, false, false, false, false, false, false, false, false, false, false, false, false, false, false, false, false, false] rfl rfl (by kernel_rfl) (fun _ _ _ h => h) (Or.inl ⟨by rfl, ?_⟩) ?_ ?_
  rotate_left
  · intro w'
    go_simp
    with_reducible rfl
  rotate_left
  · simp only [Act.put, List.setIfInBounds_toArray, List.set_cons_zero, List.set_cons_succ, i64_w, i32_w]
    rfl
  refine pure_ (i := 1) (N := some 9) (v := ?_) (a' := ?_) #[true, true, false, false, false, false, false, false, false, false, false, false, false, false, false, false, false, false, false, false] rfl rfl (by kernel_rfl) (fun _ _ _ h => h) (Or.inl ⟨by rfl, ?_⟩) ?_ ?_
  rotate_left
  · intro w'
    go_simp
    with_reducible rfl
  rotate_left
  · simp only [Act.put, List.setIfInBounds_toArray, List.set_cons_zero, List.set_cons_succ, i64_w, i32_w]
    rfl
  refine pure_ (i := 2) (N := some 10) (v := ?_) (a' := ?_) #[true, true, true, false, false, false, false, false, false, false, false, false, false, false, false, false, false, false, false, false] rfl rfl (by kernel_rfl) (fun _ _ _ h => h) (Or.inl ⟨by rfl, ?_⟩) ?_ ?_
  rotate_left
  · intro w'
    go_simp
    with_reducible rfl
  rotate_left
  · simp only [Act.put, List.setIfInBounds_toArray, List.set_cons_zero, List.set_cons_succ, i64_w, i32_w]
    rfl
  refine pure_ (i := 3) (N := some 11) (v := ?_) (a' := ?_) #[true, true, true, true, false, false, false, false, false, false, false, false, false, false, false, false, false, false, false, false] rfl rfl (by kernel_rfl) (fun _ _ _ h => h) (Or.inl ⟨by rfl, ?_⟩) ?_ ?_
  rotate_left
  · intro w'
    go_simp
    with_reducible rfl
  rotate_left
  · simp only [Act.put, List.setIfInBounds_toArray, List.set_cons_zero, List.set_cons_succ, i64_w, i32_w]
    rfl
  refine pure_ (i := 5) (N := some 13) (v := ?_) (a' := ?_) #[true, true, true, true, false, true, false, false, false, false, false, false, false, false, false, false, false, false, false, false] rfl rfl (by kernel_rfl) (fun _ _ _ h => h) (Or.inl ⟨by rfl, ?_⟩) ?_ ?_
  rotate_left
  · intro w'
    go_simp
    with_reducible rfl
  rotate_left
  · simp only [Act.put, List.setIfInBounds_toArray, List.set_cons_zero, List.set_cons_succ, i64_w, i32_w]
    rfl
  refine pure_ (i := 6) (N := some 14) (v := ?_) (a' := ?_) #[true, true, true, true, false, true, true, false, false, false, false, false, false, false, false, false, false, false, false, false] rfl rfl (by kernel_rfl) (fun _ _ _ h => h) (Or.inl ⟨by rfl, ?_⟩) ?_ ?_
  rotate_left
  · intro w'
    go_simp
    with_reducible rfl
  rotate_left
  · simp only [Act.put, List.setIfInBounds_toArray, List.set_cons_zero, List.set_cons_succ, i64_w, i32_w]
    rfl
  refine pure_ (i := 8) (N := some 16) (v := ?_) (a' := ?_) #[true, true, true, true, false, true, true, false, true, false, false, false, false, false, false, false, false, false, false, false] rfl rfl (by kernel_rfl) (fun _ _ _ h => h) (Or.inl ⟨by rfl, ?_⟩) ?_ ?_
  rotate_left
  · intro w'
    go_simp
    with_reducible rfl
  rotate_left
  · simp only [Act.put, List.setIfInBounds_toArray, List.set_cons_zero, List.set_cons_succ, i64_w, i32_w]
    rfl
  refine pure_ (i := 10) (N := some 18) (v := ?_) (a' := ?_) #[true, true, true, true, false, true, true, false, true, false, true, false, false, false, false, false, false, false, false, false] rfl rfl (by kernel_rfl) (fun _ _ _ h => h) (Or.inl ⟨by rfl, ?_⟩) ?_ ?_
  rotate_left
  · intro w'
    go_simp
    with_reducible rfl
  rotate_left
  · simp only [Act.put, List.setIfInBounds_toArray, List.set_cons_zero, List.set_cons_succ, i64_w, i32_w]
    rfl
  refine pure_ (i := 11) (N := some 19) (v := ?_) (a' := ?_) #[true, true, true, true, false, true, true, false, true, false, true, true, false, false, false, false, false, false, false, false] rfl rfl (by kernel_rfl) (fun _ _ _ h => h) (Or.inl ⟨by rfl, ?_⟩) ?_ ?_
  rotate_left
  · intro w'
    go_simp
    with_reducible rfl
  rotate_left
  · simp only [Act.put, List.setIfInBounds_toArray, List.set_cons_zero, List.set_cons_succ, i64_w, i32_w]
    rfl
  refine pure_ (i := 12) (N := some 20) (v := ?_) (a' := ?_) #[true, true, true, true, false, true, true, false, true, false, true, true, true, false, false, false, false, false, false, false] rfl rfl (by kernel_rfl) (fun _ _ _ h => h) (Or.inl ⟨by rfl, ?_⟩) ?_ ?_
  rotate_left
  · intro w'
    go_simp
    with_reducible rfl
  rotate_left
  · simp only [Act.put, List.setIfInBounds_toArray, List.set_cons_zero, List.set_cons_succ, i64_w, i32_w]
    rfl
  refine pure_ (i := 14) (N := some 22) (v := ?_) (a' := ?_) #[true, true, true, true, false, true, true, false, true, false, true, true, true, false, true, false, false, false, false, false] rfl rfl (by kernel_rfl) (fun _ _ _ h => h) (Or.inl ⟨by rfl, ?_⟩) ?_ ?_
  rotate_left
  · intro w'
    go_simp
    with_reducible rfl
  rotate_left
  · simp only [Act.put, List.setIfInBounds_toArray, List.set_cons_zero, List.set_cons_succ, i64_w, i32_w]
    rfl
  refine take_ (i := 4) (N := some 12) (v := ?_) (a' := ?_) #[true, true, true, true, true, true, true, false, true, false, true, true, true, false, true, false, false, false, false, false] rfl rfl (by kernel_rfl) (fun _ _ _ h => h) (Or.inl ⟨by rfl, ?_⟩) hHeld ?_ ?_
  rotate_left
  · intro w' s0
    go_simp
    with_reducible rfl
  rotate_left
  · simp only [Act.put, List.setIfInBounds_toArray, List.set_cons_zero, List.set_cons_succ, i64_w, i32_w]
    rfl
  refine pure_ (i := 7) (N := some 15) (v := ?_) (a' := ?_) #[true, true, true, true, true, true, true, true, true, false, true, true, true, false, true, false, false, false, false, false] rfl rfl (by kernel_rfl) (fun _ _ _ h => h) (Or.inl ⟨by rfl, ?_⟩) ?_ ?_
  rotate_left
  · intro w'
    go_simp
    with_reducible rfl
  rotate_left
  · simp only [Act.put, List.setIfInBounds_toArray, List.set_cons_zero, List.set_cons_succ, i64_w, i32_w]
    rfl
  refine take_ (i := 13) (N := some 21) (v := ?_) (a' := ?_) #[true, true, true, true, true, true, true, true, true, false, true, true, true, true, true, false, false, false, false, false] rfl rfl (by kernel_rfl) (fun _ _ _ h => h) (Or.inl ⟨by rfl, ?_⟩) hHeld ?_ ?_
  rotate_left
  · intro w' s0
    go_simp
    with_reducible rfl
  rotate_left
  · simp only [Act.put, List.setIfInBounds_toArray, List.set_cons_zero, List.set_cons_succ, i64_w, i32_w]
    rfl
  refine pure_ (i := 15) (N := some 23) (v := ?_) (a' := ?_) #[true, true, true, true, true, true, true, true, true, false, true, true, true, true, true, true, false, false, false, false] rfl rfl (by kernel_rfl) (fun _ _ _ h => h) (Or.inl ⟨by rfl, ?_⟩) ?_ ?_
  rotate_left
  · intro w'
    go_simp
    with_reducible rfl
  rotate_left
  · simp only [Act.put, List.setIfInBounds_toArray, List.set_cons_zero, List.set_cons_succ, i64_w, i32_w]
    rfl
  refine one_ (i := 9) (N := some 17) #[true, true, true, true, true, true, true, true, true, true, true, true, true, true, true, true, false, false, false, false] rfl rfl (by kernel_rfl) (by decide) (fun K hK => ?_)
  refine half_step (by rfl) (.tmp 15) (.tmp 16) 72 115 (by rfl) Tryz.underlying72 info_row (B := w.heap.size) (v := (.slice A i i)) (v2 := v3) (by rfl) (by rfl) (HALF.out _ J0.out.drew.k) (H3.out.below J0.out.drew.k) hle1.out J0.out.drew.k.size ?_
  intro A5 n5 c5 w5 hH hb
  have J5 := Lib.hid (J0.out.drew.below hb)
  have H5 := Lib.hid hH
  clear hH hb
  refine hK.out _ _ (J5.out.b.cell 0) (fun hHeld => ?_)
  clear hK K
  refine norm_ (a' := ?_) ?_ ?_
  rotate_left
  · show Act.put _ (some 17) _ = _
    simp only [Act.put, List.setIfInBounds_toArray, List.set_cons_zero, List.set_cons_succ, i64_w, i32_w]
    rfl
  refine one_ (i := 16) (N := some 24) #[true, true, true, true, true, true, true, true, true, true, true, true, true, true, true, true, true, false, false, false] rfl rfl (by kernel_rfl) (by decide) (fun K hK => ?_)
  refine half_step (by rfl) (.tmp 17) (.tmp 23) 72 115 (by rfl) Tryz.underlying72 info_row (B := w.heap.size) (v := (.slice A5 n5 c5)) (v2 := (.slice (cutA A c j 3) (n - j) (c - j))) (by rfl) (by rfl) H5.out (SUF.out _ J5.out.k) hle2.out J5.out.k.size ?_
  intro A9 n9 c9 w9 hH hb
  have J9 := Lib.hid (J5.out.below hb)
  have H9 := Lib.hid hH
  clear hH hb
  have hc9 := J9.out.b.cell 0
  have hf9 := J9.out.b.frozen 0
  refine hK.out _ _ (J9.out.b.cell 0) (fun hHeld => ?_)
  clear hK K
  refine norm_ (a' := ?_) ?_ ?_
  rotate_left
  · show Act.put _ (some 24) _ = _
    simp only [Act.put, List.setIfInBounds_toArray, List.set_cons_zero, List.set_cons_succ, i64_w, i32_w]
    rfl
  refine pure_ (i := 17) (N := some 25) (v := ?_) (a' := ?_) #[true, true, true, true, true, true, true, true, true, true, true, true, true, true, true, true, true, true, false, false] rfl rfl (by kernel_rfl) (fun _ _ _ h => h) (Or.inl ⟨by rfl, ?_⟩) ?_ ?_
  rotate_left
  · intro w'
    go_simp
    with_reducible rfl
  rotate_left
  · simp only [Act.put, List.setIfInBounds_toArray, List.set_cons_zero, List.set_cons_succ, i64_w, i32_w]
    rfl
  refine pure_ (i := 18) (N := some 26) (v := ?_) (a' := ?_) #[true, true, true, true, true, true, true, true, true, true, true, true, true, true, true, true, true, true, true, false] rfl rfl (by kernel_rfl) (fun _ _ _ h => h) (Or.inl ⟨by rfl, ?_⟩) ?_ ?_
  rotate_left
  · intro w'
    go_simp
    with_reducible rfl
  rotate_left
  · simp only [Act.put, List.setIfInBounds_toArray, List.set_cons_zero, List.set_cons_succ, i64_w, i32_w]
    rfl
  refine last_ (i := 19) (N := none) #[true, true, true, true, true, true, true, true, true, true, true, true, true, true, true, true, true, true, true, true] rfl rfl (by kernel_rfl) (by decide) (fun K hK => ?_)
  refine skip_ (w1 := ?_) (by rfl) rfl ?_ ?_
  rotate_left
  · go_simp
    rfl
  refine hK.out _ _ ?_
  clear hK K
  refine done_ (by kernel_rfl) ?_
  go_wp2
  go_end0
  obtain ⟨s9, t9⟩ := H9.out.seg
  have hk : Kept w9 (w9.setCell ⟨g, 0, none⟩ (.slice A9 n9 c9)) (fun k => k = g) := (Kept.refl w9 (fun k => k = g)).setCell (p := ⟨g, 0, none⟩) (.inl rfl) _
  have hne : ∀ k, (Value.slice A9 n9 c9).ownBlock = some k → ¬ k = g := fun k e => by
    obtain ⟨cs, hcs⟩ := t9 k e
    exact hcs.ne_ J9.out.b (by decide)
  refine ⟨rfl, ⟨.slice A9 n9 c9, by simpa using J9.out.b.set_ 0 (.slice A9 n9 c9), s9.kept hk hne, fun k e => ?_⟩, (Kept.of_below J9.out.k _).then_ hk (fun i h => .inl h)⟩
  obtain ⟨cs, hcs⟩ := t9 k e
  exact ⟨cs, hcs.kept hk (hne k e)⟩
end Go.Proofs.YtdfdlajfjcakaaaGreat
