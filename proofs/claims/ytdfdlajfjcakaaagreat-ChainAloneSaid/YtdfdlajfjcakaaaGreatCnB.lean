import Derived.Test.YtdfdlajfjcakaaaGreatCnA
namespace Go.Proofs.YtdfdlajfjcakaaaGreat
open Go Go.RowKit
open Go.Proofs.YtdfdlajfjcakaaaGreatW.PrintLast
set_option linter.unusedVariables false
set_option linter.unusedSimpArgs false
set_option maxRecDepth 100000

/-! Fork, Do. -/
set_option maxHeartbeats 1000000 in
theorem tab_fork (g : Nat) (l : List RowT) (w : World) (h : TabAt w g l) (hl : l.length ≤ 1000000) :
    Calls Tryz.prog 19 #[.pointer (some ⟨g, 0, none⟩)] w fun e w' => ∃ g', e = .returned (.pointer (some ⟨g', 0, none⟩)) ∧ w.heap.size ≤ g' ∧ TabAt w' g' l ∧ Below w.heap.size w w' := by
  obtain ⟨v, hb, hs, ht⟩ := h
  obtain ⟨A, c, rfl, hc, hcm⟩ := hs.shape
  have c0 := hb.cell 0
  have hgl := hb.lt
  have HS := Lib.hid hs
  have HT := Lib.hid ht
  obtain ⟨n, HN⟩ : ∃ n, Hid (l.length = n) := ⟨_, Lib.hid rfl⟩
  have q1 : (n : Int) ≤ (c : Int) := by have := HN.out; omega
  have q0 : (0 : Int) ≤ (n : Int) := by omega
  rw [HN.out] at c0
  have hA0 := map_add0 A
  clear hb hs ht hc hcm hl
  go_enter Tryz.func19, Tryz.ntmps19
  go_wp2_with (fail)
  refine start_ (n := 18) (S := fun w' => w'.cell? ⟨g, 0, none⟩ = some (.slice A n c)) (ds := []) #[false, false, false, false, false, false, false, false, false, false, false, false, false, false, false, false, false, false] (by kernel_rfl) rfl rfl (c0) (fun hHeld => ?_)
  refine pure_ (i := 0) (N := some 3) (v := ?_) (a' := ?_) #[true, false, false, false, false, false, false, false, false, false, false, false, false, false, false, false, false, false] rfl rfl (by kernel_rfl) (fun _ _ _ h => h) (Or.inl ⟨by rfl, ?_⟩) ?_ ?_
  rotate_left
  · intro w'
    go_simp
    with_reducible rfl
  rotate_left
  · simp only [Act.put, List.setIfInBounds_toArray, List.set_cons_zero, List.set_cons_succ, i64_w, i32_w]
    rfl
  refine pure_ (i := 1) (N := some 4) (v := ?_) (a' := ?_) #[true, true, false, false, false, false, false, false, false, false, false, false, false, false, false, false, false, false] rfl rfl (by kernel_rfl) (fun _ _ _ h => h) (Or.inl ⟨by rfl, ?_⟩) ?_ ?_
  rotate_left
  · intro w'
    go_simp
    with_reducible rfl
  rotate_left
  · simp only [Act.put, List.setIfInBounds_toArray, List.set_cons_zero, List.set_cons_succ, i64_w, i32_w]
    rfl
  refine pure_ (i := 2) (N := some 5) (v := ?_) (a' := ?_) #[true, true, true, false, false, false, false, false, false, false, false, false, false, false, false, false, false, false] rfl rfl (by kernel_rfl) (fun _ _ _ h => h) (Or.inl ⟨by rfl, ?_⟩) ?_ ?_
  rotate_left
  · intro w'
    go_simp
    with_reducible rfl
  rotate_left
  · simp only [Act.put, List.setIfInBounds_toArray, List.set_cons_zero, List.set_cons_succ, i64_w, i32_w]
    rfl
  refine pure_ (i := 4) (N := some 7) (v := ?_) (a' := ?_) #[true, true, true, false, true, false, false, false, false, false, false, false, false, false, false, false, false, false] rfl rfl (by kernel_rfl) (fun _ _ _ h => h) (Or.inl ⟨by rfl, ?_⟩) ?_ ?_
  rotate_left
  · intro w'
    go_simp
    with_reducible rfl
  rotate_left
  · simp only [Act.put, List.setIfInBounds_toArray, List.set_cons_zero, List.set_cons_succ, i64_w, i32_w]
    rfl
  refine pure_ (i := 5) (N := some 8) (v := ?_) (a' := ?_) #[true, true, true, false, true, true, false, false, false, false, false, false, false, false, false, false, false, false] rfl rfl (by kernel_rfl) (fun _ _ _ h => h) (Or.inl ⟨by rfl, ?_⟩) ?_ ?_
  rotate_left
  · intro w'
    go_simp
    with_reducible rfl
  rotate_left
  · simp only [Act.put, List.setIfInBounds_toArray, List.set_cons_zero, List.set_cons_succ, i64_w, i32_w]
    rfl
  refine pure_ (i := 6) (N := some 9) (v := ?_) (a' := ?_) #[true, true, true, false, true, true, true, false, false, false, false, false, false, false, false, false, false, false] rfl rfl (by kernel_rfl) (fun _ _ _ h => h) (Or.inl ⟨by rfl, ?_⟩) ?_ ?_
  rotate_left
  · intro w'
    go_simp
    with_reducible rfl
  rotate_left
  · simp only [Act.put, List.setIfInBounds_toArray, List.set_cons_zero, List.set_cons_succ, i64_w, i32_w]
    rfl
  refine pure_ (i := 9) (N := some 12) (v := ?_) (a' := ?_) #[true, true, true, false, true, true, true, false, false, true, false, false, false, false, false, false, false, false] rfl rfl (by kernel_rfl) (fun _ _ _ h => h) (Or.inl ⟨by rfl, ?_⟩) ?_ ?_
  rotate_left
  · intro w'
    go_simp
    with_reducible rfl
  rotate_left
  · simp only [Act.put, List.setIfInBounds_toArray, List.set_cons_zero, List.set_cons_succ, i64_w, i32_w]
    rfl
  refine pure_ (i := 10) (N := some 13) (v := ?_) (a' := ?_) #[true, true, true, false, true, true, true, false, false, true, true, false, false, false, false, false, false, false] rfl rfl (by kernel_rfl) (fun _ _ _ h => h) (Or.inl ⟨by rfl, ?_⟩) ?_ ?_
  rotate_left
  · intro w'
    go_simp
    with_reducible rfl
  rotate_left
  · simp only [Act.put, List.setIfInBounds_toArray, List.set_cons_zero, List.set_cons_succ, i64_w, i32_w]
    rfl
  refine pure_ (i := 11) (N := some 14) (v := ?_) (a' := ?_) #[true, true, true, false, true, true, true, false, false, true, true, true, false, false, false, false, false, false] rfl rfl (by kernel_rfl) (fun _ _ _ h => h) (Or.inl ⟨by rfl, ?_⟩) ?_ ?_
  rotate_left
  · intro w'
    go_simp
    with_reducible rfl
  rotate_left
  · simp only [Act.put, List.setIfInBounds_toArray, List.set_cons_zero, List.set_cons_succ, i64_w, i32_w]
    rfl
  refine take_ (i := 3) (N := some 6) (v := ?_) (a' := ?_) #[true, true, true, true, true, true, true, false, false, true, true, true, false, false, false, false, false, false] rfl rfl (by kernel_rfl) (fun _ _ _ h => h) (Or.inl ⟨by rfl, ?_⟩) hHeld ?_ ?_
  rotate_left
  · intro w' s0
    go_simp
    with_reducible rfl
  rotate_left
  · simp only [Act.put, List.setIfInBounds_toArray, List.set_cons_zero, List.set_cons_succ, i64_w, i32_w]
    rfl
  refine take_ (i := 7) (N := some 10) (v := ?_) (a' := ?_) #[true, true, true, true, true, true, true, true, false, true, true, true, false, false, false, false, false, false] rfl rfl (by kernel_rfl) (fun _ _ _ h => h) (Or.inl ⟨by rfl, ?_⟩) hHeld ?_ ?_
  rotate_left
  · intro w' s0
    go_simp
    with_reducible rfl
  rotate_left
  · simp only [Act.put, List.setIfInBounds_toArray, List.set_cons_zero, List.set_cons_succ, i64_w, i32_w]
    rfl
  refine pure_ (i := 8) (N := some 11) (v := ?_) (a' := ?_) #[true, true, true, true, true, true, true, true, true, true, true, true, false, false, false, false, false, false] rfl rfl (by kernel_rfl) (fun _ _ _ h => h) (Or.inl ⟨by rfl, ?_⟩) ?_ ?_
  rotate_left
  · intro w'
    go_simp
    with_reducible rfl
  rotate_left
  · simp only [Act.put, List.setIfInBounds_toArray, List.set_cons_zero, List.set_cons_succ, i64_w, i32_w]
    rfl
  refine take_ (i := 12) (N := some 15) (v := ?_) (a' := ?_) #[true, true, true, true, true, true, true, true, true, true, true, true, true, false, false, false, false, false] rfl rfl (by kernel_rfl) (fun _ _ _ h => h) (Or.inl ⟨by rfl, ?_⟩) hHeld ?_ ?_
  rotate_left
  · intro w' s0
    go_simp
    with_reducible rfl
  rotate_left
  · simp only [Act.put, List.setIfInBounds_toArray, List.set_cons_zero, List.set_cons_succ, i64_w, i32_w]
    rfl
  refine pure_ (i := 13) (N := some 16) (v := ?_) (a' := ?_) #[true, true, true, true, true, true, true, true, true, true, true, true, true, true, false, false, false, false] rfl rfl (by kernel_rfl) (fun _ _ _ h => h) (Or.inl ⟨by rfl, ?_⟩) ?_ ?_
  rotate_left
  · intro w'
    go_simp
    with_reducible rfl
  rotate_left
  · simp only [Act.put, List.setIfInBounds_toArray, List.set_cons_zero, List.set_cons_succ, i64_w, i32_w]
    rfl
  refine pure_ (i := 14) (N := some 17) (v := ?_) (a' := ?_) #[true, true, true, true, true, true, true, true, true, true, true, true, true, true, true, false, false, false] rfl rfl (by kernel_rfl) (fun _ _ _ h => h) (Or.inl ⟨by rfl, ?_⟩) ?_ ?_
  rotate_left
  · intro w'
    go_simp
    with_reducible rfl
  rotate_left
  · simp only [Act.put, List.setIfInBounds_toArray, List.set_cons_zero, List.set_cons_succ, i64_w, i32_w]
    rfl
  refine pure_ (i := 15) (N := some 18) (v := ?_) (a' := ?_) #[true, true, true, true, true, true, true, true, true, true, true, true, true, true, true, true, false, false] rfl rfl (by kernel_rfl) (fun _ _ _ h => h) (Or.inl ⟨by rfl, ?_⟩) ?_ ?_
  rotate_left
  · intro w'
    go_simp
    with_reducible rfl
  rotate_left
  · simp only [Act.put, List.setIfInBounds_toArray, List.set_cons_zero, List.set_cons_succ, i64_w, i32_w]
    rfl
  refine one_ (i := 16) (N := some 19) #[true, true, true, true, true, true, true, true, true, true, true, true, true, true, true, true, true, false] rfl rfl (by kernel_rfl) (by decide) (fun K hK => ?_)
  refine value_ (w1 := ?_) (v := ?_) (by rfl) rfl ?_ ?_
  rotate_left 2
  · go_simp
    constructor
    · rfl
    · rfl
  refine hK.out _ _ ((by simp [World.cell?_alloc_lt, hgl]; exact c0)) (fun hHeld => ?_)
  clear hK K
  refine norm_ (a' := ?_) ?_ ?_
  rotate_left
  · show Act.put _ (some 19) _ = _
    simp only [Act.put, List.setIfInBounds_toArray, List.set_cons_zero, List.set_cons_succ, i64_w, i32_w]
    rfl
  refine pure_ (i := 17) (N := some 2) (v := ?_) (a' := ?_) #[true, true, true, true, true, true, true, true, true, true, true, true, true, true, true, true, true, true] rfl rfl (by kernel_rfl) (fun _ _ _ h => h) (Or.inl ⟨by rfl, ?_⟩) ?_ ?_
  rotate_left
  · intro w'
    go_simp
    with_reducible rfl
  rotate_left
  · simp only [Act.put, List.setIfInBounds_toArray, List.set_cons_zero, List.set_cons_succ, i64_w, i32_w]
    rfl
  refine done_ (by kernel_rfl) ?_
  go_wp2
  go_ret
  have hb := (Below.refl w.heap.size w).drew.alloc (Nat.le_refl _) (.cells #[.slice A n n] 100)
  refine ⟨w.heap.size, rfl, Nat.le_refl _, ⟨_, Blk.new w.drew _ _, ?_, fun k hk => ?_⟩, hb⟩
  · have := (HS.out.prefix_ n n (by have := HN.out; omega) (Nat.le_refl _) (by have := HS.out.shape; obtain ⟨_, _, hv, _, hm⟩ := this; injection hv with _ _ hc; simp only [maxLen] at *; omega))
    rw [List.take_of_length_le (by have := HN.out; omega)] at this
    exact this.below hb
  · obtain ⟨cs, hcs⟩ := HT.out k (by cases A <;> exact hk)
    exact ⟨cs, hcs.kept (Kept.of_below hb fun _ => False) (fun h => h)⟩
/-! Results, as they lie. -/
structure ResW where (code stamp : Int) (val : ByteArray) (A : Option Addr) (n c : Nat)
def ResW.cells (x : ResW) : List Value := [.int .i64 x.code, .int .i64 x.stamp, .string x.val, .slice x.A x.n x.c]
def ResIs (w : World) (r : ResW) (x : ResT) : Prop := r.code = x.code ∧ r.stamp = x.stamp ∧ r.val = x.val ∧ RowsV w (.slice r.A r.n r.c) x.rows
def AllIs (w : World) (raw : List ResW) (l : List ResT) : Prop := raw.length = l.length ∧ ∀ (i : Nat) (r : ResW), raw[i]? = some r → ∃ x : ResT, l[i]? = some x ∧ ResIs w r x
/-- Results that are read, in a block of results. -/
def ResL (w : World) (v : Value) (l : List ResT) : Prop := ∃ raw, SegG w ResW.cells v raw ∧ (∀ k, v.ownBlock = some k → ∃ cs, Blk w k 87 cs) ∧ AllIs w raw l
def NoRes (w : World) (S : Nat → Prop) : Prop := ∀ k, S k → ∀ cs, ¬ Blk w k 87 cs
section
variable {w w' : World} {S : Nat → Prop} {raw : List ResW} {l : List ResT} {v : Value}
theorem AllIs.kept (h : AllIs w raw l) (hk : Kept w w' S) (hS : NoRows w S) : AllIs w' raw l :=
  ⟨h.1, fun i r hr => by obtain ⟨x, hx, a, b, c, d⟩ := h.2 i r hr; exact ⟨x, hx, a, b, c, d.kept hk hS⟩⟩
theorem AllIs.below (h : AllIs w raw l) (hb : Below w.heap.size w w') : AllIs w' raw l := h.kept (Kept.of_below hb fun _ => False) (fun _ h => h.elim)
theorem AllIs.snoc (h : AllIs w raw l) {r : ResW} {x : ResT} (hx : ResIs w r x) : AllIs w (raw ++ [r]) (l ++ [x]) := by
  refine ⟨by simp [h.1], fun i r' hr => ?_⟩
  rcases Nat.lt_or_ge i raw.length with hi | hi
  · rw [List.getElem?_append_left hi] at hr
    rw [List.getElem?_append_left (by have := h.1; omega)]
    exact h.2 i r' hr
  · rw [List.getElem?_append_right hi] at hr
    rw [List.getElem?_append_right (by have := h.1; omega)]
    have : i - raw.length = 0 := by have := (List.getElem?_eq_some_iff.1 hr).1; simp at this; omega
    rw [this] at hr
    rw [show i - l.length = 0 by have := h.1; omega]
    injection hr with hr
    exact ⟨x, rfl, hr ▸ hx⟩
theorem ResL.kept (h : ResL w v l) (hk : Kept w w' S) (h1 : NoRows w S) (h2 : NoRes w S) : ResL w' v l := by
  obtain ⟨raw, hs, ht, ha⟩ := h
  have hn : ∀ k, v.ownBlock = some k → ¬ S k := fun k e hs' => by
    obtain ⟨cs, hc⟩ := ht k e
    exact h2 k hs' cs hc
  exact ⟨raw, hs.kept hk hn, fun k e => by
    obtain ⟨cs, hc⟩ := ht k e
    exact ⟨cs, hc.kept hk (hn k e)⟩, ha.kept hk h1⟩
theorem ResL.below (h : ResL w v l) (hb : Below w.heap.size w w') : ResL w' v l := h.kept (Kept.of_below hb fun _ => False) (fun _ h => h.elim) (fun _ h => h.elim)
theorem ResL.nil (w : World) : ResL w (.slice none 0 0) [] := ⟨[], ⟨none, 0, rfl, Nat.le_refl _, by decide, fun h => absurd h (Nat.lt_irrefl 0)⟩, fun k e => by simp [Value.ownBlock] at e, rfl, fun i r h => by simp at h⟩
end
theorem info_resW : (Tryz.prog.info? 87).map (fun i => (i.zero, i.size, i.bytes)) = some (some (.agg #[.int .i64 0, .int .i64 0, .string ⟨#[]⟩, .slice none 0 0]), 4, 56) := by kernel_rfl
theorem one_resW : ∀ x, ∀ u ∈ ResW.cells x, u.oneCell' = true := by
  intro x u hu
  simp [ResW.cells] at hu
  rcases hu with rfl | rfl | rfl | rfl <;> rfl
/-- Results of the call's own. -/
def OutR (w : World) (B : Nat) (v : Value) (l : List ResT) : Prop := ∃ raw, Row w 87 4 ResW.cells v raw ∧ (∀ k, v.ownBlock = some k → B ≤ k) ∧ AllIs w raw l
theorem OutR.kept {w w' : World} {S : Nat → Prop} {B : Nat} {v : Value} {l : List ResT} (h : OutR w B v l) (hk : Kept w w' S) (h1 : NoRows w S) (h2 : NoRes w S) : OutR w' B v l := by
  obtain ⟨raw, hr, hf, ha⟩ := h
  exact ⟨raw, hr.kept hk (fun k e hs => by obtain ⟨cs, hc⟩ := hr.typed e; exact h2 k hs cs hc), hf, ha.kept hk h1⟩
theorem OutR.below {w w' : World} {B : Nat} {v : Value} {l : List ResT} (h : OutR w B v l) (hb : Below w.heap.size w w') : OutR w' B v l := h.kept (Kept.of_below hb fun _ => False) (fun _ h => h.elim) (fun _ h => h.elim)
theorem OutR.res {w : World} {B : Nat} {v : Value} {l : List ResT} (h : OutR w B v l) : ResL w v l := by
  obtain ⟨raw, hr, hf, ha⟩ := h
  exact ⟨raw, SegG.of_row hr, fun k e => hr.typed e, ha⟩

/-! IndexFunc over operations that may be. -/
theorem do_part (x : OpT) (w : World) (h : opMay x = true) :
    Calls Tryz.prog 44 #[.agg #[.int .i64 x.kind, .string x.key, .string x.val, .int .i64 x.stamp, .int .i64 x.test, .int .i64 x.most]] w fun en w' => en = .returned (.bool false) ∧ Below w.heap.size w w' := by
  have hu := Tryz.underlying85
  have hc := fun W => check_calls x W
  rw [if_pos h] at hc
  unfold OpT.v at hc
  clear h
  go_enter Tryz.func44, Tryz.ntmps44
  go_wp2_with (fail)
  refine (hc _).mono ?_
  rintro en w' ⟨rfl, hB⟩
  have hA := (Below.refl w.heap.size w).alloc (Nat.le_refl _) (.cells #[.int .i64 x.kind, .string x.key, .string x.val, .int .i64 x.stamp, .int .i64 x.test, .int .i64 x.most] 85)
  go_wp2
  go_ret
  exact ⟨rfl, Below.trans hA (hB.mono hA.size)⟩
theorem opT_at {w : World} {A : Option Addr} {n c i : Nat} {l : List OpT} (h : SegG w OpT.cells (.slice A n c) l) (hi : i < l.length) : ∃ ad, A = some ad ∧ w.cell? (ad.add (i * 6)) = some (.int .i64 l[i].kind) ∧ w.cell? ⟨(ad.add (i * 6)).block, (ad.add (i * 6)).off + 1, none⟩ = some (.string l[i].key) ∧ w.cell? ⟨(ad.add (i * 6)).block, (ad.add (i * 6)).off + 2, none⟩ = some (.string l[i].val) ∧ w.cell? ⟨(ad.add (i * 6)).block, (ad.add (i * 6)).off + 3, none⟩ = some (.int .i64 l[i].stamp) ∧ w.cell? ⟨(ad.add (i * 6)).block, (ad.add (i * 6)).off + 4, none⟩ = some (.int .i64 l[i].test) ∧ w.cell? ⟨(ad.add (i * 6)).block, (ad.add (i * 6)).off + 5, none⟩ = some (.int .i64 l[i].most) := by
  obtain ⟨ad, c', hv', hc', hm'⟩ := h.form (by omega)
  injection hv' with hA _ hcc
  subst hA
  exact ⟨ad, rfl, h.cell (sz := 6) (fun _ => rfl) i 0 hi (by omega), h.cell (sz := 6) (fun _ => rfl) i 1 hi (by omega), h.cell (sz := 6) (fun _ => rfl) i 2 hi (by omega), h.cell (sz := 6) (fun _ => rfl) i 3 hi (by omega), h.cell (sz := 6) (fun _ => rfl) i 4 hi (by omega), h.cell (sz := 6) (fun _ => rfl) i 5 hi (by omega)⟩
set_option maxHeartbeats 2000000 in
theorem do_index (v : Value) (l : List OpT) (w : World) (h : SegG w OpT.cells v l) (hl : l.length ≤ 1000000) (hm : ∀ x ∈ l, opMay x = true) :
    Calls Tryz.prog 43 #[v, .func (.func 44) #[] #[]] w fun en w' => en = .returned (.int .i64 (-1)) ∧ Below w.heap.size w w' := by
  obtain ⟨A, c, rfl, hc, hmx⟩ := h.shape
  have HH := Lib.hid h
  have HM := Lib.hid hm
  obtain ⟨n, HN⟩ : ∃ n, Hid (l.length = n) := ⟨_, Lib.hid rfl⟩
  have hn : n ≤ 1000000 := by rw [← HN.out]; exact hl
  rw [HN.out] at HH ⊢
  clear h hm hl hc hmx
  go_enter Tryz.func43, Tryz.ntmps43
  go_wp2_with (fail)
  go_loopg [5, 8] n (fun gg _ s8 wr => ∃ (i : Nat), i ≤ n ∧ n - i ≤ gg ∧ s8 = .int .i64 i ∧ Hid (Below w.heap.size w wr))
  case atStart => exact ⟨0, by omega, by omega, rfl, Lib.hid (Below.refl _ _)⟩
  case round =>
    obtain ⟨i, hi, hgg, rfl, HB⟩ := hrel
    by_cases hlt : i < n
    · have hz : (i : Int) < (n : Int) := by omega
      have hi0 : (0 : Int) ≤ (i : Int) := by omega
      have hil : i < l.length := by have := HN.out; omega
      have hw5 : IntKind.i64.wrap ((i : Int) + 1) = ((i + 1 : Nat) : Int) := by rw [IntKind.wrap_i64]; omega
      obtain ⟨ad, rfl, x0, x1, x2, x3, x4, x5⟩ := opT_at (HH.out.below HB.out) hil
      have hmi := HM.out _ (List.getElem_mem hil)
      generalize l[i] = x at x0 x1 x2 x3 x4 x5 hmi
      have hcall := do_part x wr hmi
      clear hmi
      go_wp2_with (fail)
      refine hcall.mono ?_
      rintro e w3 ⟨rfl, hb3⟩
      have HB3 := Lib.hid (HB.out.trans (hb3.mono HB.out.size))
      clear hcall hb3 x0 x1 x2 x3 x4 x5
      go_wp2
      go_roundg (n - (i + 1))
      case measure => omega
      case rel => exact ⟨i + 1, by omega, Nat.le_refl _, by go_num, HB3⟩
    · have hz : ¬ (i : Int) < (n : Int) := by omega
      go_wp2
      go_ret
      exact ⟨rfl, HB.out⟩
end Go.Proofs.YtdfdlajfjcakaaaGreat
