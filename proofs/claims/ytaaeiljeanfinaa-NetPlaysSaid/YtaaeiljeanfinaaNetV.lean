import Derived.Test.YtaaeiljeanfinaaNetU
namespace Go.Proofs.Ytaaeiljeanfinaa
open Go Go.RowKit
open Go.Proofs.YtaaeiljeanfinaaW.PrintLast
set_option linter.unusedVariables false
set_option linter.unusedSimpArgs false

theorem info_sb : (Try.prog.info? 80).map (fun i => (i.zero, i.size, i.bytes)) = some (some (.slice none 0 0), 1, 24) := by kernel_rfl
theorem info_b : (Try.prog.info? 4).map (fun i => (i.zero, i.size, i.bytes)) = some (some (.bool false), 1, 1) := by kernel_rfl
theorem one_sl (N : Nat) : ∀ x : Nat, ∀ u ∈ scells N x, u.oneCell' = true := fun x u hu => by simp [scells] at hu; subst hu; rfl
theorem made_row (w : World) (N : Nat) (hN : N ≤ 1000000 := by omega) : Row (w.alloc (.cells (madeCells #[.bool false] N) 4)) 4 1 bcells (.slice (some ⟨w.heap.size, 0, none⟩) N N) (List.replicate N false) := by
  have h := World.ownsRow_lit (base := 0) (e := 4) (size := 1) w (madeCells #[.bool false] N) N (Nat.zero_le _) (by unfold maxLen; omega) (by simp [size_madeCells])
  have hl : (madeCells #[Value.bool false] N).toList = (List.replicate N false).flatMap bcells := by
    apply List.ext_getElem
    · rw [flat_length (sz := 1) (fun _ => rfl)]; simp [madeCells]
    · intro i h1 h2
      have h3 : i < N := by simpa [madeCells] using h1
      have e := flat_get (enc := bcells) (sz := 1) (fun _ => rfl) (List.replicate N false) i 0 (by simpa using h3) (by omega)
      rw [Nat.mul_one, Nat.add_zero, List.getElem?_eq_getElem h2] at e
      simp only [List.getElem_replicate, bcells, List.getElem?_cons_zero, Option.some.injEq] at e
      rw [e]
      simp [madeCells, Nat.mod_one]
  unfold Row
  rw [List.length_replicate, ← hl]
  exact h
theorem Cuts.snoc {w : World} {F : Nat → Prop} {N b : Nat} {bs : List Nat} {cut : List (List Bool)} {r : List Bool} (h : Cuts w F N bs cut) (hr : Row w 4 1 bcells (.slice (some ⟨b, 0, none⟩) N N) r) (hb : F b) (hn : b ∉ bs) : Cuts w F N (bs ++ [b]) (cut ++ [r]) := by
  refine ⟨by simp [h.len], ?_, fun i h1 h2 => ?_⟩
  · rw [List.nodup_append]
    exact ⟨h.nodup, by simp, fun a ha c hc => by simp at hc; subst hc; rintro rfl; exact hn ha⟩
  · rcases Nat.lt_or_ge i bs.length with h3 | h3
    · rw [List.getElem_append_left h3, List.getElem_append_left (by rw [← h.len]; exact h3)]
      exact h.each i h3 (by rw [← h.len]; exact h3)
    · have e : i = bs.length := by rw [List.length_append, List.length_singleton] at h1; omega
      subst e
      have e2 : (cut ++ [r])[bs.length]'h2 = r := by rw [List.getElem_append_right (by rw [h.len]; exact Nat.le_refl _)]; simp [h.len]
      have e3 : (bs ++ [b])[bs.length]'h1 = b := by rw [List.getElem_append_right (Nat.le_refl _)]; simp
      rw [e2, e3]
      exact ⟨hr, hb⟩
/-- What holds all through New. -/
structure NI (w W : World) (g : Nat) (n : Int) (N : Nat) (vc : Value) (bs : List Nat) (i : Nat) : Prop where
  b : Blk W g 79 #[.int .i64 n, .slice none 0 0, .int .i64 0, vc]
  r : Row W 80 1 (scells N) vc bs
  c : Cuts W (fun k => w.heap.size ≤ k) N bs (List.replicate i (List.replicate N false))
  k : Below w.heap.size w W
  g : w.heap.size ≤ g
  v : ∀ k, vc.ownBlock = some k → w.heap.size ≤ k
theorem NI.bl {w W : World} {g : Nat} {n : Int} {N : Nat} {vc : Value} {bs : List Nat} {i : Nat} (h : NI w W g n N vc bs i) : ∀ q ∈ bs, q < W.heap.size := by
  intro q hq
  obtain ⟨j, hj, rfl⟩ := List.mem_iff_getElem.1 hq
  exact (h.c.each j hj (by rw [← h.c.len]; exact hj)).1.lt rfl
section
variable {w W W' : World} {g : Nat} {n : Int} {N : Nat} {vc vc' : Value} {bs : List Nat} {i b : Nat}
theorem NI.alloc (h : NI w W g n N vc bs i) (o : Obj) : NI w (W.alloc o) g n N vc bs i := ⟨h.b.alloc o, h.r.alloc o, h.c.kept ((Kept.refl W (fun _ => False)).alloc o) (fun _ _ _ h => h), h.k.alloc h.k.size o, h.g, h.v⟩
theorem NI.drew (h : NI w W g n N vc bs i) : NI w W.drew g n N vc bs i := ⟨h.b, h.r, h.c.kept (Kept.refl W (fun _ => False)).drew (fun _ _ _ h => h), h.k.drew, h.g, h.v⟩
/-- Behind the append, but for the store. -/
theorem NI.more (h : NI w W g n N vc bs i) (hr : Row W' 80 1 (scells N) vc' (bs ++ [b])) (hg : W.grownBy W' vc.ownBlock) (hv : ∀ k, vc'.ownBlock = some k → w.heap.size ≤ k) (hm : Row W 4 1 bcells (.slice (some ⟨b, 0, none⟩) N N) (List.replicate N false)) (hb : w.heap.size ≤ b) (hn : ∀ q ∈ bs, q ≠ b) :
    NI w (W'.setCell ⟨g, 3, none⟩ vc') g n N vc' (bs ++ [b]) (i + 1) := by
  have hb0 := h.b.grown hg (fun e => h.r.ne_blk h.b (by decide) e.symm)
  have hk : Kept W' (W'.setCell ⟨g, 3, none⟩ vc') (fun k => k = g) := (Kept.refl W' (fun k => k = g)).setCell (p := ⟨g, 3, none⟩) (.inl rfl) _
  have hc2 : Cuts W' (fun k => w.heap.size ≤ k) N (bs ++ [b]) (List.replicate i (List.replicate N false) ++ [List.replicate N false]) := by
    refine Cuts.snoc ⟨h.c.len, h.c.nodup, fun j h1 h2 => ⟨(h.c.each j h1 h2).1.grown hg (fun k e e2 => (h.c.each j h1 h2).1.apart h.r (by decide) k e e2.symm), (h.c.each j h1 h2).2⟩⟩ (hm.grown hg (fun k e e2 => hm.apart h.r (by decide) k e e2.symm)) hb (fun hq => hn b hq rfl)
  refine ⟨hb0.set_ 3 _, hr.kept hk (fun k e e2 => hr.ne_blk hb0 (by decide) (e2 ▸ e)), ?_, (h.k.grown hg h.k.size (fun k e => h.v k e)).setCell h.g _, h.g, hv⟩
  rw [List.replicate_succ']
  refine ⟨hc2.len, hc2.nodup, fun j h1 h2 => ⟨(hc2.each j h1 h2).1.kept hk (fun k e e2 => (hc2.each j h1 h2).1.ne_blk hb0 (by decide) (e2 ▸ e)), (hc2.each j h1 h2).2⟩⟩
end
theorem ref_new_bad (n : Int) (w : World) (hn : n < 1 ∨ 16 < n) :
    Calls Try.prog 20 #[.int .i64 n] w fun e w' => e = .returned (.tuple #[.pointer none, .int .i64 1]) ∧ Below w.heap.size w w' := by
  by_cases h : n < 1
  · clear hn
    go_enter Try.func20, Try.ntmps20
    go_wp2
    go_ret2
    exact ⟨rfl, Below.refl _ _⟩
  · have h2 : 16 < n := by omega
    have h3 : 1 ≤ n := by omega
    clear hn h
    go_enter Try.func20, Try.ntmps20
    go_wp2
    go_ret2
    exact ⟨rfl, Below.refl _ _⟩
def newRef (N : Nat) : RefS := ⟨N, 0, [], List.replicate N (List.replicate N false)⟩
set_option maxRecDepth 100000 in
set_option maxHeartbeats 4000000 in
theorem ref_new_ok (N : Nat) (w : World) (h1 : 1 ≤ N) (h2 : N ≤ 16) :
    Calls Try.prog 20 #[.int .i64 (N : Int)] w fun e w' => e = .returned (.tuple #[.pointer (some ⟨w.heap.size, 0, none⟩), .int .i64 0]) ∧ Below w.heap.size w w' ∧ RefAt w' (fun k => w.heap.size ≤ k ∧ k < w'.heap.size) w.heap.size (newRef N) := by
  obtain ⟨i0, hi, hz0, hz1, hz2⟩ := info_parts info_b
  have hmk : ∀ W : World, (Instr.makeSlice 80 (.int .i64 (N : Int)) (.int .i64 (N : Int))).run Try.prog W = .ok (.slice (some ⟨W.heap.size, 0, none⟩) N N) (W.alloc (.cells (madeCells #[.bool false] N) 4)) := fun W => by
    have hr := run_make (P := Try.prog) W 80 4 i0 (.bool false) Try.underlying80 hi hz0 .i64 .i64 N N (by omega) (by omega) (by rw [hz2]; omega) (by omega)
    simp only [Int.toNat_natCast, hz1, Nat.mul_one] at hr
    exact hr
  have g1 : (1 : Int) ≤ N := by omega
  have g2 : (N : Int) ≤ 16 := by omega
  clear hi hz0 hz1 hz2
  go_enter Try.func20, Try.ntmps20
  go_wp2
  go_loopg [5] N (fun gg s5 wr => ∃ (i : Nat) (B : Option Addr) (m c : Nat) (bs : List Nat), i ≤ N ∧ N - i ≤ gg ∧ s5 = .int .i64 i ∧ Hid (NI w wr w.heap.size N N (.slice B m c) bs i))
  case atStart => exact ⟨0, none, 0, 0, [], Nat.zero_le _, by omega, rfl, Lib.hid ⟨Blk.new w _ _, Row.nil_ .., ⟨rfl, by simp, fun i h => absurd h (by simp)⟩, (Below.refl _ _).alloc (Nat.le_refl _) _, Nat.le_refl _, by simp [Value.ownBlock]⟩⟩
  case round =>
    obtain ⟨i, B, m, c, bs, hi, hg, rfl, J0⟩ := hrel
    by_cases hlt : i < N
    · have hltz : (i : Int) < (N : Int) := by omega
      have h0z : (0 : Int) ≤ (i : Int) := by omega
      have hbl := J0.out.c.len
      rw [List.length_replicate] at hbl
      have hle := Lib.hid (show (bs.length + 1) * 24 ≤ 140737488355328 by omega)
      clear hbl
      go_wp2
      refine start_ (n := 12) (S := fun w' => w'.cell? ⟨w.heap.size, 3, none⟩ = some (.slice B m c)) (ds := [11]) #[false, false, false, false, false, false, false, false, false, false, false, false] (by kernel_rfl) rfl rfl (J0.out.drew.b.cell 3) (fun hHeld => ?_)
      refine pure_ (i := 0) (N := some 20) (v := ?_) (a' := ?_) #[true, false, false, false, false, false, false, false, false, false, false, false] rfl rfl (by kernel_rfl) (fun _ _ _ h => h) (Or.inl ⟨by rfl, ?_⟩) ?_ ?_
      rotate_left
      · intro w'
        go_simp
        with_reducible rfl
      rotate_left
      · simp only [Act.put, List.setIfInBounds_toArray, List.set_cons_zero, List.set_cons_succ, i64_w, i32_w]
        rfl
      refine pure_ (i := 1) (N := some 21) (v := ?_) (a' := ?_) #[true, true, false, false, false, false, false, false, false, false, false, false] rfl rfl (by kernel_rfl) (fun _ _ _ h => h) (Or.inl ⟨by rfl, ?_⟩) ?_ ?_
      rotate_left
      · intro w'
        go_simp
        with_reducible rfl
      rotate_left
      · simp only [Act.put, List.setIfInBounds_toArray, List.set_cons_zero, List.set_cons_succ, i64_w, i32_w]
        rfl
      refine pure_ (i := 2) (N := some 22) (v := ?_) (a' := ?_) #[true, true, true, false, false, false, false, false, false, false, false, false] rfl rfl (by kernel_rfl) (fun _ _ _ h => h) (Or.inl ⟨by rfl, ?_⟩) ?_ ?_
      rotate_left
      · intro w'
        go_simp
        with_reducible rfl
      rotate_left
      · simp only [Act.put, List.setIfInBounds_toArray, List.set_cons_zero, List.set_cons_succ, i64_w, i32_w]
        rfl
      refine pure_ (i := 3) (N := some 23) (v := ?_) (a' := ?_) #[true, true, true, true, false, false, false, false, false, false, false, false] rfl rfl (by kernel_rfl) (fun _ _ _ h => h) (Or.inl ⟨by rfl, ?_⟩) ?_ ?_
      rotate_left
      · intro w'
        go_simp
        with_reducible rfl
      rotate_left
      · simp only [Act.put, List.setIfInBounds_toArray, List.set_cons_zero, List.set_cons_succ, i64_w, i32_w]
        rfl
      refine pure_ (i := 5) (N := some 25) (v := ?_) (a' := ?_) #[true, true, true, true, false, true, false, false, false, false, false, false] rfl rfl (by kernel_rfl) (fun _ _ _ h => h) (Or.inl ⟨by rfl, ?_⟩) ?_ ?_
      rotate_left
      · intro w'
        go_simp
        with_reducible rfl
      rotate_left
      · simp only [Act.put, List.setIfInBounds_toArray, List.set_cons_zero, List.set_cons_succ, i64_w, i32_w]
        rfl
      refine take_ (i := 4) (N := some 24) (v := ?_) (a' := ?_) #[true, true, true, true, true, true, false, false, false, false, false, false] rfl rfl (by kernel_rfl) (fun _ _ _ h => h) (Or.inl ⟨by rfl, ?_⟩) hHeld ?_ ?_
      rotate_left
      · intro w' s0
        go_simp
        with_reducible rfl
      rotate_left
      · simp only [Act.put, List.setIfInBounds_toArray, List.set_cons_zero, List.set_cons_succ, i64_w, i32_w]
        rfl
      refine one_ (i := 6) (N := some 26) #[true, true, true, true, true, true, true, false, false, false, false, false] rfl rfl (by kernel_rfl) (by decide) (fun K hK => ?_)
      refine value_ (w1 := ?_) (v := ?_) (by rfl) rfl ?_ ?_
      rotate_left 2
      · go_simp
        constructor
        · rfl
        · rfl
      have J6 := Lib.hid (J0.out.drew.alloc (.cells (madeCells #[.bool false] N) 4))
      have M6 := Lib.hid (made_row wr.drew N)
      refine hK.out _ _ (J6.out.b.cell 3) (fun hHeld => ?_)
      clear hK K
      refine norm_ (a' := ?_) ?_ ?_
      rotate_left
      · show Act.put _ (some 26) _ = _
        simp only [Act.put, List.setIfInBounds_toArray, List.set_cons_zero, List.set_cons_succ, i64_w, i32_w]
        rfl
      refine one_ (i := 7) (N := some 27) #[true, true, true, true, true, true, true, true, false, false, false, false] rfl rfl (by kernel_rfl) (by decide) (fun K hK => ?_)
      refine value_ (w1 := ?_) (v := ?_) (by rfl) rfl ?_ ?_
      rotate_left 2
      · go_simp
        constructor
        · rfl
        · rfl
      have J7 := Lib.hid (J6.out.alloc (.cells #[.slice (some ⟨wr.heap.size, 0, none⟩) N N] 80))
      have M7 := Lib.hid (M6.out.alloc (.cells #[.slice (some ⟨wr.heap.size, 0, none⟩) N N] 80))
      have n7 := news_lit (scells N) (wr.drew.alloc (.cells (madeCells #[.bool false] N) 4)) 80 wr.heap.size #[.slice (some ⟨wr.heap.size, 0, none⟩) N N] rfl
      simp only [World.size_alloc] at n7
      have N7 := Lib.hid n7
      clear n7
      refine hK.out _ _ (J7.out.b.cell 3) (fun hHeld => ?_)
      clear hK K
      refine norm_ (a' := ?_) ?_ ?_
      rotate_left
      · show Act.put _ (some 27) _ = _
        simp only [Act.put, List.setIfInBounds_toArray, List.set_cons_zero, List.set_cons_succ, i64_w, i32_w]
        rfl
      refine one_ (i := 8) (N := some 28) #[true, true, true, true, true, true, true, true, true, false, false, false] rfl rfl (by kernel_rfl) (by decide) (fun K hK => ?_)
      refine Row.append_step (by rfl) (.tmp 24) (.tmp 27) 77 80 (.slice none 0 0) 1 24 (by rfl) Try.underlying77 info_sb rfl (by decide) (by decide) (.slice B m c) bs [wr.heap.size] (by rfl) ⟨wr.heap.size + 1, 0, none⟩ 1 1 (by rfl) J7.out.r rfl (fun _ => rfl) N7.out (one_sl N) hle.out ?_
      intro v9 w9 hR hG hO
      obtain ⟨B9, m9, c9, rfl⟩ := hR.some_slice
      have J9 := Lib.hid (J7.out.more hR hG (own_ge2 hO J7.out.v (by have := J0.out.k.size; simp <;> omega)) M7.out J0.out.k.size (fun q hq => by have := J0.out.bl q hq; omega))
      have hc9 : w9.cell? ⟨w.heap.size, 3, none⟩ = _ := (J7.out.b.grown hG (fun e => J7.out.r.ne_blk J7.out.b (by decide) e.symm)).cell 3
      have hf9 : w9.frozen? ⟨w.heap.size, 3, none⟩ = false := (J7.out.b.grown hG (fun e => J7.out.r.ne_blk J7.out.b (by decide) e.symm)).frozen 3
      have hb9 := Lib.hid (J7.out.b.grown hG (fun e => J7.out.r.ne_blk J7.out.b (by decide) e.symm))
      clear hR hG hO
      refine hK.out _ _ (hc9) (fun hHeld => ?_)
      clear hK K
      refine norm_ (a' := ?_) ?_ ?_
      rotate_left
      · show Act.put _ (some 28) _ = _
        simp only [Act.put, List.setIfInBounds_toArray, List.set_cons_zero, List.set_cons_succ, i64_w, i32_w]
        rfl
      refine pure_ (i := 9) (N := some 29) (v := ?_) (a' := ?_) #[true, true, true, true, true, true, true, true, true, true, false, false] rfl rfl (by kernel_rfl) (fun _ _ _ h => h) (Or.inl ⟨by rfl, ?_⟩) ?_ ?_
      rotate_left
      · intro w'
        go_simp
        with_reducible rfl
      rotate_left
      · simp only [Act.put, List.setIfInBounds_toArray, List.set_cons_zero, List.set_cons_succ, i64_w, i32_w]
        rfl
      refine pure_ (i := 10) (N := some 30) (v := ?_) (a' := ?_) #[true, true, true, true, true, true, true, true, true, true, true, false] rfl rfl (by kernel_rfl) (fun _ _ _ h => h) (Or.inl ⟨by rfl, ?_⟩) ?_ ?_
      rotate_left
      · intro w'
        go_simp
        with_reducible rfl
      rotate_left
      · simp only [Act.put, List.setIfInBounds_toArray, List.set_cons_zero, List.set_cons_succ, i64_w, i32_w]
        rfl
      refine last_ (i := 11) (N := none) #[true, true, true, true, true, true, true, true, true, true, true, true] rfl rfl (by kernel_rfl) (by decide) (fun K hK => ?_)
      refine skip_ (w1 := ?_) (by rfl) rfl ?_ ?_
      rotate_left
      · go_simp
        rfl
      refine hK.out _ _ ?_
      clear hK K
      refine done_ (by kernel_rfl) ?_

      go_wp2
      go_roundg (N - (i + 1))
      case measure => omega
      case rel => exact ⟨i + 1, B9, m9, c9, bs ++ [wr.heap.size], by omega, Nat.le_refl _, by go_num, J9⟩
    · obtain rfl : i = N := by omega
      have hltz : ¬ ((i : Int) < (i : Int)) := by omega
      go_wp2
      go_ret2
      have j := J0.out
      refine ⟨rfl, j.k, .slice none 0 0, .slice B m c, bs, i, j.b, Row.nil_ .., j.r, j.c.mono (fun k hk h => ⟨h, hk⟩), ⟨Nat.le_refl _, j.b.lt⟩, by simp [Value.ownBlock], fun k e => ⟨j.v k e, j.r.lt e⟩⟩
end Go.Proofs.Ytaaeiljeanfinaa
