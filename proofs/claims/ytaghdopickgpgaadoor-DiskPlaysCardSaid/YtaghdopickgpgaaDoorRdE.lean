import Derived.Test.YtaghdopickgpgaaDoorRdD
import Derived.Test.YtaghdopickgpgaaDoorWLast
namespace Go.Proofs.YtaghdopickgpgaaDoor
open Go Go.RowKit
open Go.Proofs.YtaghdopickgpgaaDoorW.PrintLast
set_option linter.unusedVariables false
set_option linter.unusedSimpArgs false

theorem SegG.news_ {α : Type} {w : World} {enc : α → List Value} {ad : Addr} {n c : Nat} {l : List α} (h : SegG w enc (.slice (some ad) n c) l) : ∀ t u, (l.flatMap enc)[t]? = some u → w.cell? (ad.add t) = some u := by
  obtain ⟨A', c', hv, _, _, hc⟩ := h
  rcases Nat.eq_zero_or_pos l.length with h0 | h0
  · obtain rfl : l = [] := List.eq_nil_of_length_eq_zero h0
    intro j u hu
    simp at hu
  · obtain ⟨ad', rfl, hc2⟩ := hc h0
    simp only [Value.slice.injEq, Option.some.injEq] at hv
    obtain ⟨rfl, _, _⟩ := hv
    exact hc2
theorem sans_pos {fs : Files} (h : fs.Pairwise fun p q => ltB p.1 q.1 = true) (k : ByteArray) (hh : hasF fs k = true) : ([] ++ fs.take (posF fs k)) ++ fs.drop (posF fs k + 1) = sans fs k := by
  obtain ⟨h1, h2, _⟩ := pos_all h k
  rw [if_pos hh] at h2
  rw [List.nil_append, ← h1, ← h2]
  unfold sans
  induction fs with
  | nil => rfl
  | cons p fs ih =>
    obtain ⟨q1, q2⟩ := List.pairwise_cons.1 h
    clear ih h1 h2 hh
    have key : ∀ l : Files, (l.Pairwise fun p q => ltB p.1 q.1 = true) → l.filter (fun p => ltB p.1 k) ++ l.filter (fun p => ltB k p.1) = l.filter fun p => !decide (p.1 = k) := by
      intro l
      induction l with
      | nil => intro _; rfl
      | cons p l ih =>
        intro hl
        obtain ⟨l1, l2⟩ := List.pairwise_cons.1 hl
        cases hp : ltB p.1 k with
        | true =>
          rw [List.filter_cons_of_pos (p := fun p : ByteArray × DF => ltB p.1 k) hp, List.filter_cons_of_neg (p := fun p : ByteArray × DF => ltB k p.1) (by rw [ltB_asymm hp]; simp), List.filter_cons_of_pos (p := fun p : ByteArray × DF => !decide (p.1 = k)) (by simpa using ltB_ne hp), List.cons_append, ih l2]
        | false =>
          have hle : ∀ q ∈ l, ltB k q.1 = true := fun q hq => by
            by_cases hpk : p.1 = k
            · exact hpk ▸ l1 q hq
            · exact ltB_trans (ltB_total hp hpk) (l1 q hq)
          have e1 : l.filter (fun p => ltB p.1 k) = [] := List.filter_eq_nil_iff.2 fun q hq => by rw [ltB_asymm (hle q hq)]; simp
          have e2 : l.filter (fun p => ltB k p.1) = l := List.filter_eq_self.2 hle
          have e3 : l.filter (fun p => !decide (p.1 = k)) = l := List.filter_eq_self.2 fun q hq => by simpa using (ltB_ne (hle q hq)).symm
          rw [List.filter_cons_of_neg (p := fun p : ByteArray × DF => ltB p.1 k) (by rw [hp]; simp), e1, List.nil_append]
          by_cases hpk : p.1 = k
          · rw [List.filter_cons_of_neg (p := fun p : ByteArray × DF => ltB k p.1) (by rw [hpk, ltB_irrefl]; simp), List.filter_cons_of_neg (p := fun p : ByteArray × DF => !decide (p.1 = k)) (by simp [hpk]), e2, e3]
          · rw [List.filter_cons_of_pos (p := fun p : ByteArray × DF => ltB k p.1) (ltB_total hp hpk), List.filter_cons_of_pos (p := fun p : ByteArray × DF => !decide (p.1 = k)) (by simpa using hpk), e2, e3]
    exact key (p :: fs) h
set_option maxRecDepth 100000 in
set_option maxHeartbeats 8000000 in
theorem refd_drop (G : Nat → Prop) (g : Nat) (s : DkS) (k : ByteArray) (w : World) (h : RkAt w G g s) (hs : s.Ok) (hG : ∀ k, w.heap.size ≤ k → G k) (hh : hasF s.fs k = true) :
    Calls Tryd.prog 57 #[.pointer (some ⟨g, 0, none⟩), .string k] w fun e w' => e = .returned (.tuple #[]) ∧ RkPost w G g (s.drop k) w' := by
  have hpl := refd_place G g s k w h hs.n
  rw [hh] at hpl
  have hn64 := hs.n
  have HSANS := Lib.hid (sans_pos hs.sorted k hh)
  obtain ⟨hpl2, _⟩ := hasF_at hs.sorted hh
  obtain ⟨vl, lf, hb, h1, hlf, hg, f1⟩ := h
  generalize posF s.fs k = po at *
  obtain ⟨gb, c, rfl, hgl, hcl⟩ := h1.form (by omega)
  have P0 := Lib.hid (show PF w w g s lf (.slice (some ⟨gb, 0, none⟩) s.fs.length c) from ⟨hb, h1, Below.refl _ _, hb.lt, fun k e => h1.lt e⟩)
  have hc2 : c ≤ 9223372036854775807 := h1.cap.2.2
  have HHG := Lib.hid hG
  have HLF := Lib.hid hlf
  have HG0 := Lib.hid hg
  obtain ⟨j, HJ⟩ : ∃ j, Hid (po + 1 = j) := ⟨_, Lib.hid rfl⟩
  rw [HJ.out] at HSANS
  have hjz : (po : Int) + 1 = (j : Int) := by have := HJ.out; omega
  have hjl : j ≤ s.fs.length := by have := HJ.out; omega
  have hjc : j ≤ c := by omega
  have gw : IntKind.i64.wrap ((po : Int) + 1) = (j : Int) := by rw [hjz, IntKind.wrap_i64]; omega
  have g0 : (0 : Int) ≤ (po : Int) := by omega
  have gj : (0 : Int) ≤ (j : Int) := by omega
  have hpos : po ≤ s.fs.length := by omega
  have hic : po ≤ c := by omega
  have q1 : (po : Int) ≤ (s.fs.length : Int) := by omega
  have q2 : (po : Int) ≤ (c : Int) := by omega
  have q3 : (j : Int) ≤ (s.fs.length : Int) := by omega
  have q4 : (j : Int) ≤ (c : Int) := by omega
  obtain ⟨AD, hAD⟩ : ∃ AD : Addr, cutA (some ⟨gb, 0, none⟩) c j 3 = some AD := by unfold cutA; split <;> exact ⟨_, rfl⟩
  have SUF := Lib.hid (fun W (h : PF w W g s lf (.slice (some ⟨gb, 0, none⟩) s.fs.length c)) => h.r.suffix j hjl (fun _ => rfl))
  rw [hAD] at SUF
  have hA : (if c = j then some (⟨gb, 0, none⟩ : Addr) else some ⟨gb, j * 3, none⟩) = some AD := by
    rw [← hAD]
    unfold cutA
    split
    · rfl
    · show _ = some ((⟨gb, 0, none⟩ : Addr).add (j * 3))
      rw [addr0]
  have hdl := Lib.hid (show (s.fs.drop j).length = s.fs.length - j from List.length_drop ..)
  have hle1 := Lib.hid (show (([] : Files).length + (s.fs.take po).length) * 40 ≤ 140737488355328 by rw [List.length_take]; simp only [List.length_nil]; omega)
  have hle2 := Lib.hid (show (([] ++ s.fs.take po).length + (s.fs.length - j)) * 40 ≤ 140737488355328 by rw [List.nil_append, List.length_take]; omega)
  clear hb h1 hlf hg f1 hG hs hAD hjz hh
  go_enter Tryd.func57, Tryd.ntmps57
  go_wp2_with (fail)
  refine hpl.mono ?_
  rintro e w2 ⟨rfl, hb2⟩
  have P2 := Lib.hid (P0.out.below hb2)
  have hs2 := hb2.size
  clear hpl hb2
  go_wp2_with (fail)
  refine start_ (n := 20) (S := fun w' => w'.cell? ⟨g, 1, none⟩ = some (.slice (some ⟨gb, 0, none⟩) s.fs.length c)) (ds := [19]) #[false, false, false, false, false, false, false, false, false, false, false, false, false, false, false, false, false, false, false, false] (by kernel_rfl) rfl rfl (P2.out.drew.b.cell 1) (fun hHeld => ?_)
  refine pure_ (i := 0) (N := some 13) (v := ?_) (a' := ?_) #[true, false, false, false, false, false, false, false, false, false, false, false, false, false, false, false, false, false, false, false] rfl rfl (by kernel_rfl) (fun _ _ _ h => h) (Or.inl ⟨by rfl, ?_⟩) ?_ ?_
  rotate_left
  · intro w'
    go_simp
    with_reducible rfl
  rotate_left
  · simp only [Act.put, List.setIfInBounds_toArray, List.set_cons_zero, List.set_cons_succ, i64_w, i32_w]
    rfl
  refine pure_ (i := 2) (N := some 15) (v := ?_) (a' := ?_) #[true, false, true, false, false, false, false, false, false, false, false, false, false, false, false, false, false, false, false, false] rfl rfl (by kernel_rfl) (fun _ _ _ h => h) (Or.inl ⟨by rfl, ?_⟩) ?_ ?_
  rotate_left
  · intro w'
    go_simp
    with_reducible rfl
  rotate_left
  · simp only [Act.put, List.setIfInBounds_toArray, List.set_cons_zero, List.set_cons_succ, i64_w, i32_w]
    rfl
  refine pure_ (i := 3) (N := some 16) (v := ?_) (a' := ?_) #[true, false, true, true, false, false, false, false, false, false, false, false, false, false, false, false, false, false, false, false] rfl rfl (by kernel_rfl) (fun _ _ _ h => h) (Or.inl ⟨by rfl, ?_⟩) ?_ ?_
  rotate_left
  · intro w'
    go_simp
    with_reducible rfl
  rotate_left
  · simp only [Act.put, List.setIfInBounds_toArray, List.set_cons_zero, List.set_cons_succ, i64_w, i32_w]
    rfl
  refine pure_ (i := 4) (N := some 17) (v := ?_) (a' := ?_) #[true, false, true, true, true, false, false, false, false, false, false, false, false, false, false, false, false, false, false, false] rfl rfl (by kernel_rfl) (fun _ _ _ h => h) (Or.inl ⟨by rfl, ?_⟩) ?_ ?_
  rotate_left
  · intro w'
    go_simp
    with_reducible rfl
  rotate_left
  · simp only [Act.put, List.setIfInBounds_toArray, List.set_cons_zero, List.set_cons_succ, i64_w, i32_w]
    rfl
  refine pure_ (i := 6) (N := some 19) (v := ?_) (a' := ?_) #[true, false, true, true, true, false, true, false, false, false, false, false, false, false, false, false, false, false, false, false] rfl rfl (by kernel_rfl) (fun _ _ _ h => h) (Or.inl ⟨by rfl, ?_⟩) ?_ ?_
  rotate_left
  · intro w'
    go_simp
    with_reducible rfl
  rotate_left
  · simp only [Act.put, List.setIfInBounds_toArray, List.set_cons_zero, List.set_cons_succ, i64_w, i32_w]
    rfl
  refine pure_ (i := 9) (N := some 22) (v := ?_) (a' := ?_) #[true, false, true, true, true, false, true, false, false, true, false, false, false, false, false, false, false, false, false, false] rfl rfl (by kernel_rfl) (fun _ _ _ h => h) (Or.inl ⟨by rfl, ?_⟩) ?_ ?_
  rotate_left
  · intro w'
    go_simp
    with_reducible rfl
  rotate_left
  · simp only [Act.put, List.setIfInBounds_toArray, List.set_cons_zero, List.set_cons_succ, i64_w, i32_w]
    rfl
  refine pure_ (i := 10) (N := some 23) (v := ?_) (a' := ?_) #[true, false, true, true, true, false, true, false, false, true, true, false, false, false, false, false, false, false, false, false] rfl rfl (by kernel_rfl) (fun _ _ _ h => h) (Or.inl ⟨by rfl, ?_⟩) ?_ ?_
  rotate_left
  · intro w'
    go_simp
    with_reducible rfl
  rotate_left
  · simp only [Act.put, List.setIfInBounds_toArray, List.set_cons_zero, List.set_cons_succ, i64_w, i32_w]
    rfl
  refine pure_ (i := 11) (N := some 24) (v := ?_) (a' := ?_) #[true, false, true, true, true, false, true, false, false, true, true, true, false, false, false, false, false, false, false, false] rfl rfl (by kernel_rfl) (fun _ _ _ h => h) (Or.inl ⟨by rfl, ?_⟩) ?_ ?_
  rotate_left
  · intro w'
    go_simp
    with_reducible rfl
  rotate_left
  · simp only [Act.put, List.setIfInBounds_toArray, List.set_cons_zero, List.set_cons_succ, i64_w, i32_w]
    rfl
  refine pure_ (i := 13) (N := some 26) (v := ?_) (a' := ?_) #[true, false, true, true, true, false, true, false, false, true, true, true, false, true, false, false, false, false, false, false] rfl rfl (by kernel_rfl) (fun _ _ _ h => h) (Or.inl ⟨by rfl, ?_⟩) ?_ ?_
  rotate_left
  · intro w'
    go_simp
    with_reducible rfl
  rotate_left
  · simp only [Act.put, List.setIfInBounds_toArray, List.set_cons_zero, List.set_cons_succ, i64_w, i32_w]
    rfl
  refine pure_ (i := 14) (N := some 27) (v := ?_) (a' := ?_) #[true, false, true, true, true, false, true, false, false, true, true, true, false, true, true, false, false, false, false, false] rfl rfl (by kernel_rfl) (fun _ _ _ h => h) (Or.inl ⟨by rfl, ?_⟩) ?_ ?_
  rotate_left
  · intro w'
    go_simp
    with_reducible rfl
  rotate_left
  · simp only [Act.put, List.setIfInBounds_toArray, List.set_cons_zero, List.set_cons_succ, i64_w, i32_w]
    rfl
  refine take_ (i := 5) (N := some 18) (v := ?_) (a' := ?_) #[true, false, true, true, true, true, true, false, false, true, true, true, false, true, true, false, false, false, false, false] rfl rfl (by kernel_rfl) (fun _ _ _ h => h) (Or.inl ⟨by rfl, ?_⟩) hHeld ?_ ?_
  rotate_left
  · intro w' s0
    go_simp
    with_reducible rfl
  rotate_left
  · simp only [Act.put, List.setIfInBounds_toArray, List.set_cons_zero, List.set_cons_succ, i64_w, i32_w]
    rfl
  refine pure_ (i := 7) (N := some 20) (v := ?_) (a' := ?_) #[true, false, true, true, true, true, true, true, false, true, true, true, false, true, true, false, false, false, false, false] rfl rfl (by kernel_rfl) (fun _ _ _ h => h) (Or.inl ⟨by rfl, ?_⟩) ?_ ?_
  rotate_left
  · intro w'
    go_simp
    with_reducible rfl
  rotate_left
  · simp only [Act.put, List.setIfInBounds_toArray, List.set_cons_zero, List.set_cons_succ, i64_w, i32_w]
    rfl
  refine take_ (i := 12) (N := some 25) (v := ?_) (a' := ?_) #[true, false, true, true, true, true, true, true, false, true, true, true, true, true, true, false, false, false, false, false] rfl rfl (by kernel_rfl) (fun _ _ _ h => h) (Or.inl ⟨by rfl, ?_⟩) hHeld ?_ ?_
  rotate_left
  · intro w' s0
    go_simp
    with_reducible rfl
  rotate_left
  · simp only [Act.put, List.setIfInBounds_toArray, List.set_cons_zero, List.set_cons_succ, i64_w, i32_w]
    rfl
  refine pure_ (i := 15) (N := some 28) (v := ?_) (a' := ?_) #[true, false, true, true, true, true, true, true, false, true, true, true, true, true, true, true, false, false, false, false] rfl rfl (by kernel_rfl) (fun _ _ _ h => h) (Or.inl ⟨by rfl, ?_⟩) ?_ ?_
  rotate_left
  · intro w'
    go_simp
    with_reducible rfl
  rotate_left
  · simp only [Act.put, List.setIfInBounds_toArray, List.set_cons_zero, List.set_cons_succ, i64_w, i32_w]
    rfl
  refine one_ (i := 1) (N := some 14) #[true, true, true, true, true, true, true, true, false, true, true, true, true, true, true, true, false, false, false, false] rfl rfl (by kernel_rfl) (by decide) (fun K hK => ?_)
  refine value_ (w1 := ?_) (v := ?_) (by rfl) rfl ?_ ?_
  rotate_left 2
  · go_simp
    constructor
    · rfl
    · rfl
  have P3 := Lib.hid (P2.out.drew.alloc (.cells #[] 79))
  have E3 := Lib.hid (Row.empty w2.drew 79 3 FE)
  refine hK.out _ _ (P3.out.b.cell 1) (fun hHeld => ?_)
  clear hK K
  refine norm_ (a' := ?_) ?_ ?_
  rotate_left
  · show Act.put _ (some 14) _ = _
    simp only [Act.put, List.setIfInBounds_toArray, List.set_cons_zero, List.set_cons_succ, i64_w, i32_w]
    rfl
  refine one_ (i := 8) (N := some 21) #[true, true, true, true, true, true, true, true, true, true, true, true, true, true, true, true, false, false, false, false] rfl rfl (by kernel_rfl) (by decide) (fun K hK => ?_)
  refine Row.appendRow_step (by rfl) (.tmp 14) (.tmp 20) 75 79 (.agg #[.string ⟨#[]⟩, .string ⟨#[]⟩, .int .i64 0]) 3 40 (by rfl) Tryd.underlying75 info_file rfl (by decide) (by decide) (.slice (some ⟨w2.heap.size, 0, none⟩) 0 0) (.slice (some ⟨gb, 0, none⟩) po c) [] (s.fs.take po) (by rfl) (by rfl) E3.out (P3.out.r.prefix_ po hpos (fun _ => rfl)) (fun _ => rfl) one_file hle1.out ?_
  intro v6 w6 hR hG6 hO
  obtain ⟨A6, m6, c6, rfl⟩ := hR.some_slice
  have P6 := Lib.hid (P3.out.grownV hG6 (fun k e => by simp [Value.ownBlock] at e; omega))
  have R6 := Lib.hid hR
  have V6 := Lib.hid (own_ge (n := w.heap.size) (b := w2.heap.size) hO ⟨rfl, hs2⟩ (show w.heap.size ≤ (w2.drew.alloc (.cells #[] 79)).heap.size from (by have : (w2.drew.alloc (.cells #[] 79)).heap.size = w2.heap.size + 1 := World.size_alloc ..; omega)))
  have hs6 : (w2.drew.alloc (.cells #[] 79)).heap.size ≤ w6.heap.size := hG6.size
  have hs7 : (w2.drew.alloc (.cells #[] 79)).heap.size = w2.heap.size + 1 := World.size_alloc ..
  clear hR hG6 hO
  refine hK.out _ _ (P6.out.b.cell 1) (fun hHeld => ?_)
  clear hK K
  refine norm_ (a' := ?_) ?_ ?_
  rotate_left
  · show Act.put _ (some 21) _ = _
    simp only [Act.put, List.setIfInBounds_toArray, List.set_cons_zero, List.set_cons_succ, i64_w, i32_w]
    rfl
  refine one_ (i := 16) (N := some 29) #[true, true, true, true, true, true, true, true, true, true, true, true, true, true, true, true, true, false, false, false] rfl rfl (by kernel_rfl) (by decide) (fun K hK => ?_)
  refine Row.append_step (by rfl) (.tmp 21) (.tmp 28) 75 79 (.agg #[.string ⟨#[]⟩, .string ⟨#[]⟩, .int .i64 0]) 3 40 (by rfl) Tryd.underlying75 info_file rfl (by decide) (by decide) (.slice A6 m6 c6) ([] ++ s.fs.take po) (s.fs.drop j) (by rfl) AD (s.fs.length - j) (c - j) (by rfl) R6.out hdl.out (fun _ => rfl) (SUF.out _ P6.out).news_ one_file hle2.out ?_
  intro v9 w9 hR hG9 hO
  obtain ⟨A9, m9, c9, rfl⟩ := hR.some_slice
  have P9 := Lib.hid (P6.out.grownV hG9 V6.out)
  have R9 := Lib.hid hR
  have V9 := Lib.hid (own_ge2 hO V6.out (by omega))
  have hc9 := P9.out.b.cell 1
  have hf9 := P9.out.b.frozen 1
  clear hR hG9 hO
  refine hK.out _ _ (P9.out.b.cell 1) (fun hHeld => ?_)
  clear hK K
  refine norm_ (a' := ?_) ?_ ?_
  rotate_left
  · show Act.put _ (some 29) _ = _
    simp only [Act.put, List.setIfInBounds_toArray, List.set_cons_zero, List.set_cons_succ, i64_w, i32_w]
    rfl
  refine pure_ (i := 17) (N := some 30) (v := ?_) (a' := ?_) #[true, true, true, true, true, true, true, true, true, true, true, true, true, true, true, true, true, true, false, false] rfl rfl (by kernel_rfl) (fun _ _ _ h => h) (Or.inl ⟨by rfl, ?_⟩) ?_ ?_
  rotate_left
  · intro w'
    go_simp
    with_reducible rfl
  rotate_left
  · simp only [Act.put, List.setIfInBounds_toArray, List.set_cons_zero, List.set_cons_succ, i64_w, i32_w]
    rfl
  refine pure_ (i := 18) (N := some 31) (v := ?_) (a' := ?_) #[true, true, true, true, true, true, true, true, true, true, true, true, true, true, true, true, true, true, true, false] rfl rfl (by kernel_rfl) (fun _ _ _ h => h) (Or.inl ⟨by rfl, ?_⟩) ?_ ?_
  rotate_left
  · intro w'
    go_simp
    with_reducible rfl
  rotate_left
  · simp only [Act.put, List.setIfInBounds_toArray, List.set_cons_zero, List.set_cons_succ, i64_w, i32_w]
    rfl
  refine last_ (i := 19) (N := none) #[true, true, true, true, true, true, true, true, true, true, true, true, true, true, true, true, true, true, true, true] rfl rfl (by kernel_rfl) (by decide) (fun K hK => ?_)
  refine skip_ (w1 := ?_) (by rfl) rfl ?_ ?_
  rotate_left
  · go_simp
    rfl
  refine hK.out _ _ ?_
  clear hK K
  refine done_ (by kernel_rfl) ?_

  go_wp2
  go_end0
  have hr := R9.out
  rw [HSANS.out] at hr
  exact ⟨rfl, P9.out.reset HHG.out HG0.out HLF.out rfl rfl rfl rfl hr V9.out⟩
end Go.Proofs.YtaghdopickgpgaaDoor
