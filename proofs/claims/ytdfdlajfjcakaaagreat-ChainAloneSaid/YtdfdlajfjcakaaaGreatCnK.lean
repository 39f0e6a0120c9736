import Derived.Test.YtdfdlajfjcakaaaGreatCnJ
namespace Go.Proofs.YtdfdlajfjcakaaaGreat
open Go Go.RowKit
open Go.Proofs.YtdfdlajfjcakaaaGreatW.PrintLast
open Go.Proofs.YtdfdlajfjcakaaaGreat.PAll (S136 fN fT)
set_option linter.unusedVariables false
set_option linter.unusedSimpArgs false
set_option maxRecDepth 100000

/-! read: of the letters that members send. -/
theorem set6 {w : World} {b ty : Nat} {a0 a1 a2 a3 a4 a5 : Value} (h : Blk w b ty #[a0, a1, a2, a3, a4, a5]) (x0 x1 x2 x3 x4 x5 : Value) :
    Blk ((((((w.setCell ⟨b, 0, none⟩ x0).setCell ⟨b, 1, none⟩ x1).setCell ⟨b, 2, none⟩ x2).setCell ⟨b, 3, none⟩ x3).setCell ⟨b, 4, none⟩ x4).setCell ⟨b, 5, none⟩ x5) b ty #[x0, x1, x2, x3, x4, x5] ∧
    Kept w ((((((w.setCell ⟨b, 0, none⟩ x0).setCell ⟨b, 1, none⟩ x1).setCell ⟨b, 2, none⟩ x2).setCell ⟨b, 3, none⟩ x3).setCell ⟨b, 4, none⟩ x4).setCell ⟨b, 5, none⟩ x5) (fun k => k = b) := by
  refine ⟨?_, ((((((Kept.refl w fun k => k = b).setCell (p := ⟨b, 0, none⟩) (.inl rfl) x0).setCell (p := ⟨b, 1, none⟩) (.inl rfl) x1).setCell (p := ⟨b, 2, none⟩) (.inl rfl) x2).setCell (p := ⟨b, 3, none⟩) (.inl rfl) x3).setCell (p := ⟨b, 4, none⟩) (.inl rfl) x4).setCell (p := ⟨b, 5, none⟩) (.inl rfl) x5⟩
  have := (((((h.set_ 0 x0).set_ 1 x1).set_ 2 x2).set_ 3 x3).set_ 4 x4).set_ 5 x5
  simpa using this
set_option maxHeartbeats 8000000 in
theorem read_up (ep n : Int) (he : 0 ≤ ep ∧ ep ≤ 1073741824) (hn : 0 ≤ n ∧ n ≤ 1048576) (w : World) :
    Calls Tryz.prog 46 #[.string (bytesF (upF ep n))] w fun e w' => e = .returned (.tuple #[.agg #[.int .i64 2, .int .i64 ep, .int .i64 n, .int .i64 0, .int .i64 0, .slice none 0 0], .bool true]) ∧ Below w.heap.size w w' := by
  have hs := up_sends (E := ep) (n := n) ⟨by omega, by omega⟩ ⟨by omega, by omega⟩
  have HA := Lib.hid ((Below.refl w.heap.size w).alloc (Nat.le_refl _) (.cells #[.int .i64 0, .int .i64 0, .int .i64 0, .int .i64 0, .int .i64 0, .slice none 0 0] 106))
  have HZ := Lib.hid (Blk.new w 106 #[.int .i64 0, .int .i64 0, .int .i64 0, .int .i64 0, .int .i64 0, .slice none 0 0])
  have hdc := fun W => code_dec (bytesF (upF ep n)) (upF ep n) W rfl hs.1 hs.2.1 hs.2.2
  have HL4 := Lib.hid (show ((upF ep n)).length = 3 from rfl)
  generalize bytesF (upF ep n) = bs at *
  have hu := Tryz.underlying32
  clear hs
  go_enter Tryz.func46, Tryz.ntmps46
  go_wp2_with (fail)
  generalize (w.alloc (.cells #[.int .i64 0, .int .i64 0, .int .i64 0, .int .i64 0, .int .i64 0, .slice none 0 0] 106)) = wa at *
  refine (hdc _).mono ?_
  rintro e w1 ⟨v, rfl, hr1, hb1, hf1⟩
  obtain ⟨gb, c, rfl, hgl, hcl⟩ := hr1.form (by rw [HL4.out]; decide)
  rw [HL4.out] at hr1 hcl ⊢
  have B1 := Lib.hid (HA.out.trans (hb1.mono HA.out.size))
  have HR1 := Lib.hid hr1
  have HZ1 := Lib.hid (HZ.out.kept (Kept.of_below hb1 fun _ => False) (fun h => h))
  have HG := Lib.hid (Nat.lt_of_lt_of_le HZ.out.lt (hf1 gb rfl))
  have B2 := Lib.hid ((Below.refl w1.heap.size w1).alloc (Nat.le_refl _) (.cells #[.int .i64 0, .int .i64 0] 32))
  have HX2 := Lib.hid (Blk.new w1 32 #[.int .i64 0, .int .i64 0])
  have x0 := HX2.out.cell 0
  have x1 := HX2.out.cell 1
  clear hdc hr1 hb1 hf1 HZ
  go_wp2_with (fail)
  generalize (w1.alloc (.cells #[.int .i64 0, .int .i64 0] 32)) = w2 at *
  have HR2 := Lib.hid (HR1.out.kept (Kept.of_below B2.out fun _ => False) (fun _ _ h => h))
  have HZ2 := Lib.hid (HZ1.out.kept (Kept.of_below B2.out fun _ => False) (fun h => h))
  have B2' := Lib.hid (B1.out.trans (B2.out.mono B1.out.size))
  have b0 := HR2.out.cell (fun _ => rfl) 0 0 (by rw [HL4.out]; decide) (by decide)
  have b1 := HR2.out.cell (fun _ => rfl) 0 1 (by rw [HL4.out]; decide) (by decide)
  have b2 := HR2.out.cell (fun _ => rfl) 0 2 (by rw [HL4.out]; decide) (by decide)
  have b3 := HR2.out.cell (fun _ => rfl) 1 0 (by rw [HL4.out]; decide) (by decide)
  have b4 := HR2.out.cell (fun _ => rfl) 1 1 (by rw [HL4.out]; decide) (by decide)
  have b5 := HR2.out.cell (fun _ => rfl) 1 2 (by rw [HL4.out]; decide) (by decide)
  have b6 := HR2.out.cell (fun _ => rfl) 2 0 (by rw [HL4.out]; decide) (by decide)
  have b7 := HR2.out.cell (fun _ => rfl) 2 1 (by rw [HL4.out]; decide) (by decide)
  have b8 := HR2.out.cell (fun _ => rfl) 2 2 (by rw [HL4.out]; decide) (by decide)
  replace b0 : w2.cell? ⟨gb, 0, none⟩ = some (.bool false) := b0
  replace b1 : w2.cell? ⟨gb, 1, none⟩ = some (.int .i64 2) := b1
  replace b2 : w2.cell? ⟨gb, 2, none⟩ = some (.string ⟨#[]⟩) := b2
  replace b3 : w2.cell? ⟨gb, 3, none⟩ = some (.bool false) := b3
  replace b4 : w2.cell? ⟨gb, 4, none⟩ = some (.int .i64 ep) := b4
  replace b5 : w2.cell? ⟨gb, 5, none⟩ = some (.string ⟨#[]⟩) := b5
  replace b6 : w2.cell? ⟨gb, 6, none⟩ = some (.bool false) := b6
  replace b7 : w2.cell? ⟨gb, 7, none⟩ = some (.int .i64 n) := b7
  replace b8 : w2.cell? ⟨gb, 8, none⟩ = some (.string ⟨#[]⟩) := b8
  have q3 : (3 : Int) ≤ (c : Int) := by omega
  have e1 : decide (ep < 0) = false := decide_eq_false (by omega)
  have e2 : decide ((1073741824 : Int) < ep) = false := decide_eq_false (by omega)
  have n1 : decide (n < 0) = false := decide_eq_false (by omega)
  have n2 : decide ((1073741824 : Int) < n) = false := decide_eq_false (by omega)
  have n3 : decide ((1048576 : Int) < n) = false := decide_eq_false (by omega)
  clear HX2 HR1 HZ1 x0 x1
  have hgl2 : gb < w2.heap.size := Nat.lt_of_lt_of_le hgl B2.out.size
  go_wp2_with (fail)
  go_loopg [7, 26] 3 (fun gg _ s26 wr => ∃ (i : Nat), i ≤ 3 ∧ 3 - i ≤ gg ∧ s26 = .int .i64 i ∧ Hid (Below w2.heap.size w2 wr))
  case atStart => exact ⟨0, by omega, by omega, by go_num, Lib.hid (Below.refl _ _)⟩
  case round =>
    obtain ⟨i, hi, hgg, rfl, HB⟩ := hrel
    replace b0 := (HB.out.cell (p := ⟨gb, 0, none⟩) hgl2).trans b0
    replace b1 := (HB.out.cell (p := ⟨gb, 1, none⟩) hgl2).trans b1
    replace b2 := (HB.out.cell (p := ⟨gb, 2, none⟩) hgl2).trans b2
    replace b3 := (HB.out.cell (p := ⟨gb, 3, none⟩) hgl2).trans b3
    replace b4 := (HB.out.cell (p := ⟨gb, 4, none⟩) hgl2).trans b4
    replace b5 := (HB.out.cell (p := ⟨gb, 5, none⟩) hgl2).trans b5
    replace b6 := (HB.out.cell (p := ⟨gb, 6, none⟩) hgl2).trans b6
    replace b7 := (HB.out.cell (p := ⟨gb, 7, none⟩) hgl2).trans b7
    replace b8 := (HB.out.cell (p := ⟨gb, 8, none⟩) hgl2).trans b8
    rcases (show i = 0 ∨ i = 1 ∨ i = 2 ∨ i = 3 by omega) with rfl | rfl | rfl | rfl
    · go_wp2
      go_roundg 2
      case measure => omega
      case rel => exact ⟨1, by omega, by omega, by go_num, Lib.hid (HB.out.alloc HB.out.size _)⟩
    · go_wp2
      go_roundg 1
      case measure => omega
      case rel => exact ⟨2, by omega, by omega, by go_num, Lib.hid (HB.out.alloc HB.out.size _)⟩
    · go_wp2
      go_roundg 0
      case measure => omega
      case rel => exact ⟨3, by omega, by omega, by go_num, Lib.hid (HB.out.alloc HB.out.size _)⟩
    · have HZr := Lib.hid (HZ2.out.kept (Kept.of_below HB.out fun _ => False) (fun h => h))
      have B3 := Lib.hid (B2'.out.trans (HB.out.mono B2'.out.size))
      have z0 := HZr.out.cell 0
      have z1 := HZr.out.cell 1
      have z2 := HZr.out.cell 2
      have z3 := HZr.out.cell 3
      have z4 := HZr.out.cell 4
      have z5 := HZr.out.cell 5
      have f0 := HZr.out.frozen 0
      have f1 := HZr.out.frozen 1
      have f2 := HZr.out.frozen 2
      have f3 := HZr.out.frozen 3
      have f4 := HZr.out.frozen 4
      have f5 := HZr.out.frozen 5
      have hzl := HZr.out.lt
      go_wp2_with (fail)
      refine start_ (n := 14) (S := fun w' => w'.cell? ⟨gb, 1, none⟩ = some (.int .i64 2) ∧ w'.cell? ⟨gb, 4, none⟩ = some (.int .i64 ep) ∧ w'.cell? ⟨gb, 7, none⟩ = some (.int .i64 n)) (ds := [13]) #[false, false, false, false, false, false, false, false, false, false, false, false, false, false] (by kernel_rfl) rfl rfl ⟨b1, b4, b7⟩ (fun hHeld => ?_)
      refine pure_ (i := 0) (N := some 44) (v := ?_) (a' := ?_) #[true, false, false, false, false, false, false, false, false, false, false, false, false, false] rfl rfl (by kernel_rfl) (fun _ _ _ h => h) (Or.inl ⟨by rfl, ?_⟩) ?_ ?_
      rotate_left
      · intro w'
        go_simp
        with_reducible rfl
      rotate_left
      · simp only [Act.put, List.setIfInBounds_toArray, List.set_cons_zero, List.set_cons_succ, i64_w, i32_w]
        rfl
      refine pure_ (i := 1) (N := some 45) (v := ?_) (a' := ?_) #[true, true, false, false, false, false, false, false, false, false, false, false, false, false] rfl rfl (by kernel_rfl) (fun _ _ _ h => h) (Or.inl ⟨by rfl, ?_⟩) ?_ ?_
      rotate_left
      · intro w'
        go_simp
        with_reducible rfl
      rotate_left
      · simp only [Act.put, List.setIfInBounds_toArray, List.set_cons_zero, List.set_cons_succ, i64_w, i32_w]
        rfl
      refine pure_ (i := 2) (N := some 46) (v := ?_) (a' := ?_) #[true, true, true, false, false, false, false, false, false, false, false, false, false, false] rfl rfl (by kernel_rfl) (fun _ _ _ h => h) (Or.inl ⟨by rfl, ?_⟩) ?_ ?_
      rotate_left
      · intro w'
        go_simp
        with_reducible rfl
      rotate_left
      · simp only [Act.put, List.setIfInBounds_toArray, List.set_cons_zero, List.set_cons_succ, i64_w, i32_w]
        rfl
      refine pure_ (i := 4) (N := some 48) (v := ?_) (a' := ?_) #[true, true, true, false, true, false, false, false, false, false, false, false, false, false] rfl rfl (by kernel_rfl) (fun _ _ _ h => h) (Or.inl ⟨by rfl, ?_⟩) ?_ ?_
      rotate_left
      · intro w'
        go_simp
        with_reducible rfl
      rotate_left
      · simp only [Act.put, List.setIfInBounds_toArray, List.set_cons_zero, List.set_cons_succ, i64_w, i32_w]
        rfl
      refine pure_ (i := 5) (N := some 49) (v := ?_) (a' := ?_) #[true, true, true, false, true, true, false, false, false, false, false, false, false, false] rfl rfl (by kernel_rfl) (fun _ _ _ h => h) (Or.inl ⟨by rfl, ?_⟩) ?_ ?_
      rotate_left
      · intro w'
        go_simp
        with_reducible rfl
      rotate_left
      · simp only [Act.put, List.setIfInBounds_toArray, List.set_cons_zero, List.set_cons_succ, i64_w, i32_w]
        rfl
      refine pure_ (i := 6) (N := some 50) (v := ?_) (a' := ?_) #[true, true, true, false, true, true, true, false, false, false, false, false, false, false] rfl rfl (by kernel_rfl) (fun _ _ _ h => h) (Or.inl ⟨by rfl, ?_⟩) ?_ ?_
      rotate_left
      · intro w'
        go_simp
        with_reducible rfl
      rotate_left
      · simp only [Act.put, List.setIfInBounds_toArray, List.set_cons_zero, List.set_cons_succ, i64_w, i32_w]
        rfl
      refine pure_ (i := 8) (N := some 52) (v := ?_) (a' := ?_) #[true, true, true, false, true, true, true, false, true, false, false, false, false, false] rfl rfl (by kernel_rfl) (fun _ _ _ h => h) (Or.inl ⟨by rfl, ?_⟩) ?_ ?_
      rotate_left
      · intro w'
        go_simp
        with_reducible rfl
      rotate_left
      · simp only [Act.put, List.setIfInBounds_toArray, List.set_cons_zero, List.set_cons_succ, i64_w, i32_w]
        rfl
      refine pure_ (i := 9) (N := some 53) (v := ?_) (a' := ?_) #[true, true, true, false, true, true, true, false, true, true, false, false, false, false] rfl rfl (by kernel_rfl) (fun _ _ _ h => h) (Or.inl ⟨by rfl, ?_⟩) ?_ ?_
      rotate_left
      · intro w'
        go_simp
        with_reducible rfl
      rotate_left
      · simp only [Act.put, List.setIfInBounds_toArray, List.set_cons_zero, List.set_cons_succ, i64_w, i32_w]
        rfl
      refine pure_ (i := 10) (N := some 54) (v := ?_) (a' := ?_) #[true, true, true, false, true, true, true, false, true, true, true, false, false, false] rfl rfl (by kernel_rfl) (fun _ _ _ h => h) (Or.inl ⟨by rfl, ?_⟩) ?_ ?_
      rotate_left
      · intro w'
        go_simp
        with_reducible rfl
      rotate_left
      · simp only [Act.put, List.setIfInBounds_toArray, List.set_cons_zero, List.set_cons_succ, i64_w, i32_w]
        rfl
      refine take_ (i := 3) (N := some 47) (v := ?_) (a' := ?_) #[true, true, true, true, true, true, true, false, true, true, true, false, false, false] rfl rfl (by kernel_rfl) (fun _ _ _ h => h) (Or.inl ⟨by rfl, ?_⟩) hHeld ?_ ?_
      rotate_left
      · rintro w' ⟨s0, s1, s2⟩
        go_simp
        with_reducible rfl
      rotate_left
      · simp only [Act.put, List.setIfInBounds_toArray, List.set_cons_zero, List.set_cons_succ, i64_w, i32_w]
        rfl
      refine take_ (i := 7) (N := some 51) (v := ?_) (a' := ?_) #[true, true, true, true, true, true, true, true, true, true, true, false, false, false] rfl rfl (by kernel_rfl) (fun _ _ _ h => h) (Or.inl ⟨by rfl, ?_⟩) hHeld ?_ ?_
      rotate_left
      · rintro w' ⟨s0, s1, s2⟩
        go_simp
        with_reducible rfl
      rotate_left
      · simp only [Act.put, List.setIfInBounds_toArray, List.set_cons_zero, List.set_cons_succ, i64_w, i32_w]
        rfl
      refine take_ (i := 11) (N := some 55) (v := ?_) (a' := ?_) #[true, true, true, true, true, true, true, true, true, true, true, true, false, false] rfl rfl (by kernel_rfl) (fun _ _ _ h => h) (Or.inl ⟨by rfl, ?_⟩) hHeld ?_ ?_
      rotate_left
      · rintro w' ⟨s0, s1, s2⟩
        go_simp
        with_reducible rfl
      rotate_left
      · simp only [Act.put, List.setIfInBounds_toArray, List.set_cons_zero, List.set_cons_succ, i64_w, i32_w]
        rfl
      refine pure_ (i := 12) (N := some 56) (v := ?_) (a' := ?_) #[true, true, true, true, true, true, true, true, true, true, true, true, true, false] rfl rfl (by kernel_rfl) (fun _ _ _ h => h) (Or.inl ⟨by rfl, ?_⟩) ?_ ?_
      rotate_left
      · intro w'
        go_simp
        with_reducible rfl
      rotate_left
      · simp only [Act.put, List.setIfInBounds_toArray, List.set_cons_zero, List.set_cons_succ, i64_w, i32_w]
        rfl
      refine last_ (i := 13) (N := none) #[true, true, true, true, true, true, true, true, true, true, true, true, true, true] rfl rfl (by kernel_rfl) (by decide) (fun K hK => ?_)
      refine skip_ (w1 := ?_) (by rfl) rfl ?_ ?_
      rotate_left
      · go_simp
        rfl
      refine hK.out _ _ ?_
      clear hK K
      refine done_ (by kernel_rfl) ?_
      have h6 := set6 HZr.out (.int .i64 2) (.int .i64 ep) (.int .i64 n) (.int .i64 0) (.int .i64 0) (.slice none 0 0)
      have HB6 := Lib.hid (B3.out.trans (h6.2.below B3.out.size (fun k hk e => by omega)))
      generalize ((((((wr.setCell ⟨w.heap.size, 0, none⟩ (.int .i64 2)).setCell ⟨w.heap.size, 1, none⟩ (.int .i64 ep)).setCell ⟨w.heap.size, 2, none⟩ (.int .i64 n)).setCell ⟨w.heap.size, 3, none⟩ (.int .i64 0)).setCell ⟨w.heap.size, 4, none⟩ (.int .i64 0)).setCell ⟨w.heap.size, 5, none⟩ (.slice none 0 0)) = w6 at *
      have HZ6 := Lib.hid h6.1.drew
      have HB7 := Lib.hid HB6.out.drew
      have HK6 := Lib.hid h6.2.drew
      clear z0 z1 z2 z3 z4 z5 f0 f1 f2 f3 f4 f5 hzl h6
      generalize w6.drew = w7 at *
      have z0 := HZ6.out.cell 0
      have z1 := HZ6.out.cell 1
      have z2 := HZ6.out.cell 2
      have z3 := HZ6.out.cell 3
      have z4 := HZ6.out.cell 4
      have z5 := HZ6.out.cell 5
      have f0 := HZ6.out.frozen 0
      have f1 := HZ6.out.frozen 1
      have f2 := HZ6.out.frozen 2
      have f3 := HZ6.out.frozen 3
      have f4 := HZ6.out.frozen 4
      have f5 := HZ6.out.frozen 5
      have hzl := HZ6.out.lt
      go_wp2
      have h8 := set6 HZ6.out (.int .i64 2) (.int .i64 ep) (.int .i64 n) (.int .i64 0) (.int .i64 0) (.slice none 0 0)
      have HB8 := HB7.out.trans (h8.2.below HB7.out.size (fun k hk e => by omega))
      generalize ((((((w7.setCell ⟨w.heap.size, 0, none⟩ (.int .i64 2)).setCell ⟨w.heap.size, 1, none⟩ (.int .i64 ep)).setCell ⟨w.heap.size, 2, none⟩ (.int .i64 n)).setCell ⟨w.heap.size, 3, none⟩ (.int .i64 0)).setCell ⟨w.heap.size, 4, none⟩ (.int .i64 0)).setCell ⟨w.heap.size, 5, none⟩ (.slice none 0 0)) = w8 at *
      have g0 := h8.1.cell 0
      have g1 := h8.1.cell 1
      have g2 := h8.1.cell 2
      have g3 := h8.1.cell 3
      have g4 := h8.1.cell 4
      have g5 := h8.1.cell 5
      refine bodyPost_ret (v := .tuple #[.agg #[.int .i64 2, .int .i64 ep, .int .i64 n, .int .i64 0, .int .i64 0, .slice none 0 0], .bool true]) ?_ rfl ⟨rfl, HB8⟩
      simp [results, Tryz.results46, go_sem, g0, g1, g2, g3, g4, g5]
set_option maxHeartbeats 8000000 in
theorem read_dn (ep n : Int) (r : ReqT) (he : 0 ≤ ep ∧ ep ≤ 1073741824) (hn : 0 ≤ n ∧ n ≤ 1048576) (h0 : (encR r).2 = 0) (hsz : (encR r).1.size ≤ 60000) (w : World) :
    Calls Tryz.prog 46 #[.string (bytesF (dnF ep n (encR r).1))] w fun e w' => ∃ v, e = .returned (.tuple #[.agg #[.int .i64 1, .int .i64 ep, .int .i64 n, .int .i64 r.client, .int .i64 r.seq, v], .bool true]) ∧ OpsV w' v r.ops ∧ Below w.heap.size w w' := by
  have HDEC := Lib.hid (fun W => decode_calls r W h0)
  obtain ⟨sb, HSB⟩ : ∃ s, Hid ((encR r).1 = s) := ⟨_, Lib.hid rfl⟩
  rw [HSB.out] at HDEC hsz ⊢
  have hs := dn_sends (E := ep) (n := n) ⟨by omega, by omega⟩ ⟨by omega, by omega⟩ hsz
  have HA := Lib.hid ((Below.refl w.heap.size w).alloc (Nat.le_refl _) (.cells #[.int .i64 0, .int .i64 0, .int .i64 0, .int .i64 0, .int .i64 0, .slice none 0 0] 106))
  have HZ := Lib.hid (Blk.new w 106 #[.int .i64 0, .int .i64 0, .int .i64 0, .int .i64 0, .int .i64 0, .slice none 0 0])
  have hdc := fun W => code_dec (bytesF (dnF ep n sb)) (dnF ep n sb) W rfl hs.1 hs.2.1 hs.2.2
  have HL4 := Lib.hid (show ((dnF ep n sb)).length = 4 from rfl)
  generalize bytesF (dnF ep n sb) = bs at *
  have hu := Tryz.underlying32
  clear hs
  go_enter Tryz.func46, Tryz.ntmps46
  go_wp2_with (fail)
  generalize (w.alloc (.cells #[.int .i64 0, .int .i64 0, .int .i64 0, .int .i64 0, .int .i64 0, .slice none 0 0] 106)) = wa at *
  refine (hdc _).mono ?_
  rintro e w1 ⟨v, rfl, hr1, hb1, hf1⟩
  obtain ⟨gb, c, rfl, hgl, hcl⟩ := hr1.form (by rw [HL4.out]; decide)
  rw [HL4.out] at hr1 hcl ⊢
  have B1 := Lib.hid (HA.out.trans (hb1.mono HA.out.size))
  have HR1 := Lib.hid hr1
  have HZ1 := Lib.hid (HZ.out.kept (Kept.of_below hb1 fun _ => False) (fun h => h))
  have HG := Lib.hid (Nat.lt_of_lt_of_le HZ.out.lt (hf1 gb rfl))
  have B2 := Lib.hid ((Below.refl w1.heap.size w1).alloc (Nat.le_refl _) (.cells #[.int .i64 0, .int .i64 0] 32))
  have HX2 := Lib.hid (Blk.new w1 32 #[.int .i64 0, .int .i64 0])
  have x0 := HX2.out.cell 0
  have x1 := HX2.out.cell 1
  clear hdc hr1 hb1 hf1 HZ
  go_wp2_with (fail)
  generalize (w1.alloc (.cells #[.int .i64 0, .int .i64 0] 32)) = w2 at *
  have HR2 := Lib.hid (HR1.out.kept (Kept.of_below B2.out fun _ => False) (fun _ _ h => h))
  have HZ2 := Lib.hid (HZ1.out.kept (Kept.of_below B2.out fun _ => False) (fun h => h))
  have B2' := Lib.hid (B1.out.trans (B2.out.mono B1.out.size))
  have b0 := HR2.out.cell (fun _ => rfl) 0 0 (by rw [HL4.out]; decide) (by decide)
  have b1 := HR2.out.cell (fun _ => rfl) 0 1 (by rw [HL4.out]; decide) (by decide)
  have b2 := HR2.out.cell (fun _ => rfl) 0 2 (by rw [HL4.out]; decide) (by decide)
  have b3 := HR2.out.cell (fun _ => rfl) 1 0 (by rw [HL4.out]; decide) (by decide)
  have b4 := HR2.out.cell (fun _ => rfl) 1 1 (by rw [HL4.out]; decide) (by decide)
  have b5 := HR2.out.cell (fun _ => rfl) 1 2 (by rw [HL4.out]; decide) (by decide)
  have b6 := HR2.out.cell (fun _ => rfl) 2 0 (by rw [HL4.out]; decide) (by decide)
  have b7 := HR2.out.cell (fun _ => rfl) 2 1 (by rw [HL4.out]; decide) (by decide)
  have b8 := HR2.out.cell (fun _ => rfl) 2 2 (by rw [HL4.out]; decide) (by decide)
  have b9 := HR2.out.cell (fun _ => rfl) 3 0 (by rw [HL4.out]; decide) (by decide)
  have b11 := HR2.out.cell (fun _ => rfl) 3 2 (by rw [HL4.out]; decide) (by decide)
  replace b9 : w2.cell? ⟨gb, 9, none⟩ = some (.bool true) := b9
  replace b11 : w2.cell? ⟨gb, 11, none⟩ = some (.string sb) := b11
  replace b0 : w2.cell? ⟨gb, 0, none⟩ = some (.bool false) := b0
  replace b1 : w2.cell? ⟨gb, 1, none⟩ = some (.int .i64 1) := b1
  replace b2 : w2.cell? ⟨gb, 2, none⟩ = some (.string ⟨#[]⟩) := b2
  replace b3 : w2.cell? ⟨gb, 3, none⟩ = some (.bool false) := b3
  replace b4 : w2.cell? ⟨gb, 4, none⟩ = some (.int .i64 ep) := b4
  replace b5 : w2.cell? ⟨gb, 5, none⟩ = some (.string ⟨#[]⟩) := b5
  replace b6 : w2.cell? ⟨gb, 6, none⟩ = some (.bool false) := b6
  replace b7 : w2.cell? ⟨gb, 7, none⟩ = some (.int .i64 n) := b7
  replace b8 : w2.cell? ⟨gb, 8, none⟩ = some (.string ⟨#[]⟩) := b8
  have q3 : (3 : Int) ≤ (c : Int) := by omega
  have e1 : decide (ep < 0) = false := decide_eq_false (by omega)
  have e2 : decide ((1073741824 : Int) < ep) = false := decide_eq_false (by omega)
  have n1 : decide (n < 0) = false := decide_eq_false (by omega)
  have n2 : decide ((1073741824 : Int) < n) = false := decide_eq_false (by omega)
  have n3 : decide ((1048576 : Int) < n) = false := decide_eq_false (by omega)
  clear HX2 HR1 HZ1 x0 x1
  have hgl2 : gb < w2.heap.size := Nat.lt_of_lt_of_le hgl B2.out.size
  go_wp2_with (fail)
  go_loopg [7, 26] 3 (fun gg _ s26 wr => ∃ (i : Nat), i ≤ 3 ∧ 3 - i ≤ gg ∧ s26 = .int .i64 i ∧ Hid (Below w2.heap.size w2 wr))
  case atStart => exact ⟨0, by omega, by omega, by go_num, Lib.hid (Below.refl _ _)⟩
  case round =>
    obtain ⟨i, hi, hgg, rfl, HB⟩ := hrel
    replace b0 := (HB.out.cell (p := ⟨gb, 0, none⟩) hgl2).trans b0
    replace b1 := (HB.out.cell (p := ⟨gb, 1, none⟩) hgl2).trans b1
    replace b2 := (HB.out.cell (p := ⟨gb, 2, none⟩) hgl2).trans b2
    replace b3 := (HB.out.cell (p := ⟨gb, 3, none⟩) hgl2).trans b3
    replace b4 := (HB.out.cell (p := ⟨gb, 4, none⟩) hgl2).trans b4
    replace b5 := (HB.out.cell (p := ⟨gb, 5, none⟩) hgl2).trans b5
    replace b6 := (HB.out.cell (p := ⟨gb, 6, none⟩) hgl2).trans b6
    replace b7 := (HB.out.cell (p := ⟨gb, 7, none⟩) hgl2).trans b7
    replace b8 := (HB.out.cell (p := ⟨gb, 8, none⟩) hgl2).trans b8
    replace b9 := (HB.out.cell (p := ⟨gb, 9, none⟩) hgl2).trans b9
    replace b11 := (HB.out.cell (p := ⟨gb, 11, none⟩) hgl2).trans b11
    rcases (show i = 0 ∨ i = 1 ∨ i = 2 ∨ i = 3 by omega) with rfl | rfl | rfl | rfl
    · go_wp2
      go_roundg 2
      case measure => omega
      case rel => exact ⟨1, by omega, by omega, by go_num, Lib.hid (HB.out.alloc HB.out.size _)⟩
    · go_wp2
      go_roundg 1
      case measure => omega
      case rel => exact ⟨2, by omega, by omega, by go_num, Lib.hid (HB.out.alloc HB.out.size _)⟩
    · go_wp2
      go_roundg 0
      case measure => omega
      case rel => exact ⟨3, by omega, by omega, by go_num, Lib.hid (HB.out.alloc HB.out.size _)⟩
    · have HZr := Lib.hid (HZ2.out.kept (Kept.of_below HB.out fun _ => False) (fun h => h))
      have B3 := Lib.hid (B2'.out.trans (HB.out.mono B2'.out.size))
      have z0 := HZr.out.cell 0
      have z1 := HZr.out.cell 1
      have z2 := HZr.out.cell 2
      have z3 := HZr.out.cell 3
      have z4 := HZr.out.cell 4
      have z5 := HZr.out.cell 5
      have f0 := HZr.out.frozen 0
      have f1 := HZr.out.frozen 1
      have f2 := HZr.out.frozen 2
      have f3 := HZr.out.frozen 3
      have f4 := HZr.out.frozen 4
      have f5 := HZr.out.frozen 5
      have hzl := HZr.out.lt
      go_wp2_with (fail)
      refine start_ (n := 14) (S := fun w' => w'.cell? ⟨gb, 1, none⟩ = some (.int .i64 1) ∧ w'.cell? ⟨gb, 4, none⟩ = some (.int .i64 ep) ∧ w'.cell? ⟨gb, 7, none⟩ = some (.int .i64 n)) (ds := [13]) #[false, false, false, false, false, false, false, false, false, false, false, false, false, false] (by kernel_rfl) rfl rfl ⟨b1, b4, b7⟩ (fun hHeld => ?_)
      refine pure_ (i := 0) (N := some 44) (v := ?_) (a' := ?_) #[true, false, false, false, false, false, false, false, false, false, false, false, false, false] rfl rfl (by kernel_rfl) (fun _ _ _ h => h) (Or.inl ⟨by rfl, ?_⟩) ?_ ?_
      rotate_left
      · intro w'
        go_simp
        with_reducible rfl
      rotate_left
      · simp only [Act.put, List.setIfInBounds_toArray, List.set_cons_zero, List.set_cons_succ, i64_w, i32_w]
        rfl
      refine pure_ (i := 1) (N := some 45) (v := ?_) (a' := ?_) #[true, true, false, false, false, false, false, false, false, false, false, false, false, false] rfl rfl (by kernel_rfl) (fun _ _ _ h => h) (Or.inl ⟨by rfl, ?_⟩) ?_ ?_
      rotate_left
      · intro w'
        go_simp
        with_reducible rfl
      rotate_left
      · simp only [Act.put, List.setIfInBounds_toArray, List.set_cons_zero, List.set_cons_succ, i64_w, i32_w]
        rfl
      refine pure_ (i := 2) (N := some 46) (v := ?_) (a' := ?_) #[true, true, true, false, false, false, false, false, false, false, false, false, false, false] rfl rfl (by kernel_rfl) (fun _ _ _ h => h) (Or.inl ⟨by rfl, ?_⟩) ?_ ?_
      rotate_left
      · intro w'
        go_simp
        with_reducible rfl
      rotate_left
      · simp only [Act.put, List.setIfInBounds_toArray, List.set_cons_zero, List.set_cons_succ, i64_w, i32_w]
        rfl
      refine pure_ (i := 4) (N := some 48) (v := ?_) (a' := ?_) #[true, true, true, false, true, false, false, false, false, false, false, false, false, false] rfl rfl (by kernel_rfl) (fun _ _ _ h => h) (Or.inl ⟨by rfl, ?_⟩) ?_ ?_
      rotate_left
      · intro w'
        go_simp
        with_reducible rfl
      rotate_left
      · simp only [Act.put, List.setIfInBounds_toArray, List.set_cons_zero, List.set_cons_succ, i64_w, i32_w]
        rfl
      refine pure_ (i := 5) (N := some 49) (v := ?_) (a' := ?_) #[true, true, true, false, true, true, false, false, false, false, false, false, false, false] rfl rfl (by kernel_rfl) (fun _ _ _ h => h) (Or.inl ⟨by rfl, ?_⟩) ?_ ?_
      rotate_left
      · intro w'
        go_simp
        with_reducible rfl
      rotate_left
      · simp only [Act.put, List.setIfInBounds_toArray, List.set_cons_zero, List.set_cons_succ, i64_w, i32_w]
        rfl
      refine pure_ (i := 6) (N := some 50) (v := ?_) (a' := ?_) #[true, true, true, false, true, true, true, false, false, false, false, false, false, false] rfl rfl (by kernel_rfl) (fun _ _ _ h => h) (Or.inl ⟨by rfl, ?_⟩) ?_ ?_
      rotate_left
      · intro w'
        go_simp
        with_reducible rfl
      rotate_left
      · simp only [Act.put, List.setIfInBounds_toArray, List.set_cons_zero, List.set_cons_succ, i64_w, i32_w]
        rfl
      refine pure_ (i := 8) (N := some 52) (v := ?_) (a' := ?_) #[true, true, true, false, true, true, true, false, true, false, false, false, false, false] rfl rfl (by kernel_rfl) (fun _ _ _ h => h) (Or.inl ⟨by rfl, ?_⟩) ?_ ?_
      rotate_left
      · intro w'
        go_simp
        with_reducible rfl
      rotate_left
      · simp only [Act.put, List.setIfInBounds_toArray, List.set_cons_zero, List.set_cons_succ, i64_w, i32_w]
        rfl
      refine pure_ (i := 9) (N := some 53) (v := ?_) (a' := ?_) #[true, true, true, false, true, true, true, false, true, true, false, false, false, false] rfl rfl (by kernel_rfl) (fun _ _ _ h => h) (Or.inl ⟨by rfl, ?_⟩) ?_ ?_
      rotate_left
      · intro w'
        go_simp
        with_reducible rfl
      rotate_left
      · simp only [Act.put, List.setIfInBounds_toArray, List.set_cons_zero, List.set_cons_succ, i64_w, i32_w]
        rfl
      refine pure_ (i := 10) (N := some 54) (v := ?_) (a' := ?_) #[true, true, true, false, true, true, true, false, true, true, true, false, false, false] rfl rfl (by kernel_rfl) (fun _ _ _ h => h) (Or.inl ⟨by rfl, ?_⟩) ?_ ?_
      rotate_left
      · intro w'
        go_simp
        with_reducible rfl
      rotate_left
      · simp only [Act.put, List.setIfInBounds_toArray, List.set_cons_zero, List.set_cons_succ, i64_w, i32_w]
        rfl
      refine take_ (i := 3) (N := some 47) (v := ?_) (a' := ?_) #[true, true, true, true, true, true, true, false, true, true, true, false, false, false] rfl rfl (by kernel_rfl) (fun _ _ _ h => h) (Or.inl ⟨by rfl, ?_⟩) hHeld ?_ ?_
      rotate_left
      · rintro w' ⟨s0, s1, s2⟩
        go_simp
        with_reducible rfl
      rotate_left
      · simp only [Act.put, List.setIfInBounds_toArray, List.set_cons_zero, List.set_cons_succ, i64_w, i32_w]
        rfl
      refine take_ (i := 7) (N := some 51) (v := ?_) (a' := ?_) #[true, true, true, true, true, true, true, true, true, true, true, false, false, false] rfl rfl (by kernel_rfl) (fun _ _ _ h => h) (Or.inl ⟨by rfl, ?_⟩) hHeld ?_ ?_
      rotate_left
      · rintro w' ⟨s0, s1, s2⟩
        go_simp
        with_reducible rfl
      rotate_left
      · simp only [Act.put, List.setIfInBounds_toArray, List.set_cons_zero, List.set_cons_succ, i64_w, i32_w]
        rfl
      refine take_ (i := 11) (N := some 55) (v := ?_) (a' := ?_) #[true, true, true, true, true, true, true, true, true, true, true, true, false, false] rfl rfl (by kernel_rfl) (fun _ _ _ h => h) (Or.inl ⟨by rfl, ?_⟩) hHeld ?_ ?_
      rotate_left
      · rintro w' ⟨s0, s1, s2⟩
        go_simp
        with_reducible rfl
      rotate_left
      · simp only [Act.put, List.setIfInBounds_toArray, List.set_cons_zero, List.set_cons_succ, i64_w, i32_w]
        rfl
      refine pure_ (i := 12) (N := some 56) (v := ?_) (a' := ?_) #[true, true, true, true, true, true, true, true, true, true, true, true, true, false] rfl rfl (by kernel_rfl) (fun _ _ _ h => h) (Or.inl ⟨by rfl, ?_⟩) ?_ ?_
      rotate_left
      · intro w'
        go_simp
        with_reducible rfl
      rotate_left
      · simp only [Act.put, List.setIfInBounds_toArray, List.set_cons_zero, List.set_cons_succ, i64_w, i32_w]
        rfl
      refine last_ (i := 13) (N := none) #[true, true, true, true, true, true, true, true, true, true, true, true, true, true] rfl rfl (by kernel_rfl) (by decide) (fun K hK => ?_)
      refine skip_ (w1 := ?_) (by rfl) rfl ?_ ?_
      rotate_left
      · go_simp
        rfl
      refine hK.out _ _ ?_
      clear hK K
      refine done_ (by kernel_rfl) ?_
      have h6 := set6 HZr.out (.int .i64 1) (.int .i64 ep) (.int .i64 n) (.int .i64 0) (.int .i64 0) (.slice none 0 0)
      have HB6 := Lib.hid (B3.out.trans (h6.2.below B3.out.size (fun k hk e => by omega)))
      generalize ((((((wr.setCell ⟨w.heap.size, 0, none⟩ (.int .i64 1)).setCell ⟨w.heap.size, 1, none⟩ (.int .i64 ep)).setCell ⟨w.heap.size, 2, none⟩ (.int .i64 n)).setCell ⟨w.heap.size, 3, none⟩ (.int .i64 0)).setCell ⟨w.heap.size, 4, none⟩ (.int .i64 0)).setCell ⟨w.heap.size, 5, none⟩ (.slice none 0 0)) = w6 at *
      have HZ6 := Lib.hid h6.1.drew
      have HB7 := Lib.hid HB6.out.drew
      have HK6 := Lib.hid h6.2.drew
      clear z0 z1 z2 z3 z4 z5 f0 f1 f2 f3 f4 f5 hzl h6
      generalize w6.drew = w7 at *
      have z0 := HZ6.out.cell 0
      have z1 := HZ6.out.cell 1
      have z2 := HZ6.out.cell 2
      have z3 := HZ6.out.cell 3
      have z4 := HZ6.out.cell 4
      have z5 := HZ6.out.cell 5
      have f0 := HZ6.out.frozen 0
      have f1 := HZ6.out.frozen 1
      have f2 := HZ6.out.frozen 2
      have f3 := HZ6.out.frozen 3
      have f4 := HZ6.out.frozen 4
      have f5 := HZ6.out.frozen 5
      have hzl := HZ6.out.lt
      have hgr : gb < wr.heap.size := World.block_lt_of_cell? wr _ b9
      have hgne : ¬ gb = w.heap.size := by have := HG.out; omega
      have d9 := (HK6.out.cell (p := ⟨gb, 9, none⟩) hgr hgne).trans b9
      have d11 := (HK6.out.cell (p := ⟨gb, 11, none⟩) hgr hgne).trans b11
      have qs : decide ((sb.size : Int) ≤ 60000) = true := decide_eq_true (by omega)
      clear b0 b1 b2 b3 b4 b5 b6 b7 b8 b9 b11
      have hdc := HDEC.out w7
      go_wp2_with (fail)
      refine hdc.mono ?_
      rintro e w8 ⟨v8, rfl, hr8, hb8, hf8⟩
      obtain ⟨A8, n8, c8, rfl⟩ := hr8.some_slice
      have HB8 := Lib.hid (HB7.out.trans (hb8.mono HB7.out.size))
      have HZ8 := Lib.hid (HZ6.out.kept (Kept.of_below hb8 fun _ => False) (fun h => h))
      have HR8 := Lib.hid hr8
      clear hdc hb8 hr8 hf8 z0 z1 z2 z3 z4 z5 f0 f1 f2 f3 f4 f5 hzl d9 d11
      have z0 := HZ8.out.cell 0
      have z1 := HZ8.out.cell 1
      have z2 := HZ8.out.cell 2
      have z3 := HZ8.out.cell 3
      have z4 := HZ8.out.cell 4
      have z5 := HZ8.out.cell 5
      have f0 := HZ8.out.frozen 0
      have f1 := HZ8.out.frozen 1
      have f2 := HZ8.out.frozen 2
      have f3 := HZ8.out.frozen 3
      have f4 := HZ8.out.frozen 4
      have f5 := HZ8.out.frozen 5
      have hzl := HZ8.out.lt
      unfold ReqT.v
      go_wp2
      have hA := (((HZ8.out.set_ 3 (.int .i64 r.client)).set_ 4 (.int .i64 r.seq)).set_ 5 (.slice A8 n8 c8))
      have hkA := ((((Kept.refl w8 fun k => k = w.heap.size).setCell (p := ⟨w.heap.size, 3, none⟩) (.inl rfl) (.int .i64 r.client)).setCell (p := ⟨w.heap.size, 4, none⟩) (.inl rfl) (.int .i64 r.seq)).setCell (p := ⟨w.heap.size, 5, none⟩) (.inl rfl) (.slice A8 n8 c8))
      generalize ((w8.setCell ⟨w.heap.size, 3, none⟩ (.int .i64 r.client)).setCell ⟨w.heap.size, 4, none⟩ (.int .i64 r.seq)).setCell ⟨w.heap.size, 5, none⟩ (.slice A8 n8 c8) = w9 at *
      have hA' : Blk w9 w.heap.size 106 #[.int .i64 1, .int .i64 ep, .int .i64 n, .int .i64 r.client, .int .i64 r.seq, .slice A8 n8 c8] := by simpa using hA
      have h8 := set6 hA' (.int .i64 1) (.int .i64 ep) (.int .i64 n) (.int .i64 r.client) (.int .i64 r.seq) (.slice A8 n8 c8)
      have hkB := hkA.trans h8.2
      have hnr : NoT w8 (fun k => k = w.heap.size) 85 := NoT.one HZ8.out (by decide)
      have HB9 := HB8.out.trans (hkB.below HB8.out.size (fun k hk e => by omega))
      have hr9 := HR8.out.keptT hkB hnr
      generalize ((((((w9.setCell ⟨w.heap.size, 0, none⟩ (.int .i64 1)).setCell ⟨w.heap.size, 1, none⟩ (.int .i64 ep)).setCell ⟨w.heap.size, 2, none⟩ (.int .i64 n)).setCell ⟨w.heap.size, 3, none⟩ (.int .i64 r.client)).setCell ⟨w.heap.size, 4, none⟩ (.int .i64 r.seq)).setCell ⟨w.heap.size, 5, none⟩ (.slice A8 n8 c8)) = w10 at *
      have g0 := h8.1.cell 0
      have g1 := h8.1.cell 1
      have g2 := h8.1.cell 2
      have g3 := h8.1.cell 3
      have g4 := h8.1.cell 4
      have g5 := h8.1.cell 5
      refine bodyPost_ret (v := .tuple #[.agg #[.int .i64 1, .int .i64 ep, .int .i64 n, .int .i64 r.client, .int .i64 r.seq, .slice A8 n8 c8], .bool true]) ?_ rfl ⟨.slice A8 n8 c8, rfl, ⟨SegG.of_row hr9, fun k e => hr9.typed e⟩, HB9⟩
      simp [results, Tryz.results46, go_sem, g0, g1, g2, g3, g4, g5]
end Go.Proofs.YtdfdlajfjcakaaaGreat
