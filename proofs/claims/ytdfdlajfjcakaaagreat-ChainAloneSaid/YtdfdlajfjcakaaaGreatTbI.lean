import Derived.Test.YtdfdlajfjcakaaaGreatTbH
namespace Go.Proofs.YtdfdlajfjcakaaaGreat
open Go Go.RowKit
open Go.Proofs.YtdfdlajfjcakaaaGreatW.PrintLast
set_option linter.unusedVariables false
set_option linter.unusedSimpArgs false
set_option maxRecDepth 100000

/-! one. -/
set_option maxHeartbeats 8000000 in
theorem tab_one (g : Nat) (l : List RowT) (x : OpT) (w : World) (h : TabAt w g l) (hr : RowsOk l) (hx : OpOk x) :
    Calls Tryz.prog 45 #[.pointer (some ⟨g, 0, none⟩), x.v] w fun e w' => ∃ rv, e = .returned (.agg #[.int .i64 (oneT l x).1.code, .int .i64 (oneT l x).1.stamp, .string (oneT l x).1.val, rv]) ∧ RowsV w' rv (oneT l x).1.rows ∧ TabAt w' g (oneT l x).2 ∧ Kept w w' (fun k => k = g) := by
  obtain ⟨kd, key, val, st, te, mo⟩ := x
  have HA := Lib.hid (((Below.refl w.heap.size w).alloc (Nat.le_refl _) (.cells #[.int .i64 kd, .string key, .string val, .int .i64 st, .int .i64 te, .int .i64 mo] 85)).alloc (by simp) (.cells #[.int .i64 0, .int .i64 0, .string ⟨#[]⟩, .slice none 0 0] 87))
  have HX := Lib.hid ((Blk.new w 85 #[.int .i64 kd, .string key, .string val, .int .i64 st, .int .i64 te, .int .i64 mo]).alloc (.cells #[.int .i64 0, .int .i64 0, .string ⟨#[]⟩, .slice none 0 0] 87))
  have HZ := Lib.hid (show Blk _ (w.heap.size + 1) 87 _ from by have := Blk.new (w.alloc (.cells #[.int .i64 kd, .string key, .string val, .int .i64 st, .int .i64 te, .int .i64 mo] 85)) 87 #[.int .i64 0, .int .i64 0, .string ⟨#[]⟩, .slice none 0 0]; rw [World.size_alloc] at this; exact this)
  have HT := Lib.hid (h.below HA.out)
  have HR := Lib.hid hr
  have hg := h.lt
  have HOK := Lib.hid hx
  clear hx
  have hat := tab_at g l key _ HT.out (by have := hr.few; omega) hr.rise
  have hl : l.length ≤ 4096 := hr.few
  have x1 := HX.out.cell 1
  clear h hr
  unfold OpT.v
  dsimp only
  go_enter Tryz.func45, Tryz.ntmps45
  go_wp2_with (fail)
  generalize ((w.alloc (.cells #[.int .i64 kd, .string key, .string val, .int .i64 st, .int .i64 te, .int .i64 mo] 85)).alloc (.cells #[.int .i64 0, .int .i64 0, .string ⟨#[]⟩, .slice none 0 0] 87)) = wa at *
  refine hat.mono ?_
  rintro e w2 ⟨rfl, hb2⟩
  have HX2 := Lib.hid (HX.out.kept (Kept.of_below hb2 fun _ => False) (fun h => h))
  have HZ2 := Lib.hid (show Blk w2 (w.heap.size + 1) 87 #[.int .i64 0, .int .i64 0, .string ⟨#[]⟩, .slice none 0 0] from Blk.kept HZ.out (Kept.of_below hb2 fun _ => False) (fun h => h))
  have HT2 := Lib.hid (HT.out.below hb2)
  have HB2 := Lib.hid (HA.out.trans (hb2.mono HA.out.size))
  clear x1
  have x0 := HX2.out.cell 0
  have x1 := HX2.out.cell 1
  have x2 := HX2.out.cell 2
  have x3 := HX2.out.cell 3
  have x4 := HX2.out.cell 4
  have hzl := HZ2.out.lt
  obtain ⟨tv, htb, hts, htt⟩ := HT2.out
  have c0 := htb.cell 0
  obtain ⟨tA, tc, rfl, htc, _⟩ := hts.shape
  have HS := Lib.hid hts
  have hpl := posK_le l key
  obtain ⟨p, HP⟩ : ∃ p, Hid (posK l key = p) := ⟨_, Lib.hid rfl⟩
  rw [HP.out] at hpl
  have HTT := Lib.hid htt
  have x5 := HX2.out.cell 5
  clear hat hb2 HX HZ HT HA htb hts htt
  rw [HP.out]
  by_cases h6 : kd = 6
  · have hmo := HOK.out.2.2.2.2.2.1 h6
    dsimp only at hmo
    obtain ⟨n, hn⟩ : ∃ n, l.length = n := ⟨_, rfl⟩
    rw [hn] at hpl hl c0 htc HS
    obtain ⟨m, hm⟩ : ∃ m : Nat, (m : Int) = min mo ((n : Int) - (p : Int)) := ⟨(min mo ((n : Int) - (p : Int))).toNat, by omega⟩
    have hm1 : m ≤ n - p := by omega
    have HE := Lib.hid (show oneT l ⟨kd, key, val, st, te, mo⟩ = (⟨0, 0, ⟨#[]⟩, (l.drop p).take m⟩, l) by
      unfold oneT
      rw [if_pos h6, HP.out]
      have e : (l.drop p).take mo.toNat = (l.drop p).take m := by
        rcases Nat.lt_or_ge (n - p) mo.toNat with h | h
        · rw [List.take_of_length_le (by rw [List.length_drop, hn]; omega), List.take_of_length_le (by rw [List.length_drop, hn]; omega)]
        · rw [show m = mo.toNat by omega]
      show (_, l) = _
      rw [e])
    have HSEG := Lib.hid (show SegG w2.drew RowT.cells (.slice (cutA tA tc p 3) m (tc - p)) ((l.drop p).take m) from by
      have h1 := (HS.out.suffix (sz := 3) p (by omega) (fun _ => rfl) (by decide)).prefix_ m (tc - p) (by rw [List.length_drop, hn]; exact hm1) (by omega) (by have := HS.out.shape; obtain ⟨_, _, hv, _, hm9⟩ := this; injection hv with _ _ hc9; omega)
      exact h1)
    have hle := Lib.hid (show ((l.drop p).take m).length * 40 ≤ 140737488355328 by rw [List.length_take, List.length_drop]; omega)
    have q6 : (kd == 6) = true := by simpa using h6
    have g0 : (0 : Int) ≤ (p : Int) := by omega
    have g1 : (p : Int) ≤ (p : Int) + (m : Int) := by omega
    have g2 : (0 : Int) ≤ (p : Int) + (m : Int) := by omega
    have g3 : (p : Int) + (m : Int) ≤ (tc : Int) := by omega
    have w1 : IntKind.i64.wrap ((n : Int) - (p : Int)) = (n : Int) - (p : Int) := by rw [IntKind.wrap_i64]; omega
    have w3 : IntKind.i64.wrap ((p : Int) + (m : Int)) = (p : Int) + (m : Int) := by rw [IntKind.wrap_i64]; omega
    have e1 : min mo ((n : Int) - (p : Int)) = (m : Int) := hm.symm
    have e2 : ((p : Int) + (m : Int)).toNat - p = m := by omega
    have hA1 : (if tc = p then tA else Option.map (fun x => x.add (p * 3)) tA) = cutA tA tc p 3 := rfl
    have hb9 : ∀ {W3 : World} (p' : Addr) {u : Value}, Below w2.heap.size w2.drew W3 → w2.cell? p' = some u → p'.block < w2.heap.size → W3.cell? p' = some u := fun {W3} p' {u} hb h hl => (hb.cell hl).trans h
    have hgl2 := HT2.out.lt
    clear hmo hn hm h6 HOK HX2 x1 x2 x3 x4
    go_wp2_with (fail)
    refine start_ (n := 21) (S := fun w' => w'.cell? ⟨g, 0, none⟩ = some (.slice tA n tc) ∧ w'.cell? ⟨w.heap.size, 5, none⟩ = some (.int .i64 mo)) (ds := [20]) #[false, false, false, false, false, false, false, false, false, false, false, false, false, false, false, false, false, false, false, false, false] (by kernel_rfl) rfl rfl ⟨c0, x5⟩ (fun hHeld => ?_)
    refine pure_ (i := 0) (N := some 22) (v := ?_) (a' := ?_) #[true, false, false, false, false, false, false, false, false, false, false, false, false, false, false, false, false, false, false, false, false] rfl rfl (by kernel_rfl) (fun _ _ _ h => h) (Or.inl ⟨by rfl, ?_⟩) ?_ ?_
    rotate_left
    · intro w'
      go_simp
      with_reducible rfl
    rotate_left
    · simp only [Act.put, List.setIfInBounds_toArray, List.set_cons_zero, List.set_cons_succ, i64_w, i32_w]
      rfl
    refine pure_ (i := 1) (N := some 23) (v := ?_) (a' := ?_) #[true, true, false, false, false, false, false, false, false, false, false, false, false, false, false, false, false, false, false, false, false] rfl rfl (by kernel_rfl) (fun _ _ _ h => h) (Or.inl ⟨by rfl, ?_⟩) ?_ ?_
    rotate_left
    · intro w'
      go_simp
      with_reducible rfl
    rotate_left
    · simp only [Act.put, List.setIfInBounds_toArray, List.set_cons_zero, List.set_cons_succ, i64_w, i32_w]
      rfl
    refine pure_ (i := 2) (N := some 24) (v := ?_) (a' := ?_) #[true, true, true, false, false, false, false, false, false, false, false, false, false, false, false, false, false, false, false, false, false] rfl rfl (by kernel_rfl) (fun _ _ _ h => h) (Or.inl ⟨by rfl, ?_⟩) ?_ ?_
    rotate_left
    · intro w'
      go_simp
      with_reducible rfl
    rotate_left
    · simp only [Act.put, List.setIfInBounds_toArray, List.set_cons_zero, List.set_cons_succ, i64_w, i32_w]
      rfl
    refine pure_ (i := 4) (N := some 26) (v := ?_) (a' := ?_) #[true, true, true, false, true, false, false, false, false, false, false, false, false, false, false, false, false, false, false, false, false] rfl rfl (by kernel_rfl) (fun _ _ _ h => h) (Or.inl ⟨by rfl, ?_⟩) ?_ ?_
    rotate_left
    · intro w'
      go_simp
      with_reducible rfl
    rotate_left
    · simp only [Act.put, List.setIfInBounds_toArray, List.set_cons_zero, List.set_cons_succ, i64_w, i32_w]
      rfl
    refine pure_ (i := 5) (N := some 27) (v := ?_) (a' := ?_) #[true, true, true, false, true, true, false, false, false, false, false, false, false, false, false, false, false, false, false, false, false] rfl rfl (by kernel_rfl) (fun _ _ _ h => h) (Or.inl ⟨by rfl, ?_⟩) ?_ ?_
    rotate_left
    · intro w'
      go_simp
      with_reducible rfl
    rotate_left
    · simp only [Act.put, List.setIfInBounds_toArray, List.set_cons_zero, List.set_cons_succ, i64_w, i32_w]
      rfl
    refine pure_ (i := 6) (N := some 28) (v := ?_) (a' := ?_) #[true, true, true, false, true, true, true, false, false, false, false, false, false, false, false, false, false, false, false, false, false] rfl rfl (by kernel_rfl) (fun _ _ _ h => h) (Or.inl ⟨by rfl, ?_⟩) ?_ ?_
    rotate_left
    · intro w'
      go_simp
      with_reducible rfl
    rotate_left
    · simp only [Act.put, List.setIfInBounds_toArray, List.set_cons_zero, List.set_cons_succ, i64_w, i32_w]
      rfl
    refine pure_ (i := 8) (N := some 30) (v := ?_) (a' := ?_) #[true, true, true, false, true, true, true, false, true, false, false, false, false, false, false, false, false, false, false, false, false] rfl rfl (by kernel_rfl) (fun _ _ _ h => h) (Or.inl ⟨by rfl, ?_⟩) ?_ ?_
    rotate_left
    · intro w'
      go_simp
      with_reducible rfl
    rotate_left
    · simp only [Act.put, List.setIfInBounds_toArray, List.set_cons_zero, List.set_cons_succ, i64_w, i32_w]
      rfl
    refine pure_ (i := 9) (N := some 31) (v := ?_) (a' := ?_) #[true, true, true, false, true, true, true, false, true, true, false, false, false, false, false, false, false, false, false, false, false] rfl rfl (by kernel_rfl) (fun _ _ _ h => h) (Or.inl ⟨by rfl, ?_⟩) ?_ ?_
    rotate_left
    · intro w'
      go_simp
      with_reducible rfl
    rotate_left
    · simp only [Act.put, List.setIfInBounds_toArray, List.set_cons_zero, List.set_cons_succ, i64_w, i32_w]
      rfl
    refine pure_ (i := 10) (N := some 32) (v := ?_) (a' := ?_) #[true, true, true, false, true, true, true, false, true, true, true, false, false, false, false, false, false, false, false, false, false] rfl rfl (by kernel_rfl) (fun _ _ _ h => h) (Or.inl ⟨by rfl, ?_⟩) ?_ ?_
    rotate_left
    · intro w'
      go_simp
      with_reducible rfl
    rotate_left
    · simp only [Act.put, List.setIfInBounds_toArray, List.set_cons_zero, List.set_cons_succ, i64_w, i32_w]
      rfl
    refine pure_ (i := 13) (N := some 35) (v := ?_) (a' := ?_) #[true, true, true, false, true, true, true, false, true, true, true, false, false, true, false, false, false, false, false, false, false] rfl rfl (by kernel_rfl) (fun _ _ _ h => h) (Or.inl ⟨by rfl, ?_⟩) ?_ ?_
    rotate_left
    · intro w'
      go_simp
      with_reducible rfl
    rotate_left
    · simp only [Act.put, List.setIfInBounds_toArray, List.set_cons_zero, List.set_cons_succ, i64_w, i32_w]
      rfl
    refine take_ (i := 3) (N := some 25) (v := ?_) (a' := ?_) #[true, true, true, true, true, true, true, false, true, true, true, false, false, true, false, false, false, false, false, false, false] rfl rfl (by kernel_rfl) (fun _ _ _ h => h) (Or.inl ⟨by rfl, ?_⟩) hHeld ?_ ?_
    rotate_left
    · rintro w' ⟨s0, s1⟩
      go_simp
      with_reducible rfl
    rotate_left
    · simp only [Act.put, List.setIfInBounds_toArray, List.set_cons_zero, List.set_cons_succ, i64_w, i32_w]
      rfl
    refine take_ (i := 7) (N := some 29) (v := ?_) (a' := ?_) #[true, true, true, true, true, true, true, true, true, true, true, false, false, true, false, false, false, false, false, false, false] rfl rfl (by kernel_rfl) (fun _ _ _ h => h) (Or.inl ⟨by rfl, ?_⟩) hHeld ?_ ?_
    rotate_left
    · rintro w' ⟨s0, s1⟩
      go_simp
      with_reducible rfl
    rotate_left
    · simp only [Act.put, List.setIfInBounds_toArray, List.set_cons_zero, List.set_cons_succ, i64_w, i32_w]
      rfl
    refine take_ (i := 11) (N := some 33) (v := ?_) (a' := ?_) #[true, true, true, true, true, true, true, true, true, true, true, true, false, true, false, false, false, false, false, false, false] rfl rfl (by kernel_rfl) (fun _ _ _ h => h) (Or.inl ⟨by rfl, ?_⟩) hHeld ?_ ?_
    rotate_left
    · rintro w' ⟨s0, s1⟩
      go_simp
      with_reducible rfl
    rotate_left
    · simp only [Act.put, List.setIfInBounds_toArray, List.set_cons_zero, List.set_cons_succ, i64_w, i32_w]
      rfl
    refine pure_ (i := 12) (N := some 34) (v := ?_) (a' := ?_) #[true, true, true, true, true, true, true, true, true, true, true, true, true, true, false, false, false, false, false, false, false] rfl rfl (by kernel_rfl) (fun _ _ _ h => h) (Or.inl ⟨by rfl, ?_⟩) ?_ ?_
    rotate_left
    · intro w'
      go_simp
      with_reducible rfl
    rotate_left
    · simp only [Act.put, List.setIfInBounds_toArray, List.set_cons_zero, List.set_cons_succ, i64_w, i32_w]
      rfl
    refine pure_ (i := 14) (N := some 36) (v := ?_) (a' := ?_) #[true, true, true, true, true, true, true, true, true, true, true, true, true, true, true, false, false, false, false, false, false] rfl rfl (by kernel_rfl) (fun _ _ _ h => h) (Or.inl ⟨by rfl, ?_⟩) ?_ ?_
    rotate_left
    · intro w'
      go_simp
      with_reducible rfl
    rotate_left
    · simp only [Act.put, List.setIfInBounds_toArray, List.set_cons_zero, List.set_cons_succ, i64_w, i32_w]
      rfl
    refine pure_ (i := 15) (N := some 37) (v := ?_) (a' := ?_) #[true, true, true, true, true, true, true, true, true, true, true, true, true, true, true, true, false, false, false, false, false] rfl rfl (by kernel_rfl) (fun _ _ _ h => h) (Or.inl ⟨by rfl, ?_⟩) ?_ ?_
    rotate_left
    · intro w'
      go_simp
      with_reducible rfl
    rotate_left
    · simp only [Act.put, List.setIfInBounds_toArray, List.set_cons_zero, List.set_cons_succ, i64_w, i32_w]
      rfl
    refine pure_ (i := 16) (N := some 38) (v := ?_) (a' := ?_) #[true, true, true, true, true, true, true, true, true, true, true, true, true, true, true, true, true, false, false, false, false] rfl rfl (by kernel_rfl) (fun _ _ _ h => h) (Or.inl ⟨by rfl, ?_⟩) ?_ ?_
    rotate_left
    · intro w'
      go_simp
      with_reducible rfl
    rotate_left
    · simp only [Act.put, List.setIfInBounds_toArray, List.set_cons_zero, List.set_cons_succ, i64_w, i32_w]
      rfl
    refine pure_ (i := 17) (N := some 39) (v := ?_) (a' := ?_) #[true, true, true, true, true, true, true, true, true, true, true, true, true, true, true, true, true, true, false, false, false] rfl rfl (by kernel_rfl) (fun _ _ _ h => h) (Or.inl ⟨by rfl, ?_⟩) ?_ ?_
    rotate_left
    · intro w'
      go_simp
      with_reducible rfl
    rotate_left
    · simp only [Act.put, List.setIfInBounds_toArray, List.set_cons_zero, List.set_cons_succ, i64_w, i32_w]
      rfl
    refine one_ (i := 18) (N := some 40) #[true, true, true, true, true, true, true, true, true, true, true, true, true, true, true, true, true, true, true, false, false] rfl rfl (by kernel_rfl) (by decide) (fun K hK => ?_)
    refine goes_ Tryz.func65 (by kernel_rfl) rfl #[(.slice (cutA tA tc p 3) m (tc - p))] (by rfl) rfl rfl (by simp only [List.map_toArray, List.map_cons, List.map_nil]; rfl) ?_
    with_reducible refine (clone_rows _ _ _ HSEG.out hle.out one_row (fun _ => rfl)).mono ?_
    rintro e w3 ⟨v3, rfl, hr3, hb3, hf3⟩
    obtain ⟨A3, n3, c3, rfl⟩ := hr3.some_slice
    have HB3 := Lib.hid hb3
    have HR3 := Lib.hid hr3
    have HZ3 := Lib.hid ((HZ2.out.drew).kept (Kept.of_below (S := fun _ => False) hb3) (fun h => h))
    have z0 := HZ3.out.cell 0
    have z1 := HZ3.out.cell 1
    have z2 := HZ3.out.cell 2
    have z3 := HZ3.out.cell 3
    have f0 := HZ3.out.frozen 0
    have f1 := HZ3.out.frozen 1
    have f2 := HZ3.out.frozen 2
    have f3 := HZ3.out.frozen 3
    have hz3 := HZ3.out.lt
    clear hb3 hr3 hf3
    refine ⟨_, rfl, ?_⟩
    refine hK.out _ _ ⟨(hb9 _ HB3.out c0 hgl2), (hb9 _ HB3.out x5 (by show w.heap.size < _; omega))⟩ (fun hHeld => ?_)
    clear hK K
    refine norm_ (a' := ?_) ?_ ?_
    rotate_left
    · show Act.put _ (some 40) _ = _
      simp only [Act.put, List.setIfInBounds_toArray, List.set_cons_zero, List.set_cons_succ, i64_w, i32_w]
      rfl
    refine pure_ (i := 19) (N := some 41) (v := ?_) (a' := ?_) #[true, true, true, true, true, true, true, true, true, true, true, true, true, true, true, true, true, true, true, true, false] rfl rfl (by kernel_rfl) (fun _ _ _ h => h) (Or.inl ⟨by rfl, ?_⟩) ?_ ?_
    rotate_left
    · intro w'
      go_simp
      with_reducible rfl
    rotate_left
    · simp only [Act.put, List.setIfInBounds_toArray, List.set_cons_zero, List.set_cons_succ, i64_w, i32_w]
      rfl
    refine last_ (i := 20) (N := none) #[true, true, true, true, true, true, true, true, true, true, true, true, true, true, true, true, true, true, true, true, true] rfl rfl (by kernel_rfl) (by decide) (fun K hK => ?_)
    refine skip_ (w1 := ?_) (by rfl) rfl ?_ ?_
    rotate_left
    · go_simp
      rfl
    refine hK.out _ _ ?_
    clear hK K
    refine done_ (by kernel_rfl) ?_
    go_wp2
    have h4 := set4 HZ3.out (.int .i64 0) (.int .i64 0) (.string ⟨#[]⟩) (.slice A3 n3 c3)
    have hf := tab_left (HT2.out.below ((Below.refl _ _).drew.trans HB3.out)) (Kept.of_below (HB2.out.trans ((Below.refl _ _).drew.trans (HB3.out.mono HB2.out.size))) _) HZ3.out (by omega) hg h4.2
    have hrv := (show RowsV w3 (.slice A3 n3 c3) ((l.drop p).take m) from ⟨SegG.of_row HR3.out, fun k e => HR3.out.typed e⟩).kept h4.2 (fun k e cs' hc => by subst e; exact hc.ne_ HZ3.out (by decide) rfl)
    generalize ((((w3.setCell ⟨w.heap.size + 1, 0, none⟩ (.int .i64 0)).setCell ⟨w.heap.size + 1, 1, none⟩ (.int .i64 0)).setCell ⟨w.heap.size + 1, 2, none⟩ (.string ⟨#[]⟩)).setCell ⟨w.heap.size + 1, 3, none⟩ (.slice A3 n3 c3)) = w4 at *
    have g0 := h4.1.cell 0
    have g1 := h4.1.cell 1
    have g2 := h4.1.cell 2
    have g3 := h4.1.cell 3
    refine bodyPost_ret (v := .agg #[.int .i64 0, .int .i64 0, .string ⟨#[]⟩, (.slice A3 n3 c3)]) ?_ rfl ⟨(.slice A3 n3 c3), by rw [HE.out]; try rfl, by rw [HE.out]; exact hrv, by rw [HE.out]; exact hf.1, hf.2⟩
    simp [results, Tryz.results45, go_sem, g0, g1, g2, g3]
  · have q6 : (kd == 6) = false := by simpa using h6
    by_cases h45 : kd = 4 ∨ kd = 5
    · have q45 : decide (kd = 4) = true ∨ decide (kd = 5) = true := by simpa using h45
      cases hq : hasK l key with
      | false =>
        have HE := Lib.hid (show oneT l ⟨kd, key, val, st, te, mo⟩ = (refT 91 0, l) by unfold oneT; rw [if_neg h6, if_pos h45, if_neg (by rw [hq]; decide)])
        rcases h45 with h | h
        · subst h
          have hrc := fun W => refused_calls 91 0 W
          go_wp2_with (fail)
          refine (hrc _).mono ?_
          rintro e w3 ⟨rfl, hb3⟩
          have HZ3 := Lib.hid (HZ2.out.kept (Kept.of_below (S := fun _ => False) hb3) (fun h => h))
          have HT3 := Lib.hid (HT2.out.below hb3)
          have HB3 := Lib.hid (HB2.out.trans (hb3.mono HB2.out.size))
          clear hrc hb3 x0 x1 x2 x3 x4 c0
          have z0 := HZ3.out.cell 0
          have z1 := HZ3.out.cell 1
          have z2 := HZ3.out.cell 2
          have z3 := HZ3.out.cell 3
          have f0 := HZ3.out.frozen 0
          have f1 := HZ3.out.frozen 1
          have f2 := HZ3.out.frozen 2
          have f3 := HZ3.out.frozen 3
          have hz3 := HZ3.out.lt
          go_wp2
          have h4 := set4 HZ3.out (.int .i64 91) (.int .i64 0) (.string ⟨#[]⟩) (.slice none 0 0)
          have hf := tab_left HT3.out (Kept.of_below HB3.out _) HZ3.out (by omega) hg h4.2
          have hrv := (RowsV.nil w3).kept h4.2 (fun k e cs' hc => by subst e; exact hc.ne_ HZ3.out (by decide) rfl)
          generalize ((((w3.setCell ⟨w.heap.size + 1, 0, none⟩ (.int .i64 91)).setCell ⟨w.heap.size + 1, 1, none⟩ (.int .i64 0)).setCell ⟨w.heap.size + 1, 2, none⟩ (.string ⟨#[]⟩)).setCell ⟨w.heap.size + 1, 3, none⟩ (.slice none 0 0)) = w4 at *
          have g0 := h4.1.cell 0
          have g1 := h4.1.cell 1
          have g2 := h4.1.cell 2
          have g3 := h4.1.cell 3
          refine bodyPost_ret (v := .agg #[.int .i64 91, .int .i64 0, .string ⟨#[]⟩, (.slice none 0 0)]) ?_ rfl ⟨(.slice none 0 0), by rw [HE.out]; try rfl, by rw [HE.out]; exact hrv, by rw [HE.out]; exact hf.1, hf.2⟩
          simp [results, Tryz.results45, go_sem, g0, g1, g2, g3]
        · subst h
          have hrc := fun W => refused_calls 91 0 W
          go_wp2_with (fail)
          refine (hrc _).mono ?_
          rintro e w3 ⟨rfl, hb3⟩
          have HZ3 := Lib.hid (HZ2.out.kept (Kept.of_below (S := fun _ => False) hb3) (fun h => h))
          have HT3 := Lib.hid (HT2.out.below hb3)
          have HB3 := Lib.hid (HB2.out.trans (hb3.mono HB2.out.size))
          clear hrc hb3 x0 x1 x2 x3 x4 c0
          have z0 := HZ3.out.cell 0
          have z1 := HZ3.out.cell 1
          have z2 := HZ3.out.cell 2
          have z3 := HZ3.out.cell 3
          have f0 := HZ3.out.frozen 0
          have f1 := HZ3.out.frozen 1
          have f2 := HZ3.out.frozen 2
          have f3 := HZ3.out.frozen 3
          have hz3 := HZ3.out.lt
          go_wp2
          have h4 := set4 HZ3.out (.int .i64 91) (.int .i64 0) (.string ⟨#[]⟩) (.slice none 0 0)
          have hf := tab_left HT3.out (Kept.of_below HB3.out _) HZ3.out (by omega) hg h4.2
          have hrv := (RowsV.nil w3).kept h4.2 (fun k e cs' hc => by subst e; exact hc.ne_ HZ3.out (by decide) rfl)
          generalize ((((w3.setCell ⟨w.heap.size + 1, 0, none⟩ (.int .i64 91)).setCell ⟨w.heap.size + 1, 1, none⟩ (.int .i64 0)).setCell ⟨w.heap.size + 1, 2, none⟩ (.string ⟨#[]⟩)).setCell ⟨w.heap.size + 1, 3, none⟩ (.slice none 0 0)) = w4 at *
          have g0 := h4.1.cell 0
          have g1 := h4.1.cell 1
          have g2 := h4.1.cell 2
          have g3 := h4.1.cell 3
          refine bodyPost_ret (v := .agg #[.int .i64 91, .int .i64 0, .string ⟨#[]⟩, (.slice none 0 0)]) ?_ rfl ⟨(.slice none 0 0), by rw [HE.out]; try rfl, by rw [HE.out]; exact hrv, by rw [HE.out]; exact hf.1, hf.2⟩
          simp [results, Tryz.results45, go_sem, g0, g1, g2, g3]
      | true =>
        have hpp := (has_pos hq).1
        rw [HP.out] at hpp
        obtain ⟨ad, hA, y0, y1, y2⟩ := rowT_at HS.out hpp
        subst hA
        obtain ⟨s, HSS⟩ : ∃ s, Hid (l[p].stamp = s) := ⟨_, Lib.hid rfl⟩
        obtain ⟨u, HUU⟩ : ∃ u, Hid (l[p].val = u) := ⟨_, Lib.hid rfl⟩
        obtain ⟨k9, HKK⟩ : ∃ u, Hid (l[p].key = u) := ⟨_, Lib.hid rfl⟩
        have HRT := Lib.hid (show rowT l (posK l key) = l[p] by unfold rowT; rw [HP.out, List.getElem?_eq_getElem hpp]; rfl)
        rw [HSS.out] at y1
        rw [HUU.out] at y2
        rw [HKK.out] at y0
        have HXR := Lib.hid (Blk.new w2 115 #[.string k9, .int .i64 s, .string u])
        have HZR := Lib.hid (HZ2.out.alloc (.cells #[.string k9, .int .i64 s, .string u] 115))
        have HXA := Lib.hid (HX2.out.alloc (.cells #[.string k9, .int .i64 s, .string u] 115))
        have HTR := Lib.hid (HT2.out.below ((Below.refl _ w2).alloc (Nat.le_refl _) (.cells #[.string k9, .int .i64 s, .string u] 115)))
        have HBR := Lib.hid (HB2.out.alloc HB2.out.size (.cells #[.string k9, .int .i64 s, .string u] 115))
        have hp0 : (0 : Int) ≤ (p : Int) := by omega
        have hpz : (p : Int) < (l.length : Int) := by omega
        have hw : IntKind.i64.wrap ((p : Int) + 1) = (p : Int) + 1 := by rw [IntKind.wrap_i64]; omega
        by_cases h92 : te ≠ 0 ∧ te ≠ s
        · have HE := Lib.hid (show oneT l ⟨kd, key, val, st, te, mo⟩ = (refT 92 s, l) by unfold oneT; rw [if_neg h6, if_pos h45, if_pos hq, HRT.out, HSS.out, if_pos h92])
          have q7 : (te != 0) = true := by simp; omega
          have q8 : (te != s) = true := by simp; omega
          clear h92
          rcases h45 with h | h
          · subst h
            have r1 := HXR.out.cell 1
            have x0' := HXA.out.cell 0
            have x4' := HXA.out.cell 4
            have hrc := fun W => refused_calls 92 s W
            go_wp2_with (fail)
            generalize (w2.alloc (.cells #[.string k9, .int .i64 s, .string u] 115)) = wb at *
            refine (hrc _).mono ?_
            rintro e w3 ⟨rfl, hb3⟩
            have HZ3 := Lib.hid (HZR.out.kept (Kept.of_below (S := fun _ => False) hb3) (fun h => h))
            have HT3 := Lib.hid (HTR.out.below hb3)
            have HB3 := Lib.hid (HBR.out.trans (hb3.mono HBR.out.size))
            clear hrc hb3 x0 x1 x2 x3 x4 x0' x4' r1 c0
            have z0 := HZ3.out.cell 0
            have z1 := HZ3.out.cell 1
            have z2 := HZ3.out.cell 2
            have z3 := HZ3.out.cell 3
            have f0 := HZ3.out.frozen 0
            have f1 := HZ3.out.frozen 1
            have f2 := HZ3.out.frozen 2
            have f3 := HZ3.out.frozen 3
            have hz3 := HZ3.out.lt
            go_wp2
            have h4 := set4 HZ3.out (.int .i64 92) (.int .i64 s) (.string ⟨#[]⟩) (.slice none 0 0)
            have hf := tab_left HT3.out (Kept.of_below HB3.out _) HZ3.out (by omega) hg h4.2
            have hrv := (RowsV.nil w3).kept h4.2 (fun k e cs' hc => by subst e; exact hc.ne_ HZ3.out (by decide) rfl)
            generalize ((((w3.setCell ⟨w.heap.size + 1, 0, none⟩ (.int .i64 92)).setCell ⟨w.heap.size + 1, 1, none⟩ (.int .i64 s)).setCell ⟨w.heap.size + 1, 2, none⟩ (.string ⟨#[]⟩)).setCell ⟨w.heap.size + 1, 3, none⟩ (.slice none 0 0)) = w4 at *
            have g0 := h4.1.cell 0
            have g1 := h4.1.cell 1
            have g2 := h4.1.cell 2
            have g3 := h4.1.cell 3
            refine bodyPost_ret (v := .agg #[.int .i64 92, .int .i64 s, .string ⟨#[]⟩, (.slice none 0 0)]) ?_ rfl ⟨(.slice none 0 0), by rw [HE.out]; try rfl, by rw [HE.out]; exact hrv, by rw [HE.out]; exact hf.1, hf.2⟩
            simp [results, Tryz.results45, go_sem, g0, g1, g2, g3]
          · subst h
            have r1 := HXR.out.cell 1
            have x0' := HXA.out.cell 0
            have x4' := HXA.out.cell 4
            have hrc := fun W => refused_calls 92 s W
            go_wp2_with (fail)
            generalize (w2.alloc (.cells #[.string k9, .int .i64 s, .string u] 115)) = wb at *
            refine (hrc _).mono ?_
            rintro e w3 ⟨rfl, hb3⟩
            have HZ3 := Lib.hid (HZR.out.kept (Kept.of_below (S := fun _ => False) hb3) (fun h => h))
            have HT3 := Lib.hid (HTR.out.below hb3)
            have HB3 := Lib.hid (HBR.out.trans (hb3.mono HBR.out.size))
            clear hrc hb3 x0 x1 x2 x3 x4 x0' x4' r1 c0
            have z0 := HZ3.out.cell 0
            have z1 := HZ3.out.cell 1
            have z2 := HZ3.out.cell 2
            have z3 := HZ3.out.cell 3
            have f0 := HZ3.out.frozen 0
            have f1 := HZ3.out.frozen 1
            have f2 := HZ3.out.frozen 2
            have f3 := HZ3.out.frozen 3
            have hz3 := HZ3.out.lt
            go_wp2
            have h4 := set4 HZ3.out (.int .i64 92) (.int .i64 s) (.string ⟨#[]⟩) (.slice none 0 0)
            have hf := tab_left HT3.out (Kept.of_below HB3.out _) HZ3.out (by omega) hg h4.2
            have hrv := (RowsV.nil w3).kept h4.2 (fun k e cs' hc => by subst e; exact hc.ne_ HZ3.out (by decide) rfl)
            generalize ((((w3.setCell ⟨w.heap.size + 1, 0, none⟩ (.int .i64 92)).setCell ⟨w.heap.size + 1, 1, none⟩ (.int .i64 s)).setCell ⟨w.heap.size + 1, 2, none⟩ (.string ⟨#[]⟩)).setCell ⟨w.heap.size + 1, 3, none⟩ (.slice none 0 0)) = w4 at *
            have g0 := h4.1.cell 0
            have g1 := h4.1.cell 1
            have g2 := h4.1.cell 2
            have g3 := h4.1.cell 3
            refine bodyPost_ret (v := .agg #[.int .i64 92, .int .i64 s, .string ⟨#[]⟩, (.slice none 0 0)]) ?_ rfl ⟨(.slice none 0 0), by rw [HE.out]; try rfl, by rw [HE.out]; exact hrv, by rw [HE.out]; exact hf.1, hf.2⟩
            simp [results, Tryz.results45, go_sem, g0, g1, g2, g3]
        · have hh : te = 0 ∨ (te ≠ 0 ∧ te = s) := by omega
          by_cases h5 : kd = 5
          · subst h5
            have HE := Lib.hid (show oneT l ⟨5, key, val, st, te, mo⟩ = (⟨0, s, u, []⟩, l) by unfold oneT; rw [if_neg h6, if_pos (.inr rfl), if_pos hq, HRT.out, HSS.out, HUU.out, if_neg h92, if_pos rfl])
            rcases hh with hh | hh
            · have q7 : (te != 0) = false := by simp; omega
              clear h92 hh
              have r1 := HXR.out.cell 1
              have r2 := HXR.out.cell 2
              have x0' := HXA.out.cell 0
              have x4' := HXA.out.cell 4
              have z0 := HZ2.out.cell 0
              have z1 := HZ2.out.cell 1
              have z2 := HZ2.out.cell 2
              have z3 := HZ2.out.cell 3
              have f0 := HZ2.out.frozen 0
              have f1 := HZ2.out.frozen 1
              have f2 := HZ2.out.frozen 2
              have f3 := HZ2.out.frozen 3
              go_wp2
              have h4 := set4 HZ2.out (.int .i64 0) (.int .i64 s) (.string u) (.slice none 0 0)
              have hf := tab_left HT2.out (Kept.of_below HB2.out _) HZ2.out (by omega) hg h4.2
              generalize ((((w2.setCell ⟨w.heap.size + 1, 0, none⟩ (.int .i64 0)).setCell ⟨w.heap.size + 1, 1, none⟩ (.int .i64 s)).setCell ⟨w.heap.size + 1, 2, none⟩ (.string u)).setCell ⟨w.heap.size + 1, 3, none⟩ (.slice none 0 0)) = w4 at *
              have hb4 := (Below.refl _ w4).alloc (Nat.le_refl _) (.cells #[.string k9, .int .i64 s, .string u] 115)
              have h5 := h4.1.alloc (.cells #[.string k9, .int .i64 s, .string u] 115)
              have ht5 := hf.1.below hb4
              have hk5 := hf.2.alloc (.cells #[.string k9, .int .i64 s, .string u] 115)
              generalize w4.alloc (.cells #[.string k9, .int .i64 s, .string u] 115) = w5 at *
              have g0 := h5.cell 0
              have g1 := h5.cell 1
              have g2 := h5.cell 2
              have g3 := h5.cell 3
              refine bodyPost_ret (v := .agg #[.int .i64 0, .int .i64 s, .string u, .slice none 0 0]) ?_ rfl ⟨.slice none 0 0, by rw [HE.out]; try rfl, by rw [HE.out]; exact RowsV.nil _, by rw [HE.out]; exact ht5, hk5⟩
              simp [results, Tryz.results45, go_sem, g0, g1, g2, g3]
            · have q7 : (te != 0) = true := by simp; omega
              have q8 : (te != s) = false := by simp; omega
              clear h92 hh
              have r1 := HXR.out.cell 1
              have r2 := HXR.out.cell 2
              have x0' := HXA.out.cell 0
              have x4' := HXA.out.cell 4
              have z0 := HZ2.out.cell 0
              have z1 := HZ2.out.cell 1
              have z2 := HZ2.out.cell 2
              have z3 := HZ2.out.cell 3
              have f0 := HZ2.out.frozen 0
              have f1 := HZ2.out.frozen 1
              have f2 := HZ2.out.frozen 2
              have f3 := HZ2.out.frozen 3
              go_wp2
              have h4 := set4 HZ2.out (.int .i64 0) (.int .i64 s) (.string u) (.slice none 0 0)
              have hf := tab_left HT2.out (Kept.of_below HB2.out _) HZ2.out (by omega) hg h4.2
              generalize ((((w2.setCell ⟨w.heap.size + 1, 0, none⟩ (.int .i64 0)).setCell ⟨w.heap.size + 1, 1, none⟩ (.int .i64 s)).setCell ⟨w.heap.size + 1, 2, none⟩ (.string u)).setCell ⟨w.heap.size + 1, 3, none⟩ (.slice none 0 0)) = w4 at *
              have hb4 := (Below.refl _ w4).alloc (Nat.le_refl _) (.cells #[.string k9, .int .i64 s, .string u] 115)
              have h5 := h4.1.alloc (.cells #[.string k9, .int .i64 s, .string u] 115)
              have ht5 := hf.1.below hb4
              have hk5 := hf.2.alloc (.cells #[.string k9, .int .i64 s, .string u] 115)
              generalize w4.alloc (.cells #[.string k9, .int .i64 s, .string u] 115) = w5 at *
              have g0 := h5.cell 0
              have g1 := h5.cell 1
              have g2 := h5.cell 2
              have g3 := h5.cell 3
              refine bodyPost_ret (v := .agg #[.int .i64 0, .int .i64 s, .string u, .slice none 0 0]) ?_ rfl ⟨.slice none 0 0, by rw [HE.out]; try rfl, by rw [HE.out]; exact RowsV.nil _, by rw [HE.out]; exact ht5, hk5⟩
              simp [results, Tryz.results45, go_sem, g0, g1, g2, g3]
          · obtain rfl : kd = 4 := by omega
            have HE := Lib.hid (show oneT l ⟨4, key, val, st, te, mo⟩ = (refT 0 s, spl l p (p + 1) []) by unfold oneT; rw [if_neg h6, if_pos (.inl rfl), if_pos hq, HRT.out, HSS.out, if_neg h92, if_neg h5, HP.out])
            rcases hh with hh | hh
            · have q7 : (te != 0) = false := by simp; omega
              clear h92 hh
              have r1 := HXR.out.cell 1
              have x0' := HXA.out.cell 0
              have x4' := HXA.out.cell 4
              have hsp := tab_splice g l [] p (p + 1) _ _ HTR.out (by omega) (by omega) (RowsV.nil _).1 (by omega) (by simp)
              rw [show (((p + 1 : Nat)) : Int) = (p : Int) + 1 from rfl] at hsp
              go_wp2_with (fail)
              generalize (w2.alloc (.cells #[.string k9, .int .i64 s, .string u] 115)) = wb at *
              refine hsp.mono ?_
              rintro e w3 ⟨rfl, ht3, hk3⟩
              have HXR3 := Lib.hid (HXR.out.kept hk3 (by have := HTR.out.lt; have := HT2.out.lt; omega))
              have r3 := HXR3.out.cell 1
              have HZ3 := Lib.hid (HZR.out.kept hk3 (by omega))
              have HK3 := Lib.hid ((Kept.of_below HBR.out fun k => k = g).trans hk3)
              have HT3 := Lib.hid ht3
              clear hsp hk3 ht3 x0 x1 x2 x3 x4 x0' x4' r1 c0
              have z0 := HZ3.out.cell 0
              have z1 := HZ3.out.cell 1
              have z2 := HZ3.out.cell 2
              have z3 := HZ3.out.cell 3
              have f0 := HZ3.out.frozen 0
              have f1 := HZ3.out.frozen 1
              have f2 := HZ3.out.frozen 2
              have f3 := HZ3.out.frozen 3
              have hz3 := HZ3.out.lt
              go_wp2
              have h4 := set4 HZ3.out (.int .i64 0) (.int .i64 s) (.string ⟨#[]⟩) (.slice none 0 0)
              have hf := tab_left HT3.out HK3.out HZ3.out (by omega) hg h4.2
              have hrv := (RowsV.nil w3).kept h4.2 (fun k e cs' hc => by subst e; exact hc.ne_ HZ3.out (by decide) rfl)
              generalize ((((w3.setCell ⟨w.heap.size + 1, 0, none⟩ (.int .i64 0)).setCell ⟨w.heap.size + 1, 1, none⟩ (.int .i64 s)).setCell ⟨w.heap.size + 1, 2, none⟩ (.string ⟨#[]⟩)).setCell ⟨w.heap.size + 1, 3, none⟩ (.slice none 0 0)) = w4 at *
              have g0 := h4.1.cell 0
              have g1 := h4.1.cell 1
              have g2 := h4.1.cell 2
              have g3 := h4.1.cell 3
              refine bodyPost_ret (v := .agg #[.int .i64 0, .int .i64 s, .string ⟨#[]⟩, (.slice none 0 0)]) ?_ rfl ⟨(.slice none 0 0), by rw [HE.out]; try rfl, by rw [HE.out]; exact hrv, by rw [HE.out]; exact hf.1, hf.2⟩
              simp [results, Tryz.results45, go_sem, g0, g1, g2, g3]
            · have q7 : (te != 0) = true := by simp; omega
              have q8 : (te != s) = false := by simp; omega
              clear h92 hh
              have r1 := HXR.out.cell 1
              have x0' := HXA.out.cell 0
              have x4' := HXA.out.cell 4
              have hsp := tab_splice g l [] p (p + 1) _ _ HTR.out (by omega) (by omega) (RowsV.nil _).1 (by omega) (by simp)
              rw [show (((p + 1 : Nat)) : Int) = (p : Int) + 1 from rfl] at hsp
              go_wp2_with (fail)
              generalize (w2.alloc (.cells #[.string k9, .int .i64 s, .string u] 115)) = wb at *
              refine hsp.mono ?_
              rintro e w3 ⟨rfl, ht3, hk3⟩
              have HXR3 := Lib.hid (HXR.out.kept hk3 (by have := HTR.out.lt; have := HT2.out.lt; omega))
              have r3 := HXR3.out.cell 1
              have HZ3 := Lib.hid (HZR.out.kept hk3 (by omega))
              have HK3 := Lib.hid ((Kept.of_below HBR.out fun k => k = g).trans hk3)
              have HT3 := Lib.hid ht3
              clear hsp hk3 ht3 x0 x1 x2 x3 x4 x0' x4' r1 c0
              have z0 := HZ3.out.cell 0
              have z1 := HZ3.out.cell 1
              have z2 := HZ3.out.cell 2
              have z3 := HZ3.out.cell 3
              have f0 := HZ3.out.frozen 0
              have f1 := HZ3.out.frozen 1
              have f2 := HZ3.out.frozen 2
              have f3 := HZ3.out.frozen 3
              have hz3 := HZ3.out.lt
              go_wp2
              have h4 := set4 HZ3.out (.int .i64 0) (.int .i64 s) (.string ⟨#[]⟩) (.slice none 0 0)
              have hf := tab_left HT3.out HK3.out HZ3.out (by omega) hg h4.2
              have hrv := (RowsV.nil w3).kept h4.2 (fun k e cs' hc => by subst e; exact hc.ne_ HZ3.out (by decide) rfl)
              generalize ((((w3.setCell ⟨w.heap.size + 1, 0, none⟩ (.int .i64 0)).setCell ⟨w.heap.size + 1, 1, none⟩ (.int .i64 s)).setCell ⟨w.heap.size + 1, 2, none⟩ (.string ⟨#[]⟩)).setCell ⟨w.heap.size + 1, 3, none⟩ (.slice none 0 0)) = w4 at *
              have g0 := h4.1.cell 0
              have g1 := h4.1.cell 1
              have g2 := h4.1.cell 2
              have g3 := h4.1.cell 3
              refine bodyPost_ret (v := .agg #[.int .i64 0, .int .i64 s, .string ⟨#[]⟩, (.slice none 0 0)]) ?_ rfl ⟨(.slice none 0 0), by rw [HE.out]; try rfl, by rw [HE.out]; exact hrv, by rw [HE.out]; exact hf.1, hf.2⟩
              simp [results, Tryz.results45, go_sem, g0, g1, g2, g3]
    · have q4 : (kd == 4) = false := by simp; omega
      have q5 : (kd == 5) = false := by simp; omega
      have hw4 := tab_write g l ⟨kd, key, val, st, te, mo⟩ w2 HT2.out HR.out
      have HE := Lib.hid (show oneT l ⟨kd, key, val, st, te, mo⟩ = writeT l ⟨kd, key, val, st, te, mo⟩ by unfold oneT; rw [if_neg h6, if_neg h45])
      generalize hwr : writeT l ⟨kd, key, val, st, te, mo⟩ = R at *
      unfold OpT.v resV at hw4
      dsimp only at hw4
      clear h6 h45 hwr
      go_wp2_with (fail)
      refine hw4.mono ?_
      rintro e w3 ⟨rfl, hrr, ht3, hk3⟩
      have HZ3 := Lib.hid (HZ2.out.kept hk3 (by omega))
      have HT3 := Lib.hid ht3
      have HK3 := Lib.hid ((Kept.of_below HB2.out fun k => k = g).trans hk3)
      have HRR := Lib.hid hrr
      clear hw4 hrr ht3 hk3 x0 x1 x2 x3 x4 x5 c0
      have z0 := HZ3.out.cell 0
      have z1 := HZ3.out.cell 1
      have z2 := HZ3.out.cell 2
      have z3 := HZ3.out.cell 3
      have f0 := HZ3.out.frozen 0
      have f1 := HZ3.out.frozen 1
      have f2 := HZ3.out.frozen 2
      have f3 := HZ3.out.frozen 3
      have hz3 := HZ3.out.lt
      go_wp2
      have h4 := set4 HZ3.out (.int .i64 R.1.code) (.int .i64 R.1.stamp) (.string R.1.val) (.slice none 0 0)
      have hf := tab_left HT3.out HK3.out HZ3.out (by omega) hg h4.2
      have hrv := (HRR.out ▸ RowsV.nil w3 : RowsV w3 (.slice none 0 0) R.1.rows).kept h4.2 (fun k e cs' hc => by subst e; exact hc.ne_ HZ3.out (by decide) rfl)
      generalize ((((w3.setCell ⟨w.heap.size + 1, 0, none⟩ (.int .i64 R.1.code)).setCell ⟨w.heap.size + 1, 1, none⟩ (.int .i64 R.1.stamp)).setCell ⟨w.heap.size + 1, 2, none⟩ (.string R.1.val)).setCell ⟨w.heap.size + 1, 3, none⟩ (.slice none 0 0)) = w4 at *
      have g0 := h4.1.cell 0
      have g1 := h4.1.cell 1
      have g2 := h4.1.cell 2
      have g3 := h4.1.cell 3
      refine bodyPost_ret (v := .agg #[.int .i64 R.1.code, .int .i64 R.1.stamp, .string R.1.val, (.slice none 0 0)]) ?_ rfl ⟨(.slice none 0 0), by rw [HE.out]; try rfl, by rw [HE.out]; exact hrv, by rw [HE.out]; exact hf.1, hf.2⟩
      simp [results, Tryz.results45, go_sem, g0, g1, g2, g3]
end Go.Proofs.YtdfdlajfjcakaaaGreat
