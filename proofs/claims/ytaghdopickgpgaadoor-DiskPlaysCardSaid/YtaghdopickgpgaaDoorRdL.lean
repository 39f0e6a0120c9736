import Derived.Test.YtaghdopickgpgaaDoorRdK
namespace Go.Proofs.YtaghdopickgpgaaDoor
open Go Go.RowKit
open Go.Proofs.YtaghdopickgpgaaDoorW.PrintLast
set_option linter.unusedVariables false
set_option linter.unusedSimpArgs false

theorem duo_box {w0 w : World} {F G : Nat → Prop} {g h : Nat} {s r : DkS} (H : DuoK w0 w F g G h s r) (o : Obj) : DuoK w0 (w.alloc o) F g (fun k => G k ∧ k ≠ w.heap.size) h s r ∧ ¬ FG F (fun k => G k ∧ k ≠ w.heap.size) w.heap.size := by
  have hb := (Below.refl _ w).alloc (Nat.le_refl _) o
  refine ⟨⟨H.da.below hb, (H.ra.tight.mono fun k h => ⟨h.1, by omega⟩).below hb, H.ok, H.rok, H.back.trans (hb.mono H.back.size), H.ff, fun k h => H.gg k h.1, fun k hF hG => H.fg k hF hG.1, fun k hk => ?_⟩, fun hh => ?_⟩
  · rw [World.size_alloc] at hk
    exact ⟨H.up k (by omega), by omega⟩
  · rcases hh with hh | hh
    · exact absurd (H.da.foot hh) (Nat.lt_irrefl _)
    · exact hh.2 rfl
theorem duo_unbox {w0 w w' : World} {F G : Nat → Prop} {g h : Nat} {s r s' r' : DkS} (H : DuoK w0 w F g G h s r) (D : DuoK w0 w' F g (fun k => G k ∧ k ≠ w.heap.size) h s' r') (hs : w.heap.size ≤ w'.heap.size) : DuoK w0 w' F g G h s' r' :=
  ⟨D.da, D.ra.mono fun k h => h.1, D.ok, D.rok, D.back, H.ff, H.gg, H.fg, fun k hk => H.up k (Nat.le_trans hs hk)⟩
def ActR.val (x : ActR) : Value := .agg #[.int .i64 x.kind, .string x.name, .string x.to, .int .i64 x.n, .slice x.DA x.D.length x.Dc]
set_option maxRecDepth 100000 in
set_option maxHeartbeats 4000000 in
theorem step_k0 (w0 w : World) (F : Nat → Prop) (g : Nat) (G : Nat → Prop) (h : Nat) (s : DkS) (x : ActR) (H0 : DuoK w0 w F g G h s s) (hx : x.fits w0) (hk : amg x.kind 8 = 0) :
    Calls Tryd.prog 27 #[.pointer (some ⟨g, 0, none⟩), .pointer (some ⟨h, 0, none⟩), .agg #[.int .i64 x.kind, .string x.name, .string x.to, .int .i64 x.n, .slice x.DA x.D.length x.Dc]] w fun e w' => e = .returned (.bool true) ∧ ∃ s', DuoK w0 w' F g G h s' s' := by
  have HH := Lib.hid H0
  obtain ⟨hd, hxn0⟩ := duo_box H0 (.cells #[.int .i64 x.kind, .string x.name, .string x.to, .int .i64 x.n, .slice x.DA x.D.length x.Dc] 45)
  have D0 := Lib.hid hd
  have hxn := Lib.hid hxn0
  have X0 := Lib.hid (Blk.new w 45 #[.int .i64 x.kind, .string x.name, .string x.to, .int .i64 x.n, .slice x.DA x.D.length x.Dc])
  have hfn : x.name.size ≤ maxLen := by have := hx.name; simp only [maxLen]; omega
  have hft : x.to.size ≤ maxLen := by have := hx.to; simp only [maxLen]; omega
  have HFN := Lib.hid hfn
  have HFT := Lib.hid hft
  have HFT2 := Lib.hid hx.to
  have HN1 := Lib.hid hx.n1
  have HDS := Lib.hid hx.D
  have HDL := Lib.hid (show x.D.length ≤ 140737488351232 by have := hx.Dl; omega)
  have ham := among_calls x.kind 8 (w.alloc (.cells #[.int .i64 x.kind, .string x.name, .string x.to, .int .i64 x.n, .slice x.DA x.D.length x.Dc] 45)) (by decide) (by decide)
  rw [hk] at ham
  have hsz : (w.alloc (.cells #[.int .i64 x.kind, .string x.name, .string x.to, .int .i64 x.n, .slice x.DA x.D.length x.Dc] 45)).heap.size = w.heap.size + 1 := World.size_alloc ..
  have x0 := X0.out.cell 0
  clear H0 hd hxn0 hfn hft hx hk
  go_enter Tryd.func27, Tryd.ntmps27
  go_wp2_with (fail)
  generalize w.alloc (.cells #[.int .i64 x.kind, .string x.name, .string x.to, .int .i64 x.n, .slice x.DA x.D.length x.Dc] 45) = wa at *
  refine ham.mono ?_
  rintro e w1 ⟨rfl, hw⟩
  subst w1
  clear ham

  go_wp2_with (fail)
  refine start_ (n := 14) (S := fun w' => w'.cell? ⟨w.heap.size, 1, none⟩ = some (.string x.name) ∧ w'.cell? ⟨w.heap.size, 2, none⟩ = some (.string x.to)) (ds := []) #[false, false, false, false, false, false, false, false, false, false, false, false, false, false] (by kernel_rfl) rfl rfl ⟨X0.out.cell 1, X0.out.cell 2⟩ (fun hHeld => ?_)
  refine pure_ (i := 0) (N := some 16) (v := ?_) (a' := ?_) #[true, false, false, false, false, false, false, false, false, false, false, false, false, false] rfl rfl (by kernel_rfl) (fun _ _ _ h => h) (Or.inl ⟨by rfl, ?_⟩) ?_ ?_
  rotate_left
  · intro w'
    go_simp
    with_reducible rfl
  rotate_left
  · simp only [Act.put, List.setIfInBounds_toArray, List.set_cons_zero, List.set_cons_succ, i64_w, i32_w]
    rfl
  refine pure_ (i := 1) (N := some 17) (v := ?_) (a' := ?_) #[true, true, false, false, false, false, false, false, false, false, false, false, false, false] rfl rfl (by kernel_rfl) (fun _ _ _ h => h) (Or.inl ⟨by rfl, ?_⟩) ?_ ?_
  rotate_left
  · intro w'
    go_simp
    with_reducible rfl
  rotate_left
  · simp only [Act.put, List.setIfInBounds_toArray, List.set_cons_zero, List.set_cons_succ, i64_w, i32_w]
    rfl
  refine pure_ (i := 3) (N := some 19) (v := ?_) (a' := ?_) #[true, true, false, true, false, false, false, false, false, false, false, false, false, false] rfl rfl (by kernel_rfl) (fun _ _ _ h => h) (Or.inl ⟨by rfl, ?_⟩) ?_ ?_
  rotate_left
  · intro w'
    go_simp
    with_reducible rfl
  rotate_left
  · simp only [Act.put, List.setIfInBounds_toArray, List.set_cons_zero, List.set_cons_succ, i64_w, i32_w]
    rfl
  refine pure_ (i := 6) (N := some 22) (v := ?_) (a' := ?_) #[true, true, false, true, false, false, true, false, false, false, false, false, false, false] rfl rfl (by kernel_rfl) (fun _ _ _ h => h) (Or.inl ⟨by rfl, ?_⟩) ?_ ?_
  rotate_left
  · intro w'
    go_simp
    with_reducible rfl
  rotate_left
  · simp only [Act.put, List.setIfInBounds_toArray, List.set_cons_zero, List.set_cons_succ, i64_w, i32_w]
    rfl
  refine pure_ (i := 7) (N := some 23) (v := ?_) (a' := ?_) #[true, true, false, true, false, false, true, true, false, false, false, false, false, false] rfl rfl (by kernel_rfl) (fun _ _ _ h => h) (Or.inl ⟨by rfl, ?_⟩) ?_ ?_
  rotate_left
  · intro w'
    go_simp
    with_reducible rfl
  rotate_left
  · simp only [Act.put, List.setIfInBounds_toArray, List.set_cons_zero, List.set_cons_succ, i64_w, i32_w]
    rfl
  refine pure_ (i := 9) (N := some 25) (v := ?_) (a' := ?_) #[true, true, false, true, false, false, true, true, false, true, false, false, false, false] rfl rfl (by kernel_rfl) (fun _ _ _ h => h) (Or.inl ⟨by rfl, ?_⟩) ?_ ?_
  rotate_left
  · intro w'
    go_simp
    with_reducible rfl
  rotate_left
  · simp only [Act.put, List.setIfInBounds_toArray, List.set_cons_zero, List.set_cons_succ, i64_w, i32_w]
    rfl
  refine take_ (i := 2) (N := some 18) (v := ?_) (a' := ?_) #[true, true, true, true, false, false, true, true, false, true, false, false, false, false] rfl rfl (by kernel_rfl) (fun _ _ _ h => h) (Or.inl ⟨by rfl, ?_⟩) hHeld ?_ ?_
  rotate_left
  · rintro w' ⟨s0, s1⟩
    go_simp
    with_reducible rfl
  rotate_left
  · simp only [Act.put, List.setIfInBounds_toArray, List.set_cons_zero, List.set_cons_succ, i64_w, i32_w]
    rfl
  refine take_ (i := 4) (N := some 20) (v := ?_) (a' := ?_) #[true, true, true, true, true, false, true, true, false, true, false, false, false, false] rfl rfl (by kernel_rfl) (fun _ _ _ h => h) (Or.inl ⟨by rfl, ?_⟩) hHeld ?_ ?_
  rotate_left
  · rintro w' ⟨s0, s1⟩
    go_simp
    with_reducible rfl
  rotate_left
  · simp only [Act.put, List.setIfInBounds_toArray, List.set_cons_zero, List.set_cons_succ, i64_w, i32_w]
    rfl
  refine take_ (i := 8) (N := some 24) (v := ?_) (a' := ?_) #[true, true, true, true, true, false, true, true, true, true, false, false, false, false] rfl rfl (by kernel_rfl) (fun _ _ _ h => h) (Or.inl ⟨by rfl, ?_⟩) hHeld ?_ ?_
  rotate_left
  · rintro w' ⟨s0, s1⟩
    go_simp
    with_reducible rfl
  rotate_left
  · simp only [Act.put, List.setIfInBounds_toArray, List.set_cons_zero, List.set_cons_succ, i64_w, i32_w]
    rfl
  refine take_ (i := 10) (N := some 26) (v := ?_) (a' := ?_) #[true, true, true, true, true, false, true, true, true, true, true, false, false, false] rfl rfl (by kernel_rfl) (fun _ _ _ h => h) (Or.inl ⟨by rfl, ?_⟩) hHeld ?_ ?_
  rotate_left
  · rintro w' ⟨s0, s1⟩
    go_simp
    with_reducible rfl
  rotate_left
  · simp only [Act.put, List.setIfInBounds_toArray, List.set_cons_zero, List.set_cons_succ, i64_w, i32_w]
    rfl
  refine one_ (i := 5) (N := some 21) #[true, true, true, true, true, true, true, true, true, true, true, false, false, false] rfl rfl (by kernel_rfl) (by decide) (fun K hK => ?_)
  refine goes_ Tryd.func12 (by kernel_rfl) rfl #[.pointer (some ⟨g, 0, none⟩), .string x.name, .string x.to] (by rfl) rfl rfl (by simp only [List.map_toArray, List.map_cons, List.map_nil]; rfl) ?_
  with_reducible refine (D0.out.drew.append1 x.name x.to HFN.out HFT2.out).mono ?_
  rintro e w3 ⟨rfl, h3, k3⟩
  refine ⟨_, rfl, ?_⟩
  have D3 := Lib.hid h3
  have X3 := Lib.hid (X0.out.drew.kept k3 hxn.out)
  clear h3 k3
  refine hK.out _ _ ⟨X3.out.cell 1, X3.out.cell 2⟩ (fun hHeld => ?_)
  clear hK K
  refine norm_ (a' := ?_) ?_ ?_
  rotate_left
  · show Act.put _ (some 21) _ = _
    simp only [Act.put, List.setIfInBounds_toArray, List.set_cons_zero, List.set_cons_succ, i64_w, i32_w]
    rfl
  refine one_ (i := 11) (N := some 27) #[true, true, true, true, true, true, true, true, true, true, true, true, false, false] rfl rfl (by kernel_rfl) (by decide) (fun K hK => ?_)
  refine goes_ Tryd.func36 (by kernel_rfl) rfl #[.pointer (some ⟨h, 0, none⟩), .string x.name, .string x.to] (by rfl) rfl rfl (by simp only [List.map_toArray, List.map_cons, List.map_nil]; rfl) ?_
  with_reducible refine (D3.out.append2 x.name x.to HFN.out HFT2.out).mono ?_
  rintro e w4 ⟨rfl, h4, k4⟩
  refine ⟨_, rfl, ?_⟩
  have D4 := Lib.hid h4
  have X4 := Lib.hid (X3.out.kept k4 hxn.out)
  clear h4 k4
  refine hK.out _ _ ⟨X4.out.cell 1, X4.out.cell 2⟩ (fun hHeld => ?_)
  clear hK K
  refine norm_ (a' := ?_) ?_ ?_
  rotate_left
  · show Act.put _ (some 27) _ = _
    simp only [Act.put, List.setIfInBounds_toArray, List.set_cons_zero, List.set_cons_succ, i64_w, i32_w]
    rfl
  refine pure_ (i := 12) (N := some 28) (v := ?_) (a' := ?_) #[true, true, true, true, true, true, true, true, true, true, true, true, true, false] rfl rfl (by kernel_rfl) (fun _ _ _ h => h) (Or.inl ⟨by rfl, ?_⟩) ?_ ?_
  rotate_left
  · intro w'
    go_simp
    with_reducible rfl
  rotate_left
  · simp only [Act.put, List.setIfInBounds_toArray, List.set_cons_zero, List.set_cons_succ, i64_w, i32_w]
    rfl
  refine pure_ (i := 13) (N := some 6) (v := ?_) (a' := ?_) #[true, true, true, true, true, true, true, true, true, true, true, true, true, true] rfl rfl (by kernel_rfl) (fun _ _ _ h => h) (Or.inl ⟨by rfl, ?_⟩) ?_ ?_
  rotate_left
  · intro w'
    go_simp
    with_reducible rfl
  rotate_left
  · simp only [Act.put, List.setIfInBounds_toArray, List.set_cons_zero, List.set_cons_succ, i64_w, i32_w]
    rfl
  refine done_ (by kernel_rfl) ?_
  go_wp2
  go_ret
  refine ⟨rfl, _, duo_unbox HH.out D4.out ?_⟩
  have := D4.out.back.size
  have := X4.out.lt
  omega
set_option maxRecDepth 100000 in
set_option maxHeartbeats 4000000 in
theorem step_k1 (w0 w : World) (F : Nat → Prop) (g : Nat) (G : Nat → Prop) (h : Nat) (s : DkS) (x : ActR) (H0 : DuoK w0 w F g G h s s) (hx : x.fits w0) (hk : amg x.kind 8 = 1) :
    Calls Tryd.prog 27 #[.pointer (some ⟨g, 0, none⟩), .pointer (some ⟨h, 0, none⟩), .agg #[.int .i64 x.kind, .string x.name, .string x.to, .int .i64 x.n, .slice x.DA x.D.length x.Dc]] w fun e w' => e = .returned (.bool true) ∧ ∃ s', DuoK w0 w' F g G h s' s' := by
  have HH := Lib.hid H0
  obtain ⟨hd, hxn0⟩ := duo_box H0 (.cells #[.int .i64 x.kind, .string x.name, .string x.to, .int .i64 x.n, .slice x.DA x.D.length x.Dc] 45)
  have D0 := Lib.hid hd
  have hxn := Lib.hid hxn0
  have X0 := Lib.hid (Blk.new w 45 #[.int .i64 x.kind, .string x.name, .string x.to, .int .i64 x.n, .slice x.DA x.D.length x.Dc])
  have hfn : x.name.size ≤ maxLen := by have := hx.name; simp only [maxLen]; omega
  have hft : x.to.size ≤ maxLen := by have := hx.to; simp only [maxLen]; omega
  have HFN := Lib.hid hfn
  have HFT := Lib.hid hft
  have HFT2 := Lib.hid hx.to
  have HN1 := Lib.hid hx.n1
  have HDS := Lib.hid hx.D
  have HDL := Lib.hid (show x.D.length ≤ 140737488351232 by have := hx.Dl; omega)
  have ham := among_calls x.kind 8 (w.alloc (.cells #[.int .i64 x.kind, .string x.name, .string x.to, .int .i64 x.n, .slice x.DA x.D.length x.Dc] 45)) (by decide) (by decide)
  rw [hk] at ham
  have hsz : (w.alloc (.cells #[.int .i64 x.kind, .string x.name, .string x.to, .int .i64 x.n, .slice x.DA x.D.length x.Dc] 45)).heap.size = w.heap.size + 1 := World.size_alloc ..
  have x0 := X0.out.cell 0
  clear H0 hd hxn0 hfn hft hx hk
  go_enter Tryd.func27, Tryd.ntmps27
  go_wp2_with (fail)
  generalize w.alloc (.cells #[.int .i64 x.kind, .string x.name, .string x.to, .int .i64 x.n, .slice x.DA x.D.length x.Dc] 45) = wa at *
  refine ham.mono ?_
  rintro e w1 ⟨rfl, hw⟩
  subst w1
  clear ham

  go_wp2_with (fail)
  refine start_ (n := 14) (S := fun w' => w'.cell? ⟨w.heap.size, 1, none⟩ = some (.string x.name) ∧ w'.cell? ⟨w.heap.size, 3, none⟩ = some (.int .i64 x.n)) (ds := []) #[false, false, false, false, false, false, false, false, false, false, false, false, false, false] (by kernel_rfl) rfl rfl ⟨X0.out.cell 1, X0.out.cell 3⟩ (fun hHeld => ?_)
  refine pure_ (i := 0) (N := some 31) (v := ?_) (a' := ?_) #[true, false, false, false, false, false, false, false, false, false, false, false, false, false] rfl rfl (by kernel_rfl) (fun _ _ _ h => h) (Or.inl ⟨by rfl, ?_⟩) ?_ ?_
  rotate_left
  · intro w'
    go_simp
    with_reducible rfl
  rotate_left
  · simp only [Act.put, List.setIfInBounds_toArray, List.set_cons_zero, List.set_cons_succ, i64_w, i32_w]
    rfl
  refine pure_ (i := 1) (N := some 32) (v := ?_) (a' := ?_) #[true, true, false, false, false, false, false, false, false, false, false, false, false, false] rfl rfl (by kernel_rfl) (fun _ _ _ h => h) (Or.inl ⟨by rfl, ?_⟩) ?_ ?_
  rotate_left
  · intro w'
    go_simp
    with_reducible rfl
  rotate_left
  · simp only [Act.put, List.setIfInBounds_toArray, List.set_cons_zero, List.set_cons_succ, i64_w, i32_w]
    rfl
  refine pure_ (i := 3) (N := some 34) (v := ?_) (a' := ?_) #[true, true, false, true, false, false, false, false, false, false, false, false, false, false] rfl rfl (by kernel_rfl) (fun _ _ _ h => h) (Or.inl ⟨by rfl, ?_⟩) ?_ ?_
  rotate_left
  · intro w'
    go_simp
    with_reducible rfl
  rotate_left
  · simp only [Act.put, List.setIfInBounds_toArray, List.set_cons_zero, List.set_cons_succ, i64_w, i32_w]
    rfl
  refine pure_ (i := 6) (N := some 37) (v := ?_) (a' := ?_) #[true, true, false, true, false, false, true, false, false, false, false, false, false, false] rfl rfl (by kernel_rfl) (fun _ _ _ h => h) (Or.inl ⟨by rfl, ?_⟩) ?_ ?_
  rotate_left
  · intro w'
    go_simp
    with_reducible rfl
  rotate_left
  · simp only [Act.put, List.setIfInBounds_toArray, List.set_cons_zero, List.set_cons_succ, i64_w, i32_w]
    rfl
  refine pure_ (i := 7) (N := some 38) (v := ?_) (a' := ?_) #[true, true, false, true, false, false, true, true, false, false, false, false, false, false] rfl rfl (by kernel_rfl) (fun _ _ _ h => h) (Or.inl ⟨by rfl, ?_⟩) ?_ ?_
  rotate_left
  · intro w'
    go_simp
    with_reducible rfl
  rotate_left
  · simp only [Act.put, List.setIfInBounds_toArray, List.set_cons_zero, List.set_cons_succ, i64_w, i32_w]
    rfl
  refine pure_ (i := 9) (N := some 40) (v := ?_) (a' := ?_) #[true, true, false, true, false, false, true, true, false, true, false, false, false, false] rfl rfl (by kernel_rfl) (fun _ _ _ h => h) (Or.inl ⟨by rfl, ?_⟩) ?_ ?_
  rotate_left
  · intro w'
    go_simp
    with_reducible rfl
  rotate_left
  · simp only [Act.put, List.setIfInBounds_toArray, List.set_cons_zero, List.set_cons_succ, i64_w, i32_w]
    rfl
  refine take_ (i := 2) (N := some 33) (v := ?_) (a' := ?_) #[true, true, true, true, false, false, true, true, false, true, false, false, false, false] rfl rfl (by kernel_rfl) (fun _ _ _ h => h) (Or.inl ⟨by rfl, ?_⟩) hHeld ?_ ?_
  rotate_left
  · rintro w' ⟨s0, s1⟩
    go_simp
    with_reducible rfl
  rotate_left
  · simp only [Act.put, List.setIfInBounds_toArray, List.set_cons_zero, List.set_cons_succ, i64_w, i32_w]
    rfl
  refine take_ (i := 4) (N := some 35) (v := ?_) (a' := ?_) #[true, true, true, true, true, false, true, true, false, true, false, false, false, false] rfl rfl (by kernel_rfl) (fun _ _ _ h => h) (Or.inl ⟨by rfl, ?_⟩) hHeld ?_ ?_
  rotate_left
  · rintro w' ⟨s0, s1⟩
    go_simp
    with_reducible rfl
  rotate_left
  · simp only [Act.put, List.setIfInBounds_toArray, List.set_cons_zero, List.set_cons_succ, i64_w, i32_w]
    rfl
  refine take_ (i := 8) (N := some 39) (v := ?_) (a' := ?_) #[true, true, true, true, true, false, true, true, true, true, false, false, false, false] rfl rfl (by kernel_rfl) (fun _ _ _ h => h) (Or.inl ⟨by rfl, ?_⟩) hHeld ?_ ?_
  rotate_left
  · rintro w' ⟨s0, s1⟩
    go_simp
    with_reducible rfl
  rotate_left
  · simp only [Act.put, List.setIfInBounds_toArray, List.set_cons_zero, List.set_cons_succ, i64_w, i32_w]
    rfl
  refine take_ (i := 10) (N := some 41) (v := ?_) (a' := ?_) #[true, true, true, true, true, false, true, true, true, true, true, false, false, false] rfl rfl (by kernel_rfl) (fun _ _ _ h => h) (Or.inl ⟨by rfl, ?_⟩) hHeld ?_ ?_
  rotate_left
  · rintro w' ⟨s0, s1⟩
    go_simp
    with_reducible rfl
  rotate_left
  · simp only [Act.put, List.setIfInBounds_toArray, List.set_cons_zero, List.set_cons_succ, i64_w, i32_w]
    rfl
  refine one_ (i := 5) (N := some 36) #[true, true, true, true, true, true, true, true, true, true, true, false, false, false] rfl rfl (by kernel_rfl) (by decide) (fun K hK => ?_)
  refine goes_ Tryd.func21 (by kernel_rfl) rfl #[.pointer (some ⟨g, 0, none⟩), .string x.name, .int .i64 x.n] (by rfl) rfl rfl (by simp only [List.map_toArray, List.map_cons, List.map_nil]; rfl) ?_
  with_reducible refine (D0.out.drew.cut1 x.name x.n HFN.out).mono ?_
  rintro e w3 ⟨rfl, h3, k3⟩
  refine ⟨_, rfl, ?_⟩
  have D3 := Lib.hid h3
  have X3 := Lib.hid (X0.out.drew.kept k3 hxn.out)
  clear h3 k3
  refine hK.out _ _ ⟨X3.out.cell 1, X3.out.cell 3⟩ (fun hHeld => ?_)
  clear hK K
  refine norm_ (a' := ?_) ?_ ?_
  rotate_left
  · show Act.put _ (some 36) _ = _
    simp only [Act.put, List.setIfInBounds_toArray, List.set_cons_zero, List.set_cons_succ, i64_w, i32_w]
    rfl
  refine one_ (i := 11) (N := some 42) #[true, true, true, true, true, true, true, true, true, true, true, true, false, false] rfl rfl (by kernel_rfl) (by decide) (fun K hK => ?_)
  refine goes_ Tryd.func37 (by kernel_rfl) rfl #[.pointer (some ⟨h, 0, none⟩), .string x.name, .int .i64 x.n] (by rfl) rfl rfl (by simp only [List.map_toArray, List.map_cons, List.map_nil]; rfl) ?_
  with_reducible refine (D3.out.cut2 x.name x.n HFN.out).mono ?_
  rintro e w4 ⟨rfl, h4, k4⟩
  refine ⟨_, rfl, ?_⟩
  have D4 := Lib.hid h4
  have X4 := Lib.hid (X3.out.kept k4 hxn.out)
  clear h4 k4
  refine hK.out _ _ ⟨X4.out.cell 1, X4.out.cell 3⟩ (fun hHeld => ?_)
  clear hK K
  refine norm_ (a' := ?_) ?_ ?_
  rotate_left
  · show Act.put _ (some 42) _ = _
    simp only [Act.put, List.setIfInBounds_toArray, List.set_cons_zero, List.set_cons_succ, i64_w, i32_w]
    rfl
  refine pure_ (i := 12) (N := some 43) (v := ?_) (a' := ?_) #[true, true, true, true, true, true, true, true, true, true, true, true, true, false] rfl rfl (by kernel_rfl) (fun _ _ _ h => h) (Or.inl ⟨by rfl, ?_⟩) ?_ ?_
  rotate_left
  · intro w'
    go_simp
    with_reducible rfl
  rotate_left
  · simp only [Act.put, List.setIfInBounds_toArray, List.set_cons_zero, List.set_cons_succ, i64_w, i32_w]
    rfl
  refine pure_ (i := 13) (N := some 6) (v := ?_) (a' := ?_) #[true, true, true, true, true, true, true, true, true, true, true, true, true, true] rfl rfl (by kernel_rfl) (fun _ _ _ h => h) (Or.inl ⟨by rfl, ?_⟩) ?_ ?_
  rotate_left
  · intro w'
    go_simp
    with_reducible rfl
  rotate_left
  · simp only [Act.put, List.setIfInBounds_toArray, List.set_cons_zero, List.set_cons_succ, i64_w, i32_w]
    rfl
  refine done_ (by kernel_rfl) ?_
  go_wp2
  go_ret
  refine ⟨rfl, _, duo_unbox HH.out D4.out ?_⟩
  have := D4.out.back.size
  have := X4.out.lt
  omega
set_option maxRecDepth 100000 in
set_option maxHeartbeats 4000000 in
theorem step_k3 (w0 w : World) (F : Nat → Prop) (g : Nat) (G : Nat → Prop) (h : Nat) (s : DkS) (x : ActR) (H0 : DuoK w0 w F g G h s s) (hx : x.fits w0) (hk : amg x.kind 8 = 3) :
    Calls Tryd.prog 27 #[.pointer (some ⟨g, 0, none⟩), .pointer (some ⟨h, 0, none⟩), .agg #[.int .i64 x.kind, .string x.name, .string x.to, .int .i64 x.n, .slice x.DA x.D.length x.Dc]] w fun e w' => e = .returned (.bool true) ∧ ∃ s', DuoK w0 w' F g G h s' s' := by
  have HH := Lib.hid H0
  obtain ⟨hd, hxn0⟩ := duo_box H0 (.cells #[.int .i64 x.kind, .string x.name, .string x.to, .int .i64 x.n, .slice x.DA x.D.length x.Dc] 45)
  have D0 := Lib.hid hd
  have hxn := Lib.hid hxn0
  have X0 := Lib.hid (Blk.new w 45 #[.int .i64 x.kind, .string x.name, .string x.to, .int .i64 x.n, .slice x.DA x.D.length x.Dc])
  have hfn : x.name.size ≤ maxLen := by have := hx.name; simp only [maxLen]; omega
  have hft : x.to.size ≤ maxLen := by have := hx.to; simp only [maxLen]; omega
  have HFN := Lib.hid hfn
  have HFT := Lib.hid hft
  have HFT2 := Lib.hid hx.to
  have HN1 := Lib.hid hx.n1
  have HDS := Lib.hid hx.D
  have HDL := Lib.hid (show x.D.length ≤ 140737488351232 by have := hx.Dl; omega)
  have ham := among_calls x.kind 8 (w.alloc (.cells #[.int .i64 x.kind, .string x.name, .string x.to, .int .i64 x.n, .slice x.DA x.D.length x.Dc] 45)) (by decide) (by decide)
  rw [hk] at ham
  have hsz : (w.alloc (.cells #[.int .i64 x.kind, .string x.name, .string x.to, .int .i64 x.n, .slice x.DA x.D.length x.Dc] 45)).heap.size = w.heap.size + 1 := World.size_alloc ..
  have x0 := X0.out.cell 0
  clear H0 hd hxn0 hfn hft hx hk
  go_enter Tryd.func27, Tryd.ntmps27
  go_wp2_with (fail)
  generalize w.alloc (.cells #[.int .i64 x.kind, .string x.name, .string x.to, .int .i64 x.n, .slice x.DA x.D.length x.Dc] 45) = wa at *
  refine ham.mono ?_
  rintro e w1 ⟨rfl, hw⟩
  subst w1
  clear ham

  go_wp2_with (fail)
  refine start_ (n := 14) (S := fun w' => w'.cell? ⟨w.heap.size, 1, none⟩ = some (.string x.name) ∧ w'.cell? ⟨w.heap.size, 2, none⟩ = some (.string x.to)) (ds := []) #[false, false, false, false, false, false, false, false, false, false, false, false, false, false] (by kernel_rfl) rfl rfl ⟨X0.out.cell 1, X0.out.cell 2⟩ (fun hHeld => ?_)
  refine pure_ (i := 0) (N := some 53) (v := ?_) (a' := ?_) #[true, false, false, false, false, false, false, false, false, false, false, false, false, false] rfl rfl (by kernel_rfl) (fun _ _ _ h => h) (Or.inl ⟨by rfl, ?_⟩) ?_ ?_
  rotate_left
  · intro w'
    go_simp
    with_reducible rfl
  rotate_left
  · simp only [Act.put, List.setIfInBounds_toArray, List.set_cons_zero, List.set_cons_succ, i64_w, i32_w]
    rfl
  refine pure_ (i := 1) (N := some 54) (v := ?_) (a' := ?_) #[true, true, false, false, false, false, false, false, false, false, false, false, false, false] rfl rfl (by kernel_rfl) (fun _ _ _ h => h) (Or.inl ⟨by rfl, ?_⟩) ?_ ?_
  rotate_left
  · intro w'
    go_simp
    with_reducible rfl
  rotate_left
  · simp only [Act.put, List.setIfInBounds_toArray, List.set_cons_zero, List.set_cons_succ, i64_w, i32_w]
    rfl
  refine pure_ (i := 3) (N := some 56) (v := ?_) (a' := ?_) #[true, true, false, true, false, false, false, false, false, false, false, false, false, false] rfl rfl (by kernel_rfl) (fun _ _ _ h => h) (Or.inl ⟨by rfl, ?_⟩) ?_ ?_
  rotate_left
  · intro w'
    go_simp
    with_reducible rfl
  rotate_left
  · simp only [Act.put, List.setIfInBounds_toArray, List.set_cons_zero, List.set_cons_succ, i64_w, i32_w]
    rfl
  refine pure_ (i := 6) (N := some 59) (v := ?_) (a' := ?_) #[true, true, false, true, false, false, true, false, false, false, false, false, false, false] rfl rfl (by kernel_rfl) (fun _ _ _ h => h) (Or.inl ⟨by rfl, ?_⟩) ?_ ?_
  rotate_left
  · intro w'
    go_simp
    with_reducible rfl
  rotate_left
  · simp only [Act.put, List.setIfInBounds_toArray, List.set_cons_zero, List.set_cons_succ, i64_w, i32_w]
    rfl
  refine pure_ (i := 7) (N := some 60) (v := ?_) (a' := ?_) #[true, true, false, true, false, false, true, true, false, false, false, false, false, false] rfl rfl (by kernel_rfl) (fun _ _ _ h => h) (Or.inl ⟨by rfl, ?_⟩) ?_ ?_
  rotate_left
  · intro w'
    go_simp
    with_reducible rfl
  rotate_left
  · simp only [Act.put, List.setIfInBounds_toArray, List.set_cons_zero, List.set_cons_succ, i64_w, i32_w]
    rfl
  refine pure_ (i := 9) (N := some 62) (v := ?_) (a' := ?_) #[true, true, false, true, false, false, true, true, false, true, false, false, false, false] rfl rfl (by kernel_rfl) (fun _ _ _ h => h) (Or.inl ⟨by rfl, ?_⟩) ?_ ?_
  rotate_left
  · intro w'
    go_simp
    with_reducible rfl
  rotate_left
  · simp only [Act.put, List.setIfInBounds_toArray, List.set_cons_zero, List.set_cons_succ, i64_w, i32_w]
    rfl
  refine take_ (i := 2) (N := some 55) (v := ?_) (a' := ?_) #[true, true, true, true, false, false, true, true, false, true, false, false, false, false] rfl rfl (by kernel_rfl) (fun _ _ _ h => h) (Or.inl ⟨by rfl, ?_⟩) hHeld ?_ ?_
  rotate_left
  · rintro w' ⟨s0, s1⟩
    go_simp
    with_reducible rfl
  rotate_left
  · simp only [Act.put, List.setIfInBounds_toArray, List.set_cons_zero, List.set_cons_succ, i64_w, i32_w]
    rfl
  refine take_ (i := 4) (N := some 57) (v := ?_) (a' := ?_) #[true, true, true, true, true, false, true, true, false, true, false, false, false, false] rfl rfl (by kernel_rfl) (fun _ _ _ h => h) (Or.inl ⟨by rfl, ?_⟩) hHeld ?_ ?_
  rotate_left
  · rintro w' ⟨s0, s1⟩
    go_simp
    with_reducible rfl
  rotate_left
  · simp only [Act.put, List.setIfInBounds_toArray, List.set_cons_zero, List.set_cons_succ, i64_w, i32_w]
    rfl
  refine take_ (i := 8) (N := some 61) (v := ?_) (a' := ?_) #[true, true, true, true, true, false, true, true, true, true, false, false, false, false] rfl rfl (by kernel_rfl) (fun _ _ _ h => h) (Or.inl ⟨by rfl, ?_⟩) hHeld ?_ ?_
  rotate_left
  · rintro w' ⟨s0, s1⟩
    go_simp
    with_reducible rfl
  rotate_left
  · simp only [Act.put, List.setIfInBounds_toArray, List.set_cons_zero, List.set_cons_succ, i64_w, i32_w]
    rfl
  refine take_ (i := 10) (N := some 63) (v := ?_) (a' := ?_) #[true, true, true, true, true, false, true, true, true, true, true, false, false, false] rfl rfl (by kernel_rfl) (fun _ _ _ h => h) (Or.inl ⟨by rfl, ?_⟩) hHeld ?_ ?_
  rotate_left
  · rintro w' ⟨s0, s1⟩
    go_simp
    with_reducible rfl
  rotate_left
  · simp only [Act.put, List.setIfInBounds_toArray, List.set_cons_zero, List.set_cons_succ, i64_w, i32_w]
    rfl
  refine one_ (i := 5) (N := some 58) #[true, true, true, true, true, true, true, true, true, true, true, false, false, false] rfl rfl (by kernel_rfl) (by decide) (fun K hK => ?_)
  refine goes_ Tryd.func17 (by kernel_rfl) rfl #[.pointer (some ⟨g, 0, none⟩), .string x.name, .string x.to] (by rfl) rfl rfl (by simp only [List.map_toArray, List.map_cons, List.map_nil]; rfl) ?_
  with_reducible refine (D0.out.drew.rename1 x.name x.to HFN.out HFT.out).mono ?_
  rintro e w3 ⟨rfl, h3, k3⟩
  refine ⟨_, rfl, ?_⟩
  have D3 := Lib.hid h3
  have X3 := Lib.hid (X0.out.drew.kept k3 hxn.out)
  clear h3 k3
  refine hK.out _ _ ⟨X3.out.cell 1, X3.out.cell 2⟩ (fun hHeld => ?_)
  clear hK K
  refine norm_ (a' := ?_) ?_ ?_
  rotate_left
  · show Act.put _ (some 58) _ = _
    simp only [Act.put, List.setIfInBounds_toArray, List.set_cons_zero, List.set_cons_succ, i64_w, i32_w]
    rfl
  refine one_ (i := 11) (N := some 64) #[true, true, true, true, true, true, true, true, true, true, true, true, false, false] rfl rfl (by kernel_rfl) (by decide) (fun K hK => ?_)
  refine goes_ Tryd.func39 (by kernel_rfl) rfl #[.pointer (some ⟨h, 0, none⟩), .string x.name, .string x.to] (by rfl) rfl rfl (by simp only [List.map_toArray, List.map_cons, List.map_nil]; rfl) ?_
  with_reducible refine (D3.out.rename2 x.name x.to HFN.out HFT.out).mono ?_
  rintro e w4 ⟨rfl, h4, k4⟩
  refine ⟨_, rfl, ?_⟩
  have D4 := Lib.hid h4
  have X4 := Lib.hid (X3.out.kept k4 hxn.out)
  clear h4 k4
  refine hK.out _ _ ⟨X4.out.cell 1, X4.out.cell 2⟩ (fun hHeld => ?_)
  clear hK K
  refine norm_ (a' := ?_) ?_ ?_
  rotate_left
  · show Act.put _ (some 64) _ = _
    simp only [Act.put, List.setIfInBounds_toArray, List.set_cons_zero, List.set_cons_succ, i64_w, i32_w]
    rfl
  refine pure_ (i := 12) (N := some 65) (v := ?_) (a' := ?_) #[true, true, true, true, true, true, true, true, true, true, true, true, true, false] rfl rfl (by kernel_rfl) (fun _ _ _ h => h) (Or.inl ⟨by rfl, ?_⟩) ?_ ?_
  rotate_left
  · intro w'
    go_simp
    with_reducible rfl
  rotate_left
  · simp only [Act.put, List.setIfInBounds_toArray, List.set_cons_zero, List.set_cons_succ, i64_w, i32_w]
    rfl
  refine pure_ (i := 13) (N := some 6) (v := ?_) (a' := ?_) #[true, true, true, true, true, true, true, true, true, true, true, true, true, true] rfl rfl (by kernel_rfl) (fun _ _ _ h => h) (Or.inl ⟨by rfl, ?_⟩) ?_ ?_
  rotate_left
  · intro w'
    go_simp
    with_reducible rfl
  rotate_left
  · simp only [Act.put, List.setIfInBounds_toArray, List.set_cons_zero, List.set_cons_succ, i64_w, i32_w]
    rfl
  refine done_ (by kernel_rfl) ?_
  go_wp2
  go_ret
  refine ⟨rfl, _, duo_unbox HH.out D4.out ?_⟩
  have := D4.out.back.size
  have := X4.out.lt
  omega
set_option maxRecDepth 100000 in
set_option maxHeartbeats 4000000 in
theorem step_k4 (w0 w : World) (F : Nat → Prop) (g : Nat) (G : Nat → Prop) (h : Nat) (s : DkS) (x : ActR) (H0 : DuoK w0 w F g G h s s) (hx : x.fits w0) (hk : amg x.kind 8 = 4) :
    Calls Tryd.prog 27 #[.pointer (some ⟨g, 0, none⟩), .pointer (some ⟨h, 0, none⟩), .agg #[.int .i64 x.kind, .string x.name, .string x.to, .int .i64 x.n, .slice x.DA x.D.length x.Dc]] w fun e w' => e = .returned (.bool true) ∧ ∃ s', DuoK w0 w' F g G h s' s' := by
  have HH := Lib.hid H0
  obtain ⟨hd, hxn0⟩ := duo_box H0 (.cells #[.int .i64 x.kind, .string x.name, .string x.to, .int .i64 x.n, .slice x.DA x.D.length x.Dc] 45)
  have D0 := Lib.hid hd
  have hxn := Lib.hid hxn0
  have X0 := Lib.hid (Blk.new w 45 #[.int .i64 x.kind, .string x.name, .string x.to, .int .i64 x.n, .slice x.DA x.D.length x.Dc])
  have hfn : x.name.size ≤ maxLen := by have := hx.name; simp only [maxLen]; omega
  have hft : x.to.size ≤ maxLen := by have := hx.to; simp only [maxLen]; omega
  have HFN := Lib.hid hfn
  have HFT := Lib.hid hft
  have HFT2 := Lib.hid hx.to
  have HN1 := Lib.hid hx.n1
  have HDS := Lib.hid hx.D
  have HDL := Lib.hid (show x.D.length ≤ 140737488351232 by have := hx.Dl; omega)
  have ham := among_calls x.kind 8 (w.alloc (.cells #[.int .i64 x.kind, .string x.name, .string x.to, .int .i64 x.n, .slice x.DA x.D.length x.Dc] 45)) (by decide) (by decide)
  rw [hk] at ham
  have hsz : (w.alloc (.cells #[.int .i64 x.kind, .string x.name, .string x.to, .int .i64 x.n, .slice x.DA x.D.length x.Dc] 45)).heap.size = w.heap.size + 1 := World.size_alloc ..
  have x0 := X0.out.cell 0
  clear H0 hd hxn0 hfn hft hx hk
  go_enter Tryd.func27, Tryd.ntmps27
  go_wp2_with (fail)
  generalize w.alloc (.cells #[.int .i64 x.kind, .string x.name, .string x.to, .int .i64 x.n, .slice x.DA x.D.length x.Dc] 45) = wa at *
  refine ham.mono ?_
  rintro e w1 ⟨rfl, hw⟩
  subst w1
  clear ham

  go_wp2_with (fail)
  refine start_ (n := 10) (S := fun w' => w'.cell? ⟨w.heap.size, 1, none⟩ = some (.string x.name)) (ds := []) #[false, false, false, false, false, false, false, false, false, false] (by kernel_rfl) rfl rfl (X0.out.cell 1) (fun hHeld => ?_)
  refine pure_ (i := 0) (N := some 68) (v := ?_) (a' := ?_) #[true, false, false, false, false, false, false, false, false, false] rfl rfl (by kernel_rfl) (fun _ _ _ h => h) (Or.inl ⟨by rfl, ?_⟩) ?_ ?_
  rotate_left
  · intro w'
    go_simp
    with_reducible rfl
  rotate_left
  · simp only [Act.put, List.setIfInBounds_toArray, List.set_cons_zero, List.set_cons_succ, i64_w, i32_w]
    rfl
  refine pure_ (i := 1) (N := some 69) (v := ?_) (a' := ?_) #[true, true, false, false, false, false, false, false, false, false] rfl rfl (by kernel_rfl) (fun _ _ _ h => h) (Or.inl ⟨by rfl, ?_⟩) ?_ ?_
  rotate_left
  · intro w'
    go_simp
    with_reducible rfl
  rotate_left
  · simp only [Act.put, List.setIfInBounds_toArray, List.set_cons_zero, List.set_cons_succ, i64_w, i32_w]
    rfl
  refine pure_ (i := 4) (N := some 72) (v := ?_) (a' := ?_) #[true, true, false, false, true, false, false, false, false, false] rfl rfl (by kernel_rfl) (fun _ _ _ h => h) (Or.inl ⟨by rfl, ?_⟩) ?_ ?_
  rotate_left
  · intro w'
    go_simp
    with_reducible rfl
  rotate_left
  · simp only [Act.put, List.setIfInBounds_toArray, List.set_cons_zero, List.set_cons_succ, i64_w, i32_w]
    rfl
  refine pure_ (i := 5) (N := some 73) (v := ?_) (a' := ?_) #[true, true, false, false, true, true, false, false, false, false] rfl rfl (by kernel_rfl) (fun _ _ _ h => h) (Or.inl ⟨by rfl, ?_⟩) ?_ ?_
  rotate_left
  · intro w'
    go_simp
    with_reducible rfl
  rotate_left
  · simp only [Act.put, List.setIfInBounds_toArray, List.set_cons_zero, List.set_cons_succ, i64_w, i32_w]
    rfl
  refine take_ (i := 2) (N := some 70) (v := ?_) (a' := ?_) #[true, true, true, false, true, true, false, false, false, false] rfl rfl (by kernel_rfl) (fun _ _ _ h => h) (Or.inl ⟨by rfl, ?_⟩) hHeld ?_ ?_
  rotate_left
  · intro w' s0
    go_simp
    with_reducible rfl
  rotate_left
  · simp only [Act.put, List.setIfInBounds_toArray, List.set_cons_zero, List.set_cons_succ, i64_w, i32_w]
    rfl
  refine take_ (i := 6) (N := some 74) (v := ?_) (a' := ?_) #[true, true, true, false, true, true, true, false, false, false] rfl rfl (by kernel_rfl) (fun _ _ _ h => h) (Or.inl ⟨by rfl, ?_⟩) hHeld ?_ ?_
  rotate_left
  · intro w' s0
    go_simp
    with_reducible rfl
  rotate_left
  · simp only [Act.put, List.setIfInBounds_toArray, List.set_cons_zero, List.set_cons_succ, i64_w, i32_w]
    rfl
  refine one_ (i := 3) (N := some 71) #[true, true, true, true, true, true, true, false, false, false] rfl rfl (by kernel_rfl) (by decide) (fun K hK => ?_)
  refine goes_ Tryd.func22 (by kernel_rfl) rfl #[.pointer (some ⟨g, 0, none⟩), .string x.name] (by rfl) rfl rfl (by simp only [List.map_toArray, List.map_cons, List.map_nil]; rfl) ?_
  with_reducible refine (D0.out.drew.remove1 x.name HFN.out).mono ?_
  rintro e w3 ⟨rfl, h3, k3⟩
  refine ⟨_, rfl, ?_⟩
  have D3 := Lib.hid h3
  have X3 := Lib.hid (X0.out.drew.kept k3 hxn.out)
  clear h3 k3
  refine hK.out _ _ (X3.out.cell 1) (fun hHeld => ?_)
  clear hK K
  refine norm_ (a' := ?_) ?_ ?_
  rotate_left
  · show Act.put _ (some 71) _ = _
    simp only [Act.put, List.setIfInBounds_toArray, List.set_cons_zero, List.set_cons_succ, i64_w, i32_w]
    rfl
  refine one_ (i := 7) (N := some 75) #[true, true, true, true, true, true, true, true, false, false] rfl rfl (by kernel_rfl) (by decide) (fun K hK => ?_)
  refine goes_ Tryd.func40 (by kernel_rfl) rfl #[.pointer (some ⟨h, 0, none⟩), .string x.name] (by rfl) rfl rfl (by simp only [List.map_toArray, List.map_cons, List.map_nil]; rfl) ?_
  with_reducible refine (D3.out.remove2 x.name HFN.out).mono ?_
  rintro e w4 ⟨rfl, h4, k4⟩
  refine ⟨_, rfl, ?_⟩
  have D4 := Lib.hid h4
  have X4 := Lib.hid (X3.out.kept k4 hxn.out)
  clear h4 k4
  refine hK.out _ _ (X4.out.cell 1) (fun hHeld => ?_)
  clear hK K
  refine norm_ (a' := ?_) ?_ ?_
  rotate_left
  · show Act.put _ (some 75) _ = _
    simp only [Act.put, List.setIfInBounds_toArray, List.set_cons_zero, List.set_cons_succ, i64_w, i32_w]
    rfl
  refine pure_ (i := 8) (N := some 76) (v := ?_) (a' := ?_) #[true, true, true, true, true, true, true, true, true, false] rfl rfl (by kernel_rfl) (fun _ _ _ h => h) (Or.inl ⟨by rfl, ?_⟩) ?_ ?_
  rotate_left
  · intro w'
    go_simp
    with_reducible rfl
  rotate_left
  · simp only [Act.put, List.setIfInBounds_toArray, List.set_cons_zero, List.set_cons_succ, i64_w, i32_w]
    rfl
  refine pure_ (i := 9) (N := some 6) (v := ?_) (a' := ?_) #[true, true, true, true, true, true, true, true, true, true] rfl rfl (by kernel_rfl) (fun _ _ _ h => h) (Or.inl ⟨by rfl, ?_⟩) ?_ ?_
  rotate_left
  · intro w'
    go_simp
    with_reducible rfl
  rotate_left
  · simp only [Act.put, List.setIfInBounds_toArray, List.set_cons_zero, List.set_cons_succ, i64_w, i32_w]
    rfl
  refine done_ (by kernel_rfl) ?_
  go_wp2
  go_ret
  refine ⟨rfl, _, duo_unbox HH.out D4.out ?_⟩
  have := D4.out.back.size
  have := X4.out.lt
  omega
set_option maxRecDepth 100000 in
set_option maxHeartbeats 4000000 in
theorem step_k6 (w0 w : World) (F : Nat → Prop) (g : Nat) (G : Nat → Prop) (h : Nat) (s : DkS) (x : ActR) (H0 : DuoK w0 w F g G h s s) (hx : x.fits w0) (hk : amg x.kind 8 = 6) :
    Calls Tryd.prog 27 #[.pointer (some ⟨g, 0, none⟩), .pointer (some ⟨h, 0, none⟩), .agg #[.int .i64 x.kind, .string x.name, .string x.to, .int .i64 x.n, .slice x.DA x.D.length x.Dc]] w fun e w' => e = .returned (.bool true) ∧ ∃ s', DuoK w0 w' F g G h s' s' := by
  have HH := Lib.hid H0
  obtain ⟨hd, hxn0⟩ := duo_box H0 (.cells #[.int .i64 x.kind, .string x.name, .string x.to, .int .i64 x.n, .slice x.DA x.D.length x.Dc] 45)
  have D0 := Lib.hid hd
  have hxn := Lib.hid hxn0
  have X0 := Lib.hid (Blk.new w 45 #[.int .i64 x.kind, .string x.name, .string x.to, .int .i64 x.n, .slice x.DA x.D.length x.Dc])
  have hfn : x.name.size ≤ maxLen := by have := hx.name; simp only [maxLen]; omega
  have hft : x.to.size ≤ maxLen := by have := hx.to; simp only [maxLen]; omega
  have HFN := Lib.hid hfn
  have HFT := Lib.hid hft
  have HFT2 := Lib.hid hx.to
  have HN1 := Lib.hid hx.n1
  have HDS := Lib.hid hx.D
  have HDL := Lib.hid (show x.D.length ≤ 140737488351232 by have := hx.Dl; omega)
  have ham := among_calls x.kind 8 (w.alloc (.cells #[.int .i64 x.kind, .string x.name, .string x.to, .int .i64 x.n, .slice x.DA x.D.length x.Dc] 45)) (by decide) (by decide)
  rw [hk] at ham
  have hsz : (w.alloc (.cells #[.int .i64 x.kind, .string x.name, .string x.to, .int .i64 x.n, .slice x.DA x.D.length x.Dc] 45)).heap.size = w.heap.size + 1 := World.size_alloc ..
  have x0 := X0.out.cell 0
  clear H0 hd hxn0 hfn hft hx hk
  go_enter Tryd.func27, Tryd.ntmps27
  go_wp2_with (fail)
  generalize w.alloc (.cells #[.int .i64 x.kind, .string x.name, .string x.to, .int .i64 x.n, .slice x.DA x.D.length x.Dc] 45) = wa at *
  refine ham.mono ?_
  rintro e w1 ⟨rfl, hw⟩
  subst w1
  clear ham

  go_wp2_with (fail)
  refine start_ (n := 10) (S := fun w' => w'.cell? ⟨w.heap.size, 3, none⟩ = some (.int .i64 x.n)) (ds := []) #[false, false, false, false, false, false, false, false, false, false] (by kernel_rfl) rfl rfl (X0.out.cell 3) (fun hHeld => ?_)
  refine pure_ (i := 0) (N := some 103) (v := ?_) (a' := ?_) #[true, false, false, false, false, false, false, false, false, false] rfl rfl (by kernel_rfl) (fun _ _ _ h => h) (Or.inl ⟨by rfl, ?_⟩) ?_ ?_
  rotate_left
  · intro w'
    go_simp
    with_reducible rfl
  rotate_left
  · simp only [Act.put, List.setIfInBounds_toArray, List.set_cons_zero, List.set_cons_succ, i64_w, i32_w]
    rfl
  refine pure_ (i := 1) (N := some 104) (v := ?_) (a' := ?_) #[true, true, false, false, false, false, false, false, false, false] rfl rfl (by kernel_rfl) (fun _ _ _ h => h) (Or.inl ⟨by rfl, ?_⟩) ?_ ?_
  rotate_left
  · intro w'
    go_simp
    with_reducible rfl
  rotate_left
  · simp only [Act.put, List.setIfInBounds_toArray, List.set_cons_zero, List.set_cons_succ, i64_w, i32_w]
    rfl
  refine pure_ (i := 4) (N := some 107) (v := ?_) (a' := ?_) #[true, true, false, false, true, false, false, false, false, false] rfl rfl (by kernel_rfl) (fun _ _ _ h => h) (Or.inl ⟨by rfl, ?_⟩) ?_ ?_
  rotate_left
  · intro w'
    go_simp
    with_reducible rfl
  rotate_left
  · simp only [Act.put, List.setIfInBounds_toArray, List.set_cons_zero, List.set_cons_succ, i64_w, i32_w]
    rfl
  refine pure_ (i := 5) (N := some 108) (v := ?_) (a' := ?_) #[true, true, false, false, true, true, false, false, false, false] rfl rfl (by kernel_rfl) (fun _ _ _ h => h) (Or.inl ⟨by rfl, ?_⟩) ?_ ?_
  rotate_left
  · intro w'
    go_simp
    with_reducible rfl
  rotate_left
  · simp only [Act.put, List.setIfInBounds_toArray, List.set_cons_zero, List.set_cons_succ, i64_w, i32_w]
    rfl
  refine take_ (i := 2) (N := some 105) (v := ?_) (a' := ?_) #[true, true, true, false, true, true, false, false, false, false] rfl rfl (by kernel_rfl) (fun _ _ _ h => h) (Or.inl ⟨by rfl, ?_⟩) hHeld ?_ ?_
  rotate_left
  · intro w' s0
    go_simp
    with_reducible rfl
  rotate_left
  · simp only [Act.put, List.setIfInBounds_toArray, List.set_cons_zero, List.set_cons_succ, i64_w, i32_w]
    rfl
  refine take_ (i := 6) (N := some 109) (v := ?_) (a' := ?_) #[true, true, true, false, true, true, true, false, false, false] rfl rfl (by kernel_rfl) (fun _ _ _ h => h) (Or.inl ⟨by rfl, ?_⟩) hHeld ?_ ?_
  rotate_left
  · intro w' s0
    go_simp
    with_reducible rfl
  rotate_left
  · simp only [Act.put, List.setIfInBounds_toArray, List.set_cons_zero, List.set_cons_succ, i64_w, i32_w]
    rfl
  refine one_ (i := 3) (N := some 106) #[true, true, true, true, true, true, true, false, false, false] rfl rfl (by kernel_rfl) (by decide) (fun K hK => ?_)
  refine goes_ Tryd.func20 (by kernel_rfl) rfl #[.pointer (some ⟨g, 0, none⟩), .int .i64 x.n] (by rfl) rfl rfl (by simp only [List.map_toArray, List.map_cons, List.map_nil]; rfl) ?_
  with_reducible refine (D0.out.drew.fuse1 x.n HN1.out).mono ?_
  rintro e w3 ⟨rfl, h3, k3⟩
  refine ⟨_, rfl, ?_⟩
  have D3 := Lib.hid h3
  have X3 := Lib.hid (X0.out.drew.kept k3 hxn.out)
  clear h3 k3
  refine hK.out _ _ (X3.out.cell 3) (fun hHeld => ?_)
  clear hK K
  refine norm_ (a' := ?_) ?_ ?_
  rotate_left
  · show Act.put _ (some 106) _ = _
    simp only [Act.put, List.setIfInBounds_toArray, List.set_cons_zero, List.set_cons_succ, i64_w, i32_w]
    rfl
  refine one_ (i := 7) (N := some 110) #[true, true, true, true, true, true, true, true, false, false] rfl rfl (by kernel_rfl) (by decide) (fun K hK => ?_)
  refine goes_ Tryd.func42 (by kernel_rfl) rfl #[.pointer (some ⟨h, 0, none⟩), .int .i64 x.n] (by rfl) rfl rfl (by simp only [List.map_toArray, List.map_cons, List.map_nil]; rfl) ?_
  with_reducible refine (D3.out.fuse2 x.n HN1.out).mono ?_
  rintro e w4 ⟨rfl, h4, k4⟩
  refine ⟨_, rfl, ?_⟩
  have D4 := Lib.hid h4
  have X4 := Lib.hid (X3.out.kept k4 hxn.out)
  clear h4 k4
  refine hK.out _ _ (X4.out.cell 3) (fun hHeld => ?_)
  clear hK K
  refine norm_ (a' := ?_) ?_ ?_
  rotate_left
  · show Act.put _ (some 110) _ = _
    simp only [Act.put, List.setIfInBounds_toArray, List.set_cons_zero, List.set_cons_succ, i64_w, i32_w]
    rfl
  refine pure_ (i := 8) (N := some 111) (v := ?_) (a' := ?_) #[true, true, true, true, true, true, true, true, true, false] rfl rfl (by kernel_rfl) (fun _ _ _ h => h) (Or.inl ⟨by rfl, ?_⟩) ?_ ?_
  rotate_left
  · intro w'
    go_simp
    with_reducible rfl
  rotate_left
  · simp only [Act.put, List.setIfInBounds_toArray, List.set_cons_zero, List.set_cons_succ, i64_w, i32_w]
    rfl
  refine pure_ (i := 9) (N := some 6) (v := ?_) (a' := ?_) #[true, true, true, true, true, true, true, true, true, true] rfl rfl (by kernel_rfl) (fun _ _ _ h => h) (Or.inl ⟨by rfl, ?_⟩) ?_ ?_
  rotate_left
  · intro w'
    go_simp
    with_reducible rfl
  rotate_left
  · simp only [Act.put, List.setIfInBounds_toArray, List.set_cons_zero, List.set_cons_succ, i64_w, i32_w]
    rfl
  refine done_ (by kernel_rfl) ?_
  go_wp2
  go_ret
  refine ⟨rfl, _, duo_unbox HH.out D4.out ?_⟩
  have := D4.out.back.size
  have := X4.out.lt
  omega
set_option maxRecDepth 100000 in
set_option maxHeartbeats 4000000 in
theorem step_k7 (w0 w : World) (F : Nat → Prop) (g : Nat) (G : Nat → Prop) (h : Nat) (s : DkS) (x : ActR) (H0 : DuoK w0 w F g G h s s) (hx : x.fits w0) (hk : amg x.kind 8 = 7) :
    Calls Tryd.prog 27 #[.pointer (some ⟨g, 0, none⟩), .pointer (some ⟨h, 0, none⟩), .agg #[.int .i64 x.kind, .string x.name, .string x.to, .int .i64 x.n, .slice x.DA x.D.length x.Dc]] w fun e w' => e = .returned (.bool true) ∧ ∃ s', DuoK w0 w' F g G h s' s' := by
  have HH := Lib.hid H0
  obtain ⟨hd, hxn0⟩ := duo_box H0 (.cells #[.int .i64 x.kind, .string x.name, .string x.to, .int .i64 x.n, .slice x.DA x.D.length x.Dc] 45)
  have D0 := Lib.hid hd
  have hxn := Lib.hid hxn0
  have X0 := Lib.hid (Blk.new w 45 #[.int .i64 x.kind, .string x.name, .string x.to, .int .i64 x.n, .slice x.DA x.D.length x.Dc])
  have hfn : x.name.size ≤ maxLen := by have := hx.name; simp only [maxLen]; omega
  have hft : x.to.size ≤ maxLen := by have := hx.to; simp only [maxLen]; omega
  have HFN := Lib.hid hfn
  have HFT := Lib.hid hft
  have HFT2 := Lib.hid hx.to
  have HN1 := Lib.hid hx.n1
  have HDS := Lib.hid hx.D
  have HDL := Lib.hid (show x.D.length ≤ 140737488351232 by have := hx.Dl; omega)
  have ham := among_calls x.kind 8 (w.alloc (.cells #[.int .i64 x.kind, .string x.name, .string x.to, .int .i64 x.n, .slice x.DA x.D.length x.Dc] 45)) (by decide) (by decide)
  rw [hk] at ham
  have hsz : (w.alloc (.cells #[.int .i64 x.kind, .string x.name, .string x.to, .int .i64 x.n, .slice x.DA x.D.length x.Dc] 45)).heap.size = w.heap.size + 1 := World.size_alloc ..
  have x0 := X0.out.cell 0
  clear H0 hd hxn0 hfn hft hx hk
  go_enter Tryd.func27, Tryd.ntmps27
  go_wp2_with (fail)
  generalize w.alloc (.cells #[.int .i64 x.kind, .string x.name, .string x.to, .int .i64 x.n, .slice x.DA x.D.length x.Dc] 45) = wa at *
  refine ham.mono ?_
  rintro e w1 ⟨rfl, hw⟩
  subst w1
  clear ham

  go_wp2_with (fail)
  refine start_ (n := 10) (S := fun w' => w'.cell? ⟨w.heap.size, 4, none⟩ = some (.slice x.DA x.D.length x.Dc)) (ds := []) #[false, false, false, false, false, false, false, false, false, false] (by kernel_rfl) rfl rfl (X0.out.cell 4) (fun hHeld => ?_)
  refine pure_ (i := 0) (N := some 112) (v := ?_) (a' := ?_) #[true, false, false, false, false, false, false, false, false, false] rfl rfl (by kernel_rfl) (fun _ _ _ h => h) (Or.inl ⟨by rfl, ?_⟩) ?_ ?_
  rotate_left
  · intro w'
    go_simp
    with_reducible rfl
  rotate_left
  · simp only [Act.put, List.setIfInBounds_toArray, List.set_cons_zero, List.set_cons_succ, i64_w, i32_w]
    rfl
  refine pure_ (i := 1) (N := some 113) (v := ?_) (a' := ?_) #[true, true, false, false, false, false, false, false, false, false] rfl rfl (by kernel_rfl) (fun _ _ _ h => h) (Or.inl ⟨by rfl, ?_⟩) ?_ ?_
  rotate_left
  · intro w'
    go_simp
    with_reducible rfl
  rotate_left
  · simp only [Act.put, List.setIfInBounds_toArray, List.set_cons_zero, List.set_cons_succ, i64_w, i32_w]
    rfl
  refine pure_ (i := 4) (N := some 116) (v := ?_) (a' := ?_) #[true, true, false, false, true, false, false, false, false, false] rfl rfl (by kernel_rfl) (fun _ _ _ h => h) (Or.inl ⟨by rfl, ?_⟩) ?_ ?_
  rotate_left
  · intro w'
    go_simp
    with_reducible rfl
  rotate_left
  · simp only [Act.put, List.setIfInBounds_toArray, List.set_cons_zero, List.set_cons_succ, i64_w, i32_w]
    rfl
  refine pure_ (i := 5) (N := some 117) (v := ?_) (a' := ?_) #[true, true, false, false, true, true, false, false, false, false] rfl rfl (by kernel_rfl) (fun _ _ _ h => h) (Or.inl ⟨by rfl, ?_⟩) ?_ ?_
  rotate_left
  · intro w'
    go_simp
    with_reducible rfl
  rotate_left
  · simp only [Act.put, List.setIfInBounds_toArray, List.set_cons_zero, List.set_cons_succ, i64_w, i32_w]
    rfl
  refine take_ (i := 2) (N := some 114) (v := ?_) (a' := ?_) #[true, true, true, false, true, true, false, false, false, false] rfl rfl (by kernel_rfl) (fun _ _ _ h => h) (Or.inl ⟨by rfl, ?_⟩) hHeld ?_ ?_
  rotate_left
  · intro w' s0
    go_simp
    with_reducible rfl
  rotate_left
  · simp only [Act.put, List.setIfInBounds_toArray, List.set_cons_zero, List.set_cons_succ, i64_w, i32_w]
    rfl
  refine take_ (i := 6) (N := some 118) (v := ?_) (a' := ?_) #[true, true, true, false, true, true, true, false, false, false] rfl rfl (by kernel_rfl) (fun _ _ _ h => h) (Or.inl ⟨by rfl, ?_⟩) hHeld ?_ ?_
  rotate_left
  · intro w' s0
    go_simp
    with_reducible rfl
  rotate_left
  · simp only [Act.put, List.setIfInBounds_toArray, List.set_cons_zero, List.set_cons_succ, i64_w, i32_w]
    rfl
  refine one_ (i := 3) (N := some 115) #[true, true, true, true, true, true, true, false, false, false] rfl rfl (by kernel_rfl) (by decide) (fun K hK => ?_)
  refine goes_ Tryd.func15 (by kernel_rfl) rfl #[.pointer (some ⟨g, 0, none⟩), .slice x.DA x.D.length x.Dc] (by rfl) rfl rfl (by simp only [List.map_toArray, List.map_cons, List.map_nil]; rfl) ?_
  with_reducible refine (D0.out.drew.crash1 x.DA x.D x.Dc HDS.out HDL.out).mono ?_
  rintro e w3 ⟨rfl, h3, k3⟩
  refine ⟨_, rfl, ?_⟩
  have D3 := Lib.hid h3
  have X3 := Lib.hid (X0.out.drew.kept k3 hxn.out)
  clear h3 k3
  refine hK.out _ _ (X3.out.cell 4) (fun hHeld => ?_)
  clear hK K
  refine norm_ (a' := ?_) ?_ ?_
  rotate_left
  · show Act.put _ (some 115) _ = _
    simp only [Act.put, List.setIfInBounds_toArray, List.set_cons_zero, List.set_cons_succ, i64_w, i32_w]
    rfl
  refine one_ (i := 7) (N := some 119) #[true, true, true, true, true, true, true, true, false, false] rfl rfl (by kernel_rfl) (by decide) (fun K hK => ?_)
  refine goes_ Tryd.func43 (by kernel_rfl) rfl #[.pointer (some ⟨h, 0, none⟩), .slice x.DA x.D.length x.Dc] (by rfl) rfl rfl (by simp only [List.map_toArray, List.map_cons, List.map_nil]; rfl) ?_
  with_reducible refine (D3.out.crash2 x.DA x.D x.Dc HDS.out HDL.out).mono ?_
  rintro e w4 ⟨rfl, h4, k4⟩
  refine ⟨_, rfl, ?_⟩
  have D4 := Lib.hid h4
  have X4 := Lib.hid (X3.out.kept k4 hxn.out)
  clear h4 k4
  refine hK.out _ _ (X4.out.cell 4) (fun hHeld => ?_)
  clear hK K
  refine norm_ (a' := ?_) ?_ ?_
  rotate_left
  · show Act.put _ (some 119) _ = _
    simp only [Act.put, List.setIfInBounds_toArray, List.set_cons_zero, List.set_cons_succ, i64_w, i32_w]
    rfl
  refine pure_ (i := 8) (N := some 120) (v := ?_) (a' := ?_) #[true, true, true, true, true, true, true, true, true, false] rfl rfl (by kernel_rfl) (fun _ _ _ h => h) (Or.inl ⟨by rfl, ?_⟩) ?_ ?_
  rotate_left
  · intro w'
    go_simp
    with_reducible rfl
  rotate_left
  · simp only [Act.put, List.setIfInBounds_toArray, List.set_cons_zero, List.set_cons_succ, i64_w, i32_w]
    rfl
  refine pure_ (i := 9) (N := some 6) (v := ?_) (a' := ?_) #[true, true, true, true, true, true, true, true, true, true] rfl rfl (by kernel_rfl) (fun _ _ _ h => h) (Or.inl ⟨by rfl, ?_⟩) ?_ ?_
  rotate_left
  · intro w'
    go_simp
    with_reducible rfl
  rotate_left
  · simp only [Act.put, List.setIfInBounds_toArray, List.set_cons_zero, List.set_cons_succ, i64_w, i32_w]
    rfl
  refine done_ (by kernel_rfl) ?_
  go_wp2
  go_ret
  refine ⟨rfl, _, duo_unbox HH.out D4.out ?_⟩
  have := D4.out.back.size
  have := X4.out.lt
  omega
set_option maxRecDepth 100000 in
set_option maxHeartbeats 4000000 in
theorem step_k2 (w0 w : World) (F : Nat → Prop) (g : Nat) (G : Nat → Prop) (h : Nat) (s : DkS) (x : ActR) (H0 : DuoK w0 w F g G h s s) (hx : x.fits w0) (hk : amg x.kind 8 = 2) :
    Calls Tryd.prog 27 #[.pointer (some ⟨g, 0, none⟩), .pointer (some ⟨h, 0, none⟩), .agg #[.int .i64 x.kind, .string x.name, .string x.to, .int .i64 x.n, .slice x.DA x.D.length x.Dc]] w fun e w' => e = .returned (.bool true) ∧ ∃ s', DuoK w0 w' F g G h s' s' := by
  have HH := Lib.hid H0
  obtain ⟨hd, hxn0⟩ := duo_box H0 (.cells #[.int .i64 x.kind, .string x.name, .string x.to, .int .i64 x.n, .slice x.DA x.D.length x.Dc] 45)
  have D0 := Lib.hid hd
  have hxn := Lib.hid hxn0
  have X0 := Lib.hid (Blk.new w 45 #[.int .i64 x.kind, .string x.name, .string x.to, .int .i64 x.n, .slice x.DA x.D.length x.Dc])
  have hfn : x.name.size ≤ maxLen := by have := hx.name; simp only [maxLen]; omega
  have hft : x.to.size ≤ maxLen := by have := hx.to; simp only [maxLen]; omega
  have HFN := Lib.hid hfn
  have HFT := Lib.hid hft
  have HFT2 := Lib.hid hx.to
  have HN1 := Lib.hid hx.n1
  have HDS := Lib.hid hx.D
  have HDL := Lib.hid (show x.D.length ≤ 140737488351232 by have := hx.Dl; omega)
  have ham := among_calls x.kind 8 (w.alloc (.cells #[.int .i64 x.kind, .string x.name, .string x.to, .int .i64 x.n, .slice x.DA x.D.length x.Dc] 45)) (by decide) (by decide)
  rw [hk] at ham
  have hsz : (w.alloc (.cells #[.int .i64 x.kind, .string x.name, .string x.to, .int .i64 x.n, .slice x.DA x.D.length x.Dc] 45)).heap.size = w.heap.size + 1 := World.size_alloc ..
  have x0 := X0.out.cell 0
  clear H0 hd hxn0 hfn hft hx hk
  go_enter Tryd.func27, Tryd.ntmps27
  go_wp2_with (fail)
  generalize w.alloc (.cells #[.int .i64 x.kind, .string x.name, .string x.to, .int .i64 x.n, .slice x.DA x.D.length x.Dc] 45) = wa at *
  refine ham.mono ?_
  rintro e w1 ⟨rfl, hw⟩
  subst w1
  clear ham

  go_wp2_with (fail)
  refine D0.out.sync1.mono ?_
  rintro e w3 ⟨rfl, h3, k3⟩
  have D3 := Lib.hid h3
  have X3 := Lib.hid (X0.out.kept k3 hxn.out)
  clear h3 k3
  go_wp2_with (fail)
  refine D3.out.sync2.mono ?_
  rintro e w4 ⟨rfl, h4, k4⟩
  have D4 := Lib.hid h4
  have X4 := Lib.hid (X3.out.kept k4 hxn.out)
  clear h4 k4
  go_wp2
  go_ret
  refine ⟨rfl, _, duo_unbox HH.out D4.out ?_⟩
  have := D4.out.back.size
  have := X4.out.lt
  omega
set_option maxRecDepth 100000 in
set_option maxHeartbeats 4000000 in
theorem step_k5 (w0 w : World) (F : Nat → Prop) (g : Nat) (G : Nat → Prop) (h : Nat) (s : DkS) (x : ActR) (H0 : DuoK w0 w F g G h s s) (hx : x.fits w0) (hk : amg x.kind 8 = 5) :
    Calls Tryd.prog 27 #[.pointer (some ⟨g, 0, none⟩), .pointer (some ⟨h, 0, none⟩), .agg #[.int .i64 x.kind, .string x.name, .string x.to, .int .i64 x.n, .slice x.DA x.D.length x.Dc]] w fun e w' => e = .returned (.bool true) ∧ ∃ s', DuoK w0 w' F g G h s' s' := by
  have HH := Lib.hid H0
  obtain ⟨hd, hxn0⟩ := duo_box H0 (.cells #[.int .i64 x.kind, .string x.name, .string x.to, .int .i64 x.n, .slice x.DA x.D.length x.Dc] 45)
  have D0 := Lib.hid hd
  have hxn := Lib.hid hxn0
  have X0 := Lib.hid (Blk.new w 45 #[.int .i64 x.kind, .string x.name, .string x.to, .int .i64 x.n, .slice x.DA x.D.length x.Dc])
  have hfn : x.name.size ≤ maxLen := by have := hx.name; simp only [maxLen]; omega
  have hft : x.to.size ≤ maxLen := by have := hx.to; simp only [maxLen]; omega
  have HFN := Lib.hid hfn
  have HFT := Lib.hid hft
  have HFT2 := Lib.hid hx.to
  have HN1 := Lib.hid hx.n1
  have HDS := Lib.hid hx.D
  have HDL := Lib.hid (show x.D.length ≤ 140737488351232 by have := hx.Dl; omega)
  have ham := among_calls x.kind 8 (w.alloc (.cells #[.int .i64 x.kind, .string x.name, .string x.to, .int .i64 x.n, .slice x.DA x.D.length x.Dc] 45)) (by decide) (by decide)
  rw [hk] at ham
  have hsz : (w.alloc (.cells #[.int .i64 x.kind, .string x.name, .string x.to, .int .i64 x.n, .slice x.DA x.D.length x.Dc] 45)).heap.size = w.heap.size + 1 := World.size_alloc ..
  have x0 := X0.out.cell 0
  clear H0 hd hxn0 hfn hft hx hk
  go_enter Tryd.func27, Tryd.ntmps27
  go_wp2_with (fail)
  generalize w.alloc (.cells #[.int .i64 x.kind, .string x.name, .string x.to, .int .i64 x.n, .slice x.DA x.D.length x.Dc] 45) = wa at *
  refine ham.mono ?_
  rintro e w1 ⟨rfl, hw⟩
  subst w1
  clear ham
  have b1 := X0.out.cell 1
  go_wp2_with (fail)
  refine (D0.out.read1 x.name HFN.out).mono ?_
  rintro e w3 ⟨rfl, h3, k3⟩
  have D3 := Lib.hid h3
  have X3 := Lib.hid (X0.out.kept (Kept.of_below k3 fun _ => False) (fun h => h))
  clear h3 k3
  have b1 := X3.out.cell 1
  go_wp2_with (fail)
  refine (D3.out.read2 x.name HFN.out).mono ?_
  rintro e w4 ⟨rfl, h4, k4⟩
  have D4 := Lib.hid h4
  have X4 := Lib.hid (X3.out.kept (Kept.of_below k4 fun _ => False) (fun h => h))
  clear h4 k4
  go_wp2
  go_ret
  refine ⟨rfl, _, duo_unbox HH.out D4.out ?_⟩
  have := D4.out.back.size
  have := X4.out.lt
  omega
end Go.Proofs.YtaghdopickgpgaaDoor
