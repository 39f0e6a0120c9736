import Derived.Test.YtpimpdgibcjbeaaRlO
import Derived.Test.YtpimpdgibcjbeaaWLast
namespace Go.Proofs.Ytpimpdgibcjbeaa
open Go Go.RowKit
open Go.Proofs.YtpimpdgibcjbeaaW.PrintLast
set_option linter.unusedVariables false
set_option linter.unusedSimpArgs false

theorem one_ent : ∀ x : Ent, ∀ u ∈ Ent.cells x, u.oneCell' = true := fun x u hu => by simp [Ent.cells] at hu; rcases hu with rfl | rfl <;> rfl
theorem flat_take (l : List Ent) (n t : Nat) (u : Value) (h : ((l.take n).flatMap Ent.cells)[t]? = some u) : (l.flatMap Ent.cells)[t]? = some u := by
  have := flat_cut l 0 n t u (by rw [List.drop_zero]; exact h)
  simpa using this
set_option maxRecDepth 100000 in
set_option maxHeartbeats 4000000 in
theorem log_merge_ok (F : Nat → Prop) (g : Nat) (s : LogS) (prev term : Int) (v : Value) (l : List Ent) (a : Nat) (w : World) (h : LogAt w F g s) (hb0 : 0 ≤ s.base) (hl : s.base + s.l.length ≤ 1048576) (ha : prev = s.base + a) (hal : a ≤ s.l.length)
    (ht : s.termAt prev = (term, 0)) (hwr : wrongE prev term l = 0) (hS : Seg w Ent.cells v l) (hll : prev + l.length ≤ 1048576) :
    Calls Try.prog 17 #[.pointer (some ⟨g, 0, none⟩), .int .i64 prev, .int .i64 term, v] w fun e w' => e = .returned (.tuple #[.int .i64 (s.merge prev term l).2.1, .int .i64 (s.merge prev term l).2.2.1, .int .i64 (s.merge prev term l).2.2.2]) ∧ LogPost w F g (s.merge prev term l).1 w' := by
  have hT := log_term F g s prev w h hb0 (by omega) (by omega)
  rw [ht] at hT
  have hM := Lib.hid (show s.merge prev term l = if agree (s.l.drop a) l = l.length then (s, prev + l.length, 0, 0) else (⟨s.base, s.term, s.l.take (a + agree (s.l.drop a) l) ++ l.drop (agree (s.l.drop a) l)⟩, prev + l.length, max 0 ((s.l.length : Int) - a - agree (s.l.drop a) l), 0) by
    unfold LogS.merge
    rw [ht, if_neg (by simp), if_neg (by simp), if_neg (by rw [hwr]; simp), show (prev - s.base).toNat = a by omega])
  obtain ⟨R, hR⟩ : ∃ R, s.merge prev term l = R := ⟨_, rfl⟩
  rw [hR] at hM ⊢
  clear hR
  obtain ⟨A, c, rfl, hlc, hcm⟩ := hS.shape
  have HS := Lib.hid hS
  have H := Lib.hid h
  have hW := wrong_calls prev term (.slice A l.length c) l
  rw [hwr] at hW
  have hp0 : 0 ≤ prev ∧ prev ≤ 1048576 := by omega
  have HP := Lib.hid hp0
  have HA := Lib.hid (show (a : Int) ≤ prev by omega)
  have HLL := Lib.hid hll
  have hcm2 : c ≤ 9223372036854775807 := by unfold maxLen at hcm; omega
  have hwa : IntKind.i64.wrap (prev - s.base) = (a : Int) := by rw [IntKind.wrap_i64]; omega
  have hwp : IntKind.i64.wrap (prev + (l.length : Int)) = prev + (l.length : Int) := by rw [IntKind.wrap_i64]; omega
  obtain ⟨N, hN⟩ : ∃ N, s.l.length = N := ⟨_, rfl⟩
  have HN := Lib.hid hN
  have hNb : N ≤ 1048576 := by omega
  rw [hN] at hal
  clear h hS ht hwr ha hll hp0 hcm hl
  go_enter Try.func17, Try.ntmps17
  go_wp2_with (fail)
  refine hT.mono ?_
  rintro e w2 ⟨rfl, hb2⟩
  have HB2 := Lib.hid hb2
  clear hT hb2
  go_wp2_with (fail)
  refine (hW w2 HP.out (HS.out.below HB2.out) (by have := HLL.out; have := HP.out; omega)).mono ?_
  rintro e w3 ⟨rfl, hb3⟩
  have HB3 := Lib.hid (below_next HB2.out hb3)
  clear hW hb3
  have hL3 := H.out.below HB3.out
  obtain ⟨vl, hb, h1, hg, f1⟩ := hL3
  obtain ⟨A1, c1, rfl⟩ := h1.shape
  rw [hN] at hb
  have HB := Lib.hid hb
  have H1 := Lib.hid h1
  have b0 := hb.cell 0
  clear hb h1 hN
  go_wp2_with (fail)
  go_loopg [9, 45] l.length (fun gg s9 s45 wr => ∃ k : Nat, k ≤ l.length ∧ l.length - k ≤ gg ∧ s9 = .int .i64 0 ∧ s45 = .int .i64 k ∧ a + k ≤ N ∧ Hid (Below w3.heap.size w3 wr) ∧ Hid (agree (s.l.drop a) l = k + agree (s.l.drop (a + k)) (l.drop k)))
  case atStart => exact ⟨0, Nat.zero_le _, by omega, rfl, rfl, by omega, Lib.hid (Below.refl _ _), Lib.hid (by simp)⟩
  case round =>
    obtain ⟨k, hk, hg', rfl, rfl, hak, HBr, HI⟩ := hrel
    by_cases hlt : k < l.length
    · obtain ⟨ge, ce, hv, hce, hcem⟩ := HS.out.form (by omega)
      injection hv with hA _ hc
      subst hA hc
      have r := (HS.out.below HB3.out).below HBr.out
      have x0 := r.cell (sz := 2) (fun _ => rfl) k 0 hlt (by omega)
      have x1 := r.cell (sz := 2) (fun _ => rfl) k 1 hlt (by omega)
      have hge : ge < wr.heap.size := World.block_lt_of_cell? _ _ (x0.trans (by rfl))
      have hBr := HB.out.kept (Kept.of_below HBr.out fun _ => False) (fun h => h)
      have HRr := Lib.hid (H1.out.kept (Kept.of_below HBr.out fun _ => False) (fun _ _ h => h))
      have HBg := Lib.hid hBr
      have HSr := Lib.hid r
      have b0r := hBr.cell 0
      have b2r := hBr.cell 2
      have hgr := hBr.lt
      have HX := Lib.hid (show l[k]? = some l[k] from List.getElem?_eq_getElem hlt)
      have hcem2 : c ≤ 9223372036854775807 := hcm2
      have hkc : (k : Int) ≤ (c : Int) := by omega
      have hck : ¬ c = k := by omega
      clear r hBr hce hcem
      generalize l[k] = x at *
      simp only [Ent.cells, List.getElem?_cons_zero, List.getElem?_cons_succ, Nat.add_zero, Nat.mul_one] at x0 x1
      have hltz : (k : Int) < (l.length : Int) := by omega
      by_cases hin : a + k < N
      · obtain ⟨gb, c', hv, hgb, hcb⟩ := HRr.out.form (by rw [HN.out]; omega)
        injection hv with hA _ hc
        subst hA hc
        have y0 := HRr.out.cell (fun _ => rfl) (a + k) 0 (by rw [HN.out]; exact hin) (by omega)
        have HY := Lib.hid (show s.l[a + k]? = some (s.l[a + k]'(by rw [HN.out]; exact hin)) from List.getElem?_eq_getElem _)
        generalize s.l[a + k]'(by rw [HN.out]; exact hin) = y at *
        simp only [Ent.cells, List.getElem?_cons_zero, List.getElem?_cons_succ, Nat.add_zero, Nat.mul_one] at y0
        have hinz : (a : Int) + (k : Int) < (N : Int) := by omega
        have hwk : IntKind.i64.wrap ((a : Int) + (k : Int)) = ((a + k : Nat) : Int) := by rw [IntKind.wrap_i64]; omega
        by_cases hxy : y.term = x.term
        · have HNx := Lib.hid (show agree (s.l.drop (a + k)) (l.drop k) = agree (s.l.drop (a + (k + 1))) (l.drop (k + 1)) + 1 by
            have := agree_step (s.l.drop a) l k y x (by rw [List.getElem?_drop]; exact HY.out) HX.out
            rw [List.drop_drop, List.drop_drop, if_pos hxy] at this
            exact this)
          clear hcb
          go_wp2_with (fail)
          go_quiet (fail)
          go_wp2
          go_roundg (l.length - (k + 1))
          case measure => omega
          case rel => exact ⟨k + 1, by omega, Nat.le_refl _, rfl, by go_num, by omega, Lib.hid (pw_drewN (HBr.out.alloc HBr.out.size _) _), Lib.hid (by rw [HI.out, HNx.out]; omega)⟩
        · have HNx := Lib.hid (show agree (s.l.drop a) l = k by
            have := agree_step (s.l.drop a) l k y x (by rw [List.getElem?_drop]; exact HY.out) HX.out
            rw [List.drop_drop, if_neg hxy] at this
            rw [HI.out, this]; rfl)
          have HR := Lib.hid (show R = (⟨s.base, s.term, s.l.take (a + k) ++ l.drop k⟩, prev + l.length, ((N - a - k : Nat) : Int), 0) by
            rw [hM.out, HNx.out, if_neg (by omega), HN.out, show max 0 ((N : Int) - a - k) = ((N - a - k : Nat) : Int) by omega])
          have hwl : IntKind.i64.wrap ((N : Int) - (a : Int)) = ((N - a : Nat) : Int) := by rw [IntKind.wrap_i64]; omega
          have hwm : IntKind.i64.wrap (((N - a : Nat) : Int) - (k : Int)) = ((N - a - k : Nat) : Int) := by rw [IntKind.wrap_i64]; omega
          have hcb2 : N ≤ c1 := by rw [← HN.out]; exact hcb
          have hcb3 : c1 ≤ 9223372036854775807 := by
            rcases HRr.out.2 with ⟨h, _⟩ | ⟨_, _, _, h, _, _, _, hm, _⟩
            · simp at h
            · simp only [Value.slice.injEq] at h; rw [h.2.2]; unfold maxLen at hm; omega
          have hnc0 : (0 : Int) ≤ (a : Int) + (k : Int) := by omega
          have hnc : (a : Int) + (k : Int) ≤ (c1 : Int) := by omega
          have hnt : ((a : Int) + (k : Int)).toNat = a + k := by omega
          have hold := Lib.hid (show ∀ t u, ((s.l.take (a + k)).flatMap Ent.cells)[t]? = some u → (wr.alloc (.cells #[.int .i64 x.term, .string x.data] 44)).cell? ⟨gb, t, none⟩ = some u from fun t u hu => by
            have := HRr.out.news t u (flat_take _ _ _ _ hu)
            rw [addr0] at this
            rw [World.cell?_alloc_lt _ _ _ (by exact hgb)]
            exact this)
          clear hM hcb
          have hdl := Lib.hid (show (l.drop k).length = l.length - k from List.length_drop ..)
          have hle := Lib.hid (show ((a + k) + (l.length - k)) * 24 ≤ 140737488355328 by have := HLL.out; have := HP.out; have := HA.out; omega)
          have hno := Lib.hid (show (s.l.take (a + k)).length = a + k by rw [List.length_take, HN.out]; omega)
          have hne := Lib.hid (show ∀ t u, ((l.drop k).flatMap Ent.cells)[t]? = some u → ((wr.alloc (.cells #[.int .i64 x.term, .string x.data] 44)).cell? ((⟨ge, k * 2, none⟩ : Addr).add t) = some u) from fun t u hu => by
            have h2 := HSr.out
            have h3 : (l.flatMap Ent.cells)[k * 2 + t]? = some u := flat_cut l k l.length t u (by rw [List.take_of_length_le (by rw [List.length_drop]; omega)]; exact hu)
            obtain ⟨A', c', hv, _, _, h4⟩ := h2
            obtain ⟨g', hA', hcell⟩ := h4 (by omega)
            simp only [Value.slice.injEq] at hv
            rw [← hv.1] at hA'
            simp only [Option.some.injEq, Addr.mk.injEq, and_true] at hA'
            have h5 := hcell _ _ h3
            rw [← hA'] at h5
            rw [Addr.add_lit, World.cell?_alloc_lt _ _ _ (by exact hge)]
            exact h5)
          go_wp2_with (fail)
          go_quiet (fail)
          go_wp2_with (fail)
          have JB := Lib.hid (show ∀ nq, Blk ((wr.alloc (.cells #[.int .i64 x.term, .string x.data] 44)).drewN nq) g 62 #[.int .i64 s.base, .int .i64 s.term, .slice (some ⟨gb, 0, none⟩) N c1] from fun nq => (HBg.out.alloc _).drewN nq)
          refine start_ (n := 17) (S := fun w' => w'.cell? ⟨g, 2, none⟩ = some (.slice (some ⟨gb, 0, none⟩) N c1)) (ds := [16]) #[false, false, false, false, false, false, false, false, false, false, false, false, false, false, false, false, false] (by kernel_rfl) rfl rfl ((JB.out _).drew.cell 2) (fun hHeld => ?_)
          refine pure_ (i := 0) (N := some 84) (v := ?_) (a' := ?_) #[true, false, false, false, false, false, false, false, false, false, false, false, false, false, false, false, false] rfl rfl (by kernel_rfl) (fun _ _ _ h => h) (Or.inl ⟨by rfl, ?_⟩) ?_ ?_
          rotate_left
          · intro w'
            go_simp
            with_reducible rfl
          rotate_left
          · simp only [Act.put, List.setIfInBounds_toArray, List.set_cons_zero, List.set_cons_succ, i64_w, i32_w]
            rfl
          refine pure_ (i := 1) (N := some 85) (v := ?_) (a' := ?_) #[true, true, false, false, false, false, false, false, false, false, false, false, false, false, false, false, false] rfl rfl (by kernel_rfl) (fun _ _ _ h => h) (Or.inl ⟨by rfl, ?_⟩) ?_ ?_
          rotate_left
          · intro w'
            go_simp
            with_reducible rfl
          rotate_left
          · simp only [Act.put, List.setIfInBounds_toArray, List.set_cons_zero, List.set_cons_succ, i64_w, i32_w]
            rfl
          refine pure_ (i := 2) (N := some 86) (v := ?_) (a' := ?_) #[true, true, true, false, false, false, false, false, false, false, false, false, false, false, false, false, false] rfl rfl (by kernel_rfl) (fun _ _ _ h => h) (Or.inl ⟨by rfl, ?_⟩) ?_ ?_
          rotate_left
          · intro w'
            go_simp
            with_reducible rfl
          rotate_left
          · simp only [Act.put, List.setIfInBounds_toArray, List.set_cons_zero, List.set_cons_succ, i64_w, i32_w]
            rfl
          refine pure_ (i := 3) (N := some 87) (v := ?_) (a' := ?_) #[true, true, true, true, false, false, false, false, false, false, false, false, false, false, false, false, false] rfl rfl (by kernel_rfl) (fun _ _ _ h => h) (Or.inl ⟨by rfl, ?_⟩) ?_ ?_
          rotate_left
          · intro w'
            go_simp
            with_reducible rfl
          rotate_left
          · simp only [Act.put, List.setIfInBounds_toArray, List.set_cons_zero, List.set_cons_succ, i64_w, i32_w]
            rfl
          refine pure_ (i := 5) (N := some 89) (v := ?_) (a' := ?_) #[true, true, true, true, false, true, false, false, false, false, false, false, false, false, false, false, false] rfl rfl (by kernel_rfl) (fun _ _ _ h => h) (Or.inl ⟨by rfl, ?_⟩) ?_ ?_
          rotate_left
          · intro w'
            go_simp
            with_reducible rfl
          rotate_left
          · simp only [Act.put, List.setIfInBounds_toArray, List.set_cons_zero, List.set_cons_succ, i64_w, i32_w]
            rfl
          refine pure_ (i := 6) (N := some 90) (v := ?_) (a' := ?_) #[true, true, true, true, false, true, true, false, false, false, false, false, false, false, false, false, false] rfl rfl (by kernel_rfl) (fun _ _ _ h => h) (Or.inl ⟨by rfl, ?_⟩) ?_ ?_
          rotate_left
          · intro w'
            go_simp
            with_reducible rfl
          rotate_left
          · simp only [Act.put, List.setIfInBounds_toArray, List.set_cons_zero, List.set_cons_succ, i64_w, i32_w]
            rfl
          refine pure_ (i := 7) (N := some 91) (v := ?_) (a' := ?_) #[true, true, true, true, false, true, true, true, false, false, false, false, false, false, false, false, false] rfl rfl (by kernel_rfl) (fun _ _ _ h => h) (Or.inl ⟨by rfl, ?_⟩) ?_ ?_
          rotate_left
          · intro w'
            go_simp
            with_reducible rfl
          rotate_left
          · simp only [Act.put, List.setIfInBounds_toArray, List.set_cons_zero, List.set_cons_succ, i64_w, i32_w]
            rfl
          refine pure_ (i := 10) (N := some 94) (v := ?_) (a' := ?_) #[true, true, true, true, false, true, true, true, false, false, true, false, false, false, false, false, false] rfl rfl (by kernel_rfl) (fun _ _ _ h => h) (Or.inl ⟨by rfl, ?_⟩) ?_ ?_
          rotate_left
          · intro w'
            go_simp
            with_reducible rfl
          rotate_left
          · simp only [Act.put, List.setIfInBounds_toArray, List.set_cons_zero, List.set_cons_succ, i64_w, i32_w]
            rfl
          refine pure_ (i := 11) (N := some 95) (v := ?_) (a' := ?_) #[true, true, true, true, false, true, true, true, false, false, true, true, false, false, false, false, false] rfl rfl (by kernel_rfl) (fun _ _ _ h => h) (Or.inl ⟨by rfl, ?_⟩) ?_ ?_
          rotate_left
          · intro w'
            go_simp
            with_reducible rfl
          rotate_left
          · simp only [Act.put, List.setIfInBounds_toArray, List.set_cons_zero, List.set_cons_succ, i64_w, i32_w]
            rfl
          refine pure_ (i := 12) (N := some 96) (v := ?_) (a' := ?_) #[true, true, true, true, false, true, true, true, false, false, true, true, true, false, false, false, false] rfl rfl (by kernel_rfl) (fun _ _ _ h => h) (Or.inl ⟨by rfl, ?_⟩) ?_ ?_
          rotate_left
          · intro w'
            go_simp
            with_reducible rfl
          rotate_left
          · simp only [Act.put, List.setIfInBounds_toArray, List.set_cons_zero, List.set_cons_succ, i64_w, i32_w]
            rfl
          refine take_ (i := 4) (N := some 88) (v := ?_) (a' := ?_) #[true, true, true, true, true, true, true, true, false, false, true, true, true, false, false, false, false] rfl rfl (by kernel_rfl) (fun _ _ _ h => h) (Or.inl ⟨by rfl, ?_⟩) hHeld ?_ ?_
          rotate_left
          · intro w' s0
            go_simp
            with_reducible rfl
          rotate_left
          · simp only [Act.put, List.setIfInBounds_toArray, List.set_cons_zero, List.set_cons_succ, i64_w, i32_w]
            rfl
          refine pure_ (i := 8) (N := some 92) (v := ?_) (a' := ?_) #[true, true, true, true, true, true, true, true, true, false, true, true, true, false, false, false, false] rfl rfl (by kernel_rfl) (fun _ _ _ h => h) (Or.inl ⟨by rfl, ?_⟩) ?_ ?_
          rotate_left
          · intro w'
            go_simp
            with_reducible rfl
          rotate_left
          · simp only [Act.put, List.setIfInBounds_toArray, List.set_cons_zero, List.set_cons_succ, i64_w, i32_w]
            rfl
          refine one_ (i := 9) (N := some 93) #[true, true, true, true, true, true, true, true, true, true, true, true, true, false, false, false, false] rfl rfl (by kernel_rfl) (by decide) (fun K hK => ?_)
          refine goes_ Try.func31 (by kernel_rfl) rfl #[.slice (some ⟨gb, 0, none⟩) (a + k) c1] (by rfl) rfl rfl (by simp only [List.map_toArray, List.map_cons, List.map_nil]; rfl) ?_
          with_reducible refine (clip_calls _ _ _ _ (by omega) (by omega)).mono ?_
          rintro e w3 ⟨rfl, hw3⟩
          refine ⟨_, rfl, ?_⟩
          obtain rfl := hw3
          refine hK.out _ _ ((JB.out _).drew.cell 2) (fun hHeld => ?_)
          clear hK K
          refine norm_ (a' := ?_) ?_ ?_
          rotate_left
          · show Act.put _ (some 93) _ = _
            simp only [Act.put, List.setIfInBounds_toArray, List.set_cons_zero, List.set_cons_succ, i64_w, i32_w]
            rfl
          refine one_ (i := 13) (N := some 97) #[true, true, true, true, true, true, true, true, true, true, true, true, true, true, false, false, false] rfl rfl (by kernel_rfl) (by decide) (fun K hK => ?_)
          refine full_append_step (by rfl) (.tmp 93) (.tmp 96) 36 44 (.agg #[.int .i64 0, .string ⟨#[]⟩]) 2 24 (by rfl) Try.underlying36 info_entries rfl (by decide) (by decide) (some ⟨gb, 0, none⟩) (a + k) (s.l.take (a + k)) (l.drop k) (by rfl) ⟨ge, k * 2, none⟩ (l.length - k) (c - k) (by rfl) (.inr ⟨gb, rfl, fun t u hu => hold.out t u hu⟩) hno.out hdl.out (by omega) (fun _ => rfl) (fun t u hu => hne.out t u hu) one_ent hle.out ?_
          intro v6 w6 hR hG hO
          obtain ⟨A6, m6, c6, rfl⟩ := hR.some_slice
          have J6 := Lib.hid ((JB.out _).drew.grown hG (by simp))
          have R6 := Lib.hid hR
          have G6 := Lib.hid hG
          have V6 := Lib.hid hO
          have d2 := J6.out.cell 2
          have d2f := J6.out.frozen 2
          clear hR hG hO
          refine hK.out _ _ (J6.out.cell 2) (fun hHeld => ?_)
          clear hK K
          refine norm_ (a' := ?_) ?_ ?_
          rotate_left
          · show Act.put _ (some 97) _ = _
            simp only [Act.put, List.setIfInBounds_toArray, List.set_cons_zero, List.set_cons_succ, i64_w, i32_w]
            rfl
          refine pure_ (i := 14) (N := some 98) (v := ?_) (a' := ?_) #[true, true, true, true, true, true, true, true, true, true, true, true, true, true, true, false, false] rfl rfl (by kernel_rfl) (fun _ _ _ h => h) (Or.inl ⟨by rfl, ?_⟩) ?_ ?_
          rotate_left
          · intro w'
            go_simp
            with_reducible rfl
          rotate_left
          · simp only [Act.put, List.setIfInBounds_toArray, List.set_cons_zero, List.set_cons_succ, i64_w, i32_w]
            rfl
          refine pure_ (i := 15) (N := some 99) (v := ?_) (a' := ?_) #[true, true, true, true, true, true, true, true, true, true, true, true, true, true, true, true, false] rfl rfl (by kernel_rfl) (fun _ _ _ h => h) (Or.inl ⟨by rfl, ?_⟩) ?_ ?_
          rotate_left
          · intro w'
            go_simp
            with_reducible rfl
          rotate_left
          · simp only [Act.put, List.setIfInBounds_toArray, List.set_cons_zero, List.set_cons_succ, i64_w, i32_w]
            rfl
          refine last_ (i := 16) (N := none) #[true, true, true, true, true, true, true, true, true, true, true, true, true, true, true, true, true] rfl rfl (by kernel_rfl) (by decide) (fun K hK => ?_)
          refine skip_ (w1 := ?_) (by rfl) rfl ?_ ?_
          rotate_left
          · go_simp
            rfl
          refine hK.out _ _ ?_
          clear hK K
          refine done_ (by kernel_rfl) ?_

          go_wp2
          have hR := HR.out
          subst hR
          go_ret3
          have hks : Kept w6 (w6.setCell ⟨g, 2, none⟩ (.slice A6 m6 c6)) (fun k => k = g) := (Kept.refl w6 (fun k => k = g)).setCell (p := ⟨g, 2, none⟩) (.inl rfl) _
          have hkr : Kept w wr F := (Kept.of_below (below_next HB3.out HBr.out) _)
          refine ⟨rfl, ?_, ?_⟩
          · exact (((hkr.alloc _).drewN _).drew.grown G6.out (fun k e => by cases e)).setCell (p := ⟨g, 2, none⟩) (.inl hg) _
          · refine ⟨_, J6.out.set_ 2 _, R6.out.kept hks (fun k e h => R6.out.ne_blk J6.out (by decide) (h ▸ e)), .inl hg, fun k e => .inr ⟨?_, by simpa using R6.out.lt e⟩⟩
            have h1 := V6.out k e
            have h2 := hkr.size
            simp at h1
            omega
      · have hakN : a + k = N := by omega
        have HNx := Lib.hid (show agree (s.l.drop a) l = k by
          have := agree_out (s.l.drop a) l k (by rw [List.length_drop, HN.out]; omega)
          rw [List.drop_drop] at this
          rw [HI.out, this]; rfl)
        have HR := Lib.hid (show R = (⟨s.base, s.term, s.l.take (a + k) ++ l.drop k⟩, prev + l.length, 0, 0) by
          rw [hM.out, HNx.out, if_neg (by omega), HN.out, show max 0 ((N : Int) - a - k) = 0 by omega])
        have hwl : IntKind.i64.wrap ((N : Int) - (a : Int)) = ((N - a : Nat) : Int) := by rw [IntKind.wrap_i64]; omega
        have hwm : IntKind.i64.wrap (((N - a : Nat) : Int) - (k : Int)) = 0 := by rw [IntKind.wrap_i64]; omega
        have hwk : IntKind.i64.wrap ((a : Int) + (k : Int)) = ((a + k : Nat) : Int) := by rw [IntKind.wrap_i64]; omega
        have q13 : decide ((a : Int) + (k : Int) < (N : Int)) = false := decide_eq_false (by omega)
        rcases HRr.out.2 with ⟨hv, h0⟩ | ⟨gb, cap', cur, hv, _, hgbb, hcb, hcm', _⟩
        · simp only [Value.slice.injEq] at hv
          obtain ⟨rfl, _, rfl⟩ := hv
          have hN0 : N = 0 := by rw [← HN.out]; exact h0
          have hnc0 : (0 : Int) ≤ (a : Int) + (k : Int) := by omega
          have hnc : (a : Int) + (k : Int) ≤ 0 := by omega
          have hnt : ((a : Int) + (k : Int)).toNat = a + k := by omega
          have HAK := Lib.hid (show a + k = 0 by omega)
          clear hM hin hakN h0 hN0
          have hdl := Lib.hid (show (l.drop k).length = l.length - k from List.length_drop ..)
          have hle := Lib.hid (show ((a + k) + (l.length - k)) * 24 ≤ 140737488355328 by have := HLL.out; have := HP.out; have := HA.out; omega)
          have hno := Lib.hid (show (s.l.take (a + k)).length = a + k by rw [List.length_take, HN.out]; omega)
          have hne := Lib.hid (show ∀ t u, ((l.drop k).flatMap Ent.cells)[t]? = some u → ((wr.alloc (.cells #[.int .i64 x.term, .string x.data] 44)).cell? ((⟨ge, k * 2, none⟩ : Addr).add t) = some u) from fun t u hu => by
            have h2 := HSr.out
            have h3 : (l.flatMap Ent.cells)[k * 2 + t]? = some u := flat_cut l k l.length t u (by rw [List.take_of_length_le (by rw [List.length_drop]; omega)]; exact hu)
            obtain ⟨A', c', hv, _, _, h4⟩ := h2
            obtain ⟨g', hA', hcell⟩ := h4 (by omega)
            simp only [Value.slice.injEq] at hv
            rw [← hv.1] at hA'
            simp only [Option.some.injEq, Addr.mk.injEq, and_true] at hA'
            have h5 := hcell _ _ h3
            rw [← hA'] at h5
            rw [Addr.add_lit, World.cell?_alloc_lt _ _ _ (by exact hge)]
            exact h5)
          go_wp2_with (fail)
          go_quiet (fail)
          go_wp2_with (fail)
          have JB := Lib.hid (show ∀ nq, Blk ((wr.alloc (.cells #[.int .i64 x.term, .string x.data] 44)).drewN nq) g 62 #[.int .i64 s.base, .int .i64 s.term, .slice none N 0] from fun nq => (HBg.out.alloc _).drewN nq)
          refine start_ (n := 17) (S := fun w' => w'.cell? ⟨g, 2, none⟩ = some (.slice none N 0)) (ds := [16]) #[false, false, false, false, false, false, false, false, false, false, false, false, false, false, false, false, false] (by kernel_rfl) rfl rfl ((JB.out _).drew.cell 2) (fun hHeld => ?_)
          refine pure_ (i := 0) (N := some 84) (v := ?_) (a' := ?_) #[true, false, false, false, false, false, false, false, false, false, false, false, false, false, false, false, false] rfl rfl (by kernel_rfl) (fun _ _ _ h => h) (Or.inl ⟨by rfl, ?_⟩) ?_ ?_
          rotate_left
          · intro w'
            go_simp
            with_reducible rfl
          rotate_left
          · simp only [Act.put, List.setIfInBounds_toArray, List.set_cons_zero, List.set_cons_succ, i64_w, i32_w]
            rfl
          refine pure_ (i := 1) (N := some 85) (v := ?_) (a' := ?_) #[true, true, false, false, false, false, false, false, false, false, false, false, false, false, false, false, false] rfl rfl (by kernel_rfl) (fun _ _ _ h => h) (Or.inl ⟨by rfl, ?_⟩) ?_ ?_
          rotate_left
          · intro w'
            go_simp
            with_reducible rfl
          rotate_left
          · simp only [Act.put, List.setIfInBounds_toArray, List.set_cons_zero, List.set_cons_succ, i64_w, i32_w]
            rfl
          refine pure_ (i := 2) (N := some 86) (v := ?_) (a' := ?_) #[true, true, true, false, false, false, false, false, false, false, false, false, false, false, false, false, false] rfl rfl (by kernel_rfl) (fun _ _ _ h => h) (Or.inl ⟨by rfl, ?_⟩) ?_ ?_
          rotate_left
          · intro w'
            go_simp
            with_reducible rfl
          rotate_left
          · simp only [Act.put, List.setIfInBounds_toArray, List.set_cons_zero, List.set_cons_succ, i64_w, i32_w]
            rfl
          refine pure_ (i := 3) (N := some 87) (v := ?_) (a' := ?_) #[true, true, true, true, false, false, false, false, false, false, false, false, false, false, false, false, false] rfl rfl (by kernel_rfl) (fun _ _ _ h => h) (Or.inl ⟨by rfl, ?_⟩) ?_ ?_
          rotate_left
          · intro w'
            go_simp
            with_reducible rfl
          rotate_left
          · simp only [Act.put, List.setIfInBounds_toArray, List.set_cons_zero, List.set_cons_succ, i64_w, i32_w]
            rfl
          refine pure_ (i := 5) (N := some 89) (v := ?_) (a' := ?_) #[true, true, true, true, false, true, false, false, false, false, false, false, false, false, false, false, false] rfl rfl (by kernel_rfl) (fun _ _ _ h => h) (Or.inl ⟨by rfl, ?_⟩) ?_ ?_
          rotate_left
          · intro w'
            go_simp
            with_reducible rfl
          rotate_left
          · simp only [Act.put, List.setIfInBounds_toArray, List.set_cons_zero, List.set_cons_succ, i64_w, i32_w]
            rfl
          refine pure_ (i := 6) (N := some 90) (v := ?_) (a' := ?_) #[true, true, true, true, false, true, true, false, false, false, false, false, false, false, false, false, false] rfl rfl (by kernel_rfl) (fun _ _ _ h => h) (Or.inl ⟨by rfl, ?_⟩) ?_ ?_
          rotate_left
          · intro w'
            go_simp
            with_reducible rfl
          rotate_left
          · simp only [Act.put, List.setIfInBounds_toArray, List.set_cons_zero, List.set_cons_succ, i64_w, i32_w]
            rfl
          refine pure_ (i := 7) (N := some 91) (v := ?_) (a' := ?_) #[true, true, true, true, false, true, true, true, false, false, false, false, false, false, false, false, false] rfl rfl (by kernel_rfl) (fun _ _ _ h => h) (Or.inl ⟨by rfl, ?_⟩) ?_ ?_
          rotate_left
          · intro w'
            go_simp
            with_reducible rfl
          rotate_left
          · simp only [Act.put, List.setIfInBounds_toArray, List.set_cons_zero, List.set_cons_succ, i64_w, i32_w]
            rfl
          refine pure_ (i := 10) (N := some 94) (v := ?_) (a' := ?_) #[true, true, true, true, false, true, true, true, false, false, true, false, false, false, false, false, false] rfl rfl (by kernel_rfl) (fun _ _ _ h => h) (Or.inl ⟨by rfl, ?_⟩) ?_ ?_
          rotate_left
          · intro w'
            go_simp
            with_reducible rfl
          rotate_left
          · simp only [Act.put, List.setIfInBounds_toArray, List.set_cons_zero, List.set_cons_succ, i64_w, i32_w]
            rfl
          refine pure_ (i := 11) (N := some 95) (v := ?_) (a' := ?_) #[true, true, true, true, false, true, true, true, false, false, true, true, false, false, false, false, false] rfl rfl (by kernel_rfl) (fun _ _ _ h => h) (Or.inl ⟨by rfl, ?_⟩) ?_ ?_
          rotate_left
          · intro w'
            go_simp
            with_reducible rfl
          rotate_left
          · simp only [Act.put, List.setIfInBounds_toArray, List.set_cons_zero, List.set_cons_succ, i64_w, i32_w]
            rfl
          refine pure_ (i := 12) (N := some 96) (v := ?_) (a' := ?_) #[true, true, true, true, false, true, true, true, false, false, true, true, true, false, false, false, false] rfl rfl (by kernel_rfl) (fun _ _ _ h => h) (Or.inl ⟨by rfl, ?_⟩) ?_ ?_
          rotate_left
          · intro w'
            go_simp
            with_reducible rfl
          rotate_left
          · simp only [Act.put, List.setIfInBounds_toArray, List.set_cons_zero, List.set_cons_succ, i64_w, i32_w]
            rfl
          refine take_ (i := 4) (N := some 88) (v := ?_) (a' := ?_) #[true, true, true, true, true, true, true, true, false, false, true, true, true, false, false, false, false] rfl rfl (by kernel_rfl) (fun _ _ _ h => h) (Or.inl ⟨by rfl, ?_⟩) hHeld ?_ ?_
          rotate_left
          · intro w' s0
            go_simp
            with_reducible rfl
          rotate_left
          · simp only [Act.put, List.setIfInBounds_toArray, List.set_cons_zero, List.set_cons_succ, i64_w, i32_w]
            rfl
          refine pure_ (i := 8) (N := some 92) (v := ?_) (a' := ?_) #[true, true, true, true, true, true, true, true, true, false, true, true, true, false, false, false, false] rfl rfl (by kernel_rfl) (fun _ _ _ h => h) (Or.inl ⟨by rfl, ?_⟩) ?_ ?_
          rotate_left
          · intro w'
            go_simp
            with_reducible rfl
          rotate_left
          · simp only [Act.put, List.setIfInBounds_toArray, List.set_cons_zero, List.set_cons_succ, i64_w, i32_w]
            rfl
          refine one_ (i := 9) (N := some 93) #[true, true, true, true, true, true, true, true, true, true, true, true, true, false, false, false, false] rfl rfl (by kernel_rfl) (by decide) (fun K hK => ?_)
          refine goes_ Try.func31 (by kernel_rfl) rfl #[.slice none (a + k) 0] (by rfl) rfl rfl (by simp only [List.map_toArray, List.map_cons, List.map_nil]; rfl) ?_
          with_reducible refine (clip_calls _ _ _ _ (by omega) (by omega)).mono ?_
          rintro e w3 ⟨rfl, hw3⟩
          refine ⟨_, rfl, ?_⟩
          obtain rfl := hw3
          refine hK.out _ _ ((JB.out _).drew.cell 2) (fun hHeld => ?_)
          clear hK K
          refine norm_ (a' := ?_) ?_ ?_
          rotate_left
          · show Act.put _ (some 93) _ = _
            simp only [Act.put, List.setIfInBounds_toArray, List.set_cons_zero, List.set_cons_succ, i64_w, i32_w]
            rfl
          refine one_ (i := 13) (N := some 97) #[true, true, true, true, true, true, true, true, true, true, true, true, true, true, false, false, false] rfl rfl (by kernel_rfl) (by decide) (fun K hK => ?_)
          refine full_append_step (by rfl) (.tmp 93) (.tmp 96) 36 44 (.agg #[.int .i64 0, .string ⟨#[]⟩]) 2 24 (by rfl) Try.underlying36 info_entries rfl (by decide) (by decide) none (a + k) (s.l.take (a + k)) (l.drop k) (by rfl) ⟨ge, k * 2, none⟩ (l.length - k) (c - k) (by rfl) (.inl ⟨rfl, HAK.out⟩) hno.out hdl.out (by omega) (fun _ => rfl) (fun t u hu => hne.out t u hu) one_ent hle.out ?_
          intro v6 w6 hR hG hO
          obtain ⟨A6, m6, c6, rfl⟩ := hR.some_slice
          have J6 := Lib.hid ((JB.out _).drew.grown hG (by simp))
          have R6 := Lib.hid hR
          have G6 := Lib.hid hG
          have V6 := Lib.hid hO
          have d2 := J6.out.cell 2
          have d2f := J6.out.frozen 2
          clear hR hG hO
          refine hK.out _ _ (J6.out.cell 2) (fun hHeld => ?_)
          clear hK K
          refine norm_ (a' := ?_) ?_ ?_
          rotate_left
          · show Act.put _ (some 97) _ = _
            simp only [Act.put, List.setIfInBounds_toArray, List.set_cons_zero, List.set_cons_succ, i64_w, i32_w]
            rfl
          refine pure_ (i := 14) (N := some 98) (v := ?_) (a' := ?_) #[true, true, true, true, true, true, true, true, true, true, true, true, true, true, true, false, false] rfl rfl (by kernel_rfl) (fun _ _ _ h => h) (Or.inl ⟨by rfl, ?_⟩) ?_ ?_
          rotate_left
          · intro w'
            go_simp
            with_reducible rfl
          rotate_left
          · simp only [Act.put, List.setIfInBounds_toArray, List.set_cons_zero, List.set_cons_succ, i64_w, i32_w]
            rfl
          refine pure_ (i := 15) (N := some 99) (v := ?_) (a' := ?_) #[true, true, true, true, true, true, true, true, true, true, true, true, true, true, true, true, false] rfl rfl (by kernel_rfl) (fun _ _ _ h => h) (Or.inl ⟨by rfl, ?_⟩) ?_ ?_
          rotate_left
          · intro w'
            go_simp
            with_reducible rfl
          rotate_left
          · simp only [Act.put, List.setIfInBounds_toArray, List.set_cons_zero, List.set_cons_succ, i64_w, i32_w]
            rfl
          refine last_ (i := 16) (N := none) #[true, true, true, true, true, true, true, true, true, true, true, true, true, true, true, true, true] rfl rfl (by kernel_rfl) (by decide) (fun K hK => ?_)
          refine skip_ (w1 := ?_) (by rfl) rfl ?_ ?_
          rotate_left
          · go_simp
            rfl
          refine hK.out _ _ ?_
          clear hK K
          refine done_ (by kernel_rfl) ?_

          go_wp2
          have hR := HR.out
          subst hR
          go_ret3
          have hks : Kept w6 (w6.setCell ⟨g, 2, none⟩ (.slice A6 m6 c6)) (fun k => k = g) := (Kept.refl w6 (fun k => k = g)).setCell (p := ⟨g, 2, none⟩) (.inl rfl) _
          have hkr : Kept w wr F := (Kept.of_below (below_next HB3.out HBr.out) _)
          refine ⟨rfl, ?_, ?_⟩
          · exact (((hkr.alloc _).drewN _).drew.grown G6.out (fun k e => by cases e)).setCell (p := ⟨g, 2, none⟩) (.inl hg) _
          · refine ⟨_, J6.out.set_ 2 _, R6.out.kept hks (fun k e h => R6.out.ne_blk J6.out (by decide) (h ▸ e)), .inl hg, fun k e => .inr ⟨?_, by simpa using R6.out.lt e⟩⟩
            have h1 := V6.out k e
            have h2 := hkr.size
            simp at h1
            omega
        · simp only [Value.slice.injEq] at hv
          obtain ⟨rfl, _, rfl⟩ := hv
          have hgb : gb < wr.heap.size := (Array.getElem?_eq_some_iff.1 hgbb).1
          have hcb2 : N ≤ c1 := by rw [← HN.out]; exact hcb
          have hcb3 : c1 ≤ 9223372036854775807 := by unfold maxLen at hcm'; omega
          have hnc0 : (0 : Int) ≤ (a : Int) + (k : Int) := by omega
          have hnc : (a : Int) + (k : Int) ≤ (c1 : Int) := by omega
          have hnt : ((a : Int) + (k : Int)).toNat = a + k := by omega
          have hold := Lib.hid (show ∀ t u, ((s.l.take (a + k)).flatMap Ent.cells)[t]? = some u → (wr.alloc (.cells #[.int .i64 x.term, .string x.data] 44)).cell? ⟨gb, t, none⟩ = some u from fun t u hu => by
            have := HRr.out.news t u (flat_take _ _ _ _ hu)
            rw [addr0] at this
            rw [World.cell?_alloc_lt _ _ _ (by exact hgb)]
            exact this)
          clear hM hin hakN hgbb hcb hcm'
          have hdl := Lib.hid (show (l.drop k).length = l.length - k from List.length_drop ..)
          have hle := Lib.hid (show ((a + k) + (l.length - k)) * 24 ≤ 140737488355328 by have := HLL.out; have := HP.out; have := HA.out; omega)
          have hno := Lib.hid (show (s.l.take (a + k)).length = a + k by rw [List.length_take, HN.out]; omega)
          have hne := Lib.hid (show ∀ t u, ((l.drop k).flatMap Ent.cells)[t]? = some u → ((wr.alloc (.cells #[.int .i64 x.term, .string x.data] 44)).cell? ((⟨ge, k * 2, none⟩ : Addr).add t) = some u) from fun t u hu => by
            have h2 := HSr.out
            have h3 : (l.flatMap Ent.cells)[k * 2 + t]? = some u := flat_cut l k l.length t u (by rw [List.take_of_length_le (by rw [List.length_drop]; omega)]; exact hu)
            obtain ⟨A', c', hv, _, _, h4⟩ := h2
            obtain ⟨g', hA', hcell⟩ := h4 (by omega)
            simp only [Value.slice.injEq] at hv
            rw [← hv.1] at hA'
            simp only [Option.some.injEq, Addr.mk.injEq, and_true] at hA'
            have h5 := hcell _ _ h3
            rw [← hA'] at h5
            rw [Addr.add_lit, World.cell?_alloc_lt _ _ _ (by exact hge)]
            exact h5)
          go_wp2_with (fail)
          go_quiet (fail)
          go_wp2_with (fail)
          have JB := Lib.hid (show ∀ nq, Blk ((wr.alloc (.cells #[.int .i64 x.term, .string x.data] 44)).drewN nq) g 62 #[.int .i64 s.base, .int .i64 s.term, .slice (some ⟨gb, 0, none⟩) N c1] from fun nq => (HBg.out.alloc _).drewN nq)
          refine start_ (n := 17) (S := fun w' => w'.cell? ⟨g, 2, none⟩ = some (.slice (some ⟨gb, 0, none⟩) N c1)) (ds := [16]) #[false, false, false, false, false, false, false, false, false, false, false, false, false, false, false, false, false] (by kernel_rfl) rfl rfl ((JB.out _).drew.cell 2) (fun hHeld => ?_)
          refine pure_ (i := 0) (N := some 84) (v := ?_) (a' := ?_) #[true, false, false, false, false, false, false, false, false, false, false, false, false, false, false, false, false] rfl rfl (by kernel_rfl) (fun _ _ _ h => h) (Or.inl ⟨by rfl, ?_⟩) ?_ ?_
          rotate_left
          · intro w'
            go_simp
            with_reducible rfl
          rotate_left
          · simp only [Act.put, List.setIfInBounds_toArray, List.set_cons_zero, List.set_cons_succ, i64_w, i32_w]
            rfl
          refine pure_ (i := 1) (N := some 85) (v := ?_) (a' := ?_) #[true, true, false, false, false, false, false, false, false, false, false, false, false, false, false, false, false] rfl rfl (by kernel_rfl) (fun _ _ _ h => h) (Or.inl ⟨by rfl, ?_⟩) ?_ ?_
          rotate_left
          · intro w'
            go_simp
            with_reducible rfl
          rotate_left
          · simp only [Act.put, List.setIfInBounds_toArray, List.set_cons_zero, List.set_cons_succ, i64_w, i32_w]
            rfl
          refine pure_ (i := 2) (N := some 86) (v := ?_) (a' := ?_) #[true, true, true, false, false, false, false, false, false, false, false, false, false, false, false, false, false] rfl rfl (by kernel_rfl) (fun _ _ _ h => h) (Or.inl ⟨by rfl, ?_⟩) ?_ ?_
          rotate_left
          · intro w'
            go_simp
            with_reducible rfl
          rotate_left
          · simp only [Act.put, List.setIfInBounds_toArray, List.set_cons_zero, List.set_cons_succ, i64_w, i32_w]
            rfl
          refine pure_ (i := 3) (N := some 87) (v := ?_) (a' := ?_) #[true, true, true, true, false, false, false, false, false, false, false, false, false, false, false, false, false] rfl rfl (by kernel_rfl) (fun _ _ _ h => h) (Or.inl ⟨by rfl, ?_⟩) ?_ ?_
          rotate_left
          · intro w'
            go_simp
            with_reducible rfl
          rotate_left
          · simp only [Act.put, List.setIfInBounds_toArray, List.set_cons_zero, List.set_cons_succ, i64_w, i32_w]
            rfl
          refine pure_ (i := 5) (N := some 89) (v := ?_) (a' := ?_) #[true, true, true, true, false, true, false, false, false, false, false, false, false, false, false, false, false] rfl rfl (by kernel_rfl) (fun _ _ _ h => h) (Or.inl ⟨by rfl, ?_⟩) ?_ ?_
          rotate_left
          · intro w'
            go_simp
            with_reducible rfl
          rotate_left
          · simp only [Act.put, List.setIfInBounds_toArray, List.set_cons_zero, List.set_cons_succ, i64_w, i32_w]
            rfl
          refine pure_ (i := 6) (N := some 90) (v := ?_) (a' := ?_) #[true, true, true, true, false, true, true, false, false, false, false, false, false, false, false, false, false] rfl rfl (by kernel_rfl) (fun _ _ _ h => h) (Or.inl ⟨by rfl, ?_⟩) ?_ ?_
          rotate_left
          · intro w'
            go_simp
            with_reducible rfl
          rotate_left
          · simp only [Act.put, List.setIfInBounds_toArray, List.set_cons_zero, List.set_cons_succ, i64_w, i32_w]
            rfl
          refine pure_ (i := 7) (N := some 91) (v := ?_) (a' := ?_) #[true, true, true, true, false, true, true, true, false, false, false, false, false, false, false, false, false] rfl rfl (by kernel_rfl) (fun _ _ _ h => h) (Or.inl ⟨by rfl, ?_⟩) ?_ ?_
          rotate_left
          · intro w'
            go_simp
            with_reducible rfl
          rotate_left
          · simp only [Act.put, List.setIfInBounds_toArray, List.set_cons_zero, List.set_cons_succ, i64_w, i32_w]
            rfl
          refine pure_ (i := 10) (N := some 94) (v := ?_) (a' := ?_) #[true, true, true, true, false, true, true, true, false, false, true, false, false, false, false, false, false] rfl rfl (by kernel_rfl) (fun _ _ _ h => h) (Or.inl ⟨by rfl, ?_⟩) ?_ ?_
          rotate_left
          · intro w'
            go_simp
            with_reducible rfl
          rotate_left
          · simp only [Act.put, List.setIfInBounds_toArray, List.set_cons_zero, List.set_cons_succ, i64_w, i32_w]
            rfl
          refine pure_ (i := 11) (N := some 95) (v := ?_) (a' := ?_) #[true, true, true, true, false, true, true, true, false, false, true, true, false, false, false, false, false] rfl rfl (by kernel_rfl) (fun _ _ _ h => h) (Or.inl ⟨by rfl, ?_⟩) ?_ ?_
          rotate_left
          · intro w'
            go_simp
            with_reducible rfl
          rotate_left
          · simp only [Act.put, List.setIfInBounds_toArray, List.set_cons_zero, List.set_cons_succ, i64_w, i32_w]
            rfl
          refine pure_ (i := 12) (N := some 96) (v := ?_) (a' := ?_) #[true, true, true, true, false, true, true, true, false, false, true, true, true, false, false, false, false] rfl rfl (by kernel_rfl) (fun _ _ _ h => h) (Or.inl ⟨by rfl, ?_⟩) ?_ ?_
          rotate_left
          · intro w'
            go_simp
            with_reducible rfl
          rotate_left
          · simp only [Act.put, List.setIfInBounds_toArray, List.set_cons_zero, List.set_cons_succ, i64_w, i32_w]
            rfl
          refine take_ (i := 4) (N := some 88) (v := ?_) (a' := ?_) #[true, true, true, true, true, true, true, true, false, false, true, true, true, false, false, false, false] rfl rfl (by kernel_rfl) (fun _ _ _ h => h) (Or.inl ⟨by rfl, ?_⟩) hHeld ?_ ?_
          rotate_left
          · intro w' s0
            go_simp
            with_reducible rfl
          rotate_left
          · simp only [Act.put, List.setIfInBounds_toArray, List.set_cons_zero, List.set_cons_succ, i64_w, i32_w]
            rfl
          refine pure_ (i := 8) (N := some 92) (v := ?_) (a' := ?_) #[true, true, true, true, true, true, true, true, true, false, true, true, true, false, false, false, false] rfl rfl (by kernel_rfl) (fun _ _ _ h => h) (Or.inl ⟨by rfl, ?_⟩) ?_ ?_
          rotate_left
          · intro w'
            go_simp
            with_reducible rfl
          rotate_left
          · simp only [Act.put, List.setIfInBounds_toArray, List.set_cons_zero, List.set_cons_succ, i64_w, i32_w]
            rfl
          refine one_ (i := 9) (N := some 93) #[true, true, true, true, true, true, true, true, true, true, true, true, true, false, false, false, false] rfl rfl (by kernel_rfl) (by decide) (fun K hK => ?_)
          refine goes_ Try.func31 (by kernel_rfl) rfl #[.slice (some ⟨gb, 0, none⟩) (a + k) c1] (by rfl) rfl rfl (by simp only [List.map_toArray, List.map_cons, List.map_nil]; rfl) ?_
          with_reducible refine (clip_calls _ _ _ _ (by omega) (by omega)).mono ?_
          rintro e w3 ⟨rfl, hw3⟩
          refine ⟨_, rfl, ?_⟩
          obtain rfl := hw3
          refine hK.out _ _ ((JB.out _).drew.cell 2) (fun hHeld => ?_)
          clear hK K
          refine norm_ (a' := ?_) ?_ ?_
          rotate_left
          · show Act.put _ (some 93) _ = _
            simp only [Act.put, List.setIfInBounds_toArray, List.set_cons_zero, List.set_cons_succ, i64_w, i32_w]
            rfl
          refine one_ (i := 13) (N := some 97) #[true, true, true, true, true, true, true, true, true, true, true, true, true, true, false, false, false] rfl rfl (by kernel_rfl) (by decide) (fun K hK => ?_)
          refine full_append_step (by rfl) (.tmp 93) (.tmp 96) 36 44 (.agg #[.int .i64 0, .string ⟨#[]⟩]) 2 24 (by rfl) Try.underlying36 info_entries rfl (by decide) (by decide) (some ⟨gb, 0, none⟩) (a + k) (s.l.take (a + k)) (l.drop k) (by rfl) ⟨ge, k * 2, none⟩ (l.length - k) (c - k) (by rfl) (.inr ⟨gb, rfl, fun t u hu => hold.out t u hu⟩) hno.out hdl.out (by omega) (fun _ => rfl) (fun t u hu => hne.out t u hu) one_ent hle.out ?_
          intro v6 w6 hR hG hO
          obtain ⟨A6, m6, c6, rfl⟩ := hR.some_slice
          have J6 := Lib.hid ((JB.out _).drew.grown hG (by simp))
          have R6 := Lib.hid hR
          have G6 := Lib.hid hG
          have V6 := Lib.hid hO
          have d2 := J6.out.cell 2
          have d2f := J6.out.frozen 2
          clear hR hG hO
          refine hK.out _ _ (J6.out.cell 2) (fun hHeld => ?_)
          clear hK K
          refine norm_ (a' := ?_) ?_ ?_
          rotate_left
          · show Act.put _ (some 97) _ = _
            simp only [Act.put, List.setIfInBounds_toArray, List.set_cons_zero, List.set_cons_succ, i64_w, i32_w]
            rfl
          refine pure_ (i := 14) (N := some 98) (v := ?_) (a' := ?_) #[true, true, true, true, true, true, true, true, true, true, true, true, true, true, true, false, false] rfl rfl (by kernel_rfl) (fun _ _ _ h => h) (Or.inl ⟨by rfl, ?_⟩) ?_ ?_
          rotate_left
          · intro w'
            go_simp
            with_reducible rfl
          rotate_left
          · simp only [Act.put, List.setIfInBounds_toArray, List.set_cons_zero, List.set_cons_succ, i64_w, i32_w]
            rfl
          refine pure_ (i := 15) (N := some 99) (v := ?_) (a' := ?_) #[true, true, true, true, true, true, true, true, true, true, true, true, true, true, true, true, false] rfl rfl (by kernel_rfl) (fun _ _ _ h => h) (Or.inl ⟨by rfl, ?_⟩) ?_ ?_
          rotate_left
          · intro w'
            go_simp
            with_reducible rfl
          rotate_left
          · simp only [Act.put, List.setIfInBounds_toArray, List.set_cons_zero, List.set_cons_succ, i64_w, i32_w]
            rfl
          refine last_ (i := 16) (N := none) #[true, true, true, true, true, true, true, true, true, true, true, true, true, true, true, true, true] rfl rfl (by kernel_rfl) (by decide) (fun K hK => ?_)
          refine skip_ (w1 := ?_) (by rfl) rfl ?_ ?_
          rotate_left
          · go_simp
            rfl
          refine hK.out _ _ ?_
          clear hK K
          refine done_ (by kernel_rfl) ?_

          go_wp2
          have hR := HR.out
          subst hR
          go_ret3
          have hks : Kept w6 (w6.setCell ⟨g, 2, none⟩ (.slice A6 m6 c6)) (fun k => k = g) := (Kept.refl w6 (fun k => k = g)).setCell (p := ⟨g, 2, none⟩) (.inl rfl) _
          have hkr : Kept w wr F := (Kept.of_below (below_next HB3.out HBr.out) _)
          refine ⟨rfl, ?_, ?_⟩
          · exact (((hkr.alloc _).drewN _).drew.grown G6.out (fun k e => by cases e)).setCell (p := ⟨g, 2, none⟩) (.inl hg) _
          · refine ⟨_, J6.out.set_ 2 _, R6.out.kept hks (fun k e h => R6.out.ne_blk J6.out (by decide) (h ▸ e)), .inl hg, fun k e => .inr ⟨?_, by simpa using R6.out.lt e⟩⟩
            have h1 := V6.out k e
            have h2 := hkr.size
            simp at h1
            omega
    · have hkl : k = l.length := by omega
      have HNx := Lib.hid (show agree (s.l.drop a) l = l.length by
        have h1 := agree_le (s.l.drop (a + k)) (l.drop k)
        rw [hkl, List.drop_length] at h1
        rw [HI.out, hkl, List.drop_length]
        simp only [List.length_nil] at h1
        omega)
      have HR := Lib.hid (show R = (s, prev + l.length, 0, 0) by rw [hM.out, HNx.out, if_pos rfl])
      have hltz : ¬ (k : Int) < (l.length : Int) := by omega
      clear hM hlt hkl
      go_wp2
      have hR := HR.out
      subst hR
      go_ret3
      exact ⟨rfl, LogPost.of_below H.out (below_next HB3.out HBr.out)⟩
end Go.Proofs.Ytpimpdgibcjbeaa
