import Derived.Test.YtpimpdgibcjbeaaRlZj
import Derived.Test.YtpimpdgibcjbeaaWLast
namespace Go.Proofs.Ytpimpdgibcjbeaa
open Go Go.RowKit
open Go.Proofs.YtpimpdgibcjbeaaW.PrintLast
set_option linter.unusedVariables false
set_option linter.unusedSimpArgs false

set_option maxRecDepth 100000 in
set_option maxHeartbeats 8000000 in
theorem ref_merge_ok (F : Nat → Prop) (g : Nat) (s : LogS) (prev term : Int) (v : Value) (l : List Ent) (a : Nat) (w : World) (h : RAt w F g s) (hb0 : 0 ≤ s.base) (hl : s.base + s.l.length ≤ 1048576) (ha : prev = s.base + a) (hal : a ≤ s.l.length)
    (ht : s.termAt prev = (term, 0)) (hwr : wrongE prev term l = 0) (hS : SegG w Ent.cells v l) (hll : prev + l.length ≤ 1048576) (hFv : 0 < l.length → ∀ q, v.ownBlock = some q → ¬ F q) :
    Calls Try.prog 34 #[.pointer (some ⟨g, 0, none⟩), .int .i64 prev, .int .i64 term, v] w fun e w' => e = .returned (.tuple #[.int .i64 (s.merge prev term l).2.1, .int .i64 (s.merge prev term l).2.2.1, .int .i64 (s.merge prev term l).2.2.2]) ∧ RPost w F g (s.merge prev term l).1 w' := by
  have hT := ref_term F g s prev w h hb0 (by omega) (by omega)
  rw [ht] at hT
  rw [RM_end s prev term l a ha ht hwr]
  dsimp only
  obtain ⟨A, c, rfl, hlc, hcm⟩ := hS.shape
  have HS := Lib.hid hS
  have H := Lib.hid h
  have HFV := Lib.hid hFv
  have hW := ref_wrong prev term (.slice A l.length c) l
  rw [hwr] at hW
  obtain ⟨n, hn⟩ : ∃ n, l.length = n := ⟨_, rfl⟩
  have HN := Lib.hid hn
  rw [hn] at hW hll hlc ⊢
  have hp0 : 0 ≤ prev ∧ prev ≤ 1048576 := by omega
  have HP := Lib.hid hp0
  have HLL := Lib.hid hll
  have HAP := Lib.hid (show (a : Int) ≤ prev by omega)
  have HL0 := Lib.hid hl
  have hn20 : n ≤ 1048576 := by omega
  have hN20 : s.l.length ≤ 1048576 := by omega
  have hcm2 : c ≤ 9223372036854775807 := by unfold maxLen at hcm; omega
  have hwa : IntKind.i64.wrap (prev - s.base) = (a : Int) := by rw [IntKind.wrap_i64]; omega
  have hwp : IntKind.i64.wrap (prev + (n : Int)) = prev + (n : Int) := by rw [IntKind.wrap_i64]; omega
  obtain ⟨res, hres⟩ : ∃ res : List Ent × Int, RM s.l a l n = res := ⟨_, rfl⟩
  rw [hres]
  have HRES := Lib.hid hres
  have ha20 : a ≤ 1048576 := by omega
  clear h hS ht hwr ha hll hp0 hcm hn hl hres hFv
  go_enter Try.func34, Try.ntmps34
  go_wp2_with (fail)
  refine hT.mono ?_
  rintro e w2 ⟨rfl, hb2⟩
  have HB2 := Lib.hid hb2
  clear hT hb2
  go_wp2_with (fail)
  refine (hW w2 HP.out (by have := HS.out.below HB2.out; rwa [HN.out] at this) (by have := HN.out; omega)).mono ?_
  rintro e w3 ⟨rfl, hw3⟩
  obtain rfl := hw3.symm
  clear hW hw3
  have HP0 := Lib.hid (RPost.of_below H.out HB2.out)
  go_wp2_with (fail)
  go_loopg [14, 15] n (fun gg s14 s15 wr => ∃ k : Nat, k ≤ n ∧ n - k ≤ gg ∧ s14 = .int .i64 (RM s.l a l k).2 ∧ s15 = .int .i64 k ∧ Hid (RPost w F g ⟨s.base, s.term, (RM s.l a l k).1⟩ wr))
  case atStart => exact ⟨0, Nat.zero_le _, by omega, by rw [RM_zero], rfl, by rw [RM_zero]; exact HP0⟩
  case round =>
    obtain ⟨k, hk, hg', rfl, rfl, HR⟩ := hrel
    by_cases hlt : k < n
    · have hkl : k < l.length := by rw [HN.out]; exact hlt
      have hSr := HS.out.kept0 HR.out.1 HFV.out
      obtain ⟨ad, ce, hv, hce, hcem⟩ := hSr.form (by omega)
      injection hv with hA hnn hc
      clear hnn
      subst hA hc
      have x0 := hSr.cell (sz := 2) (fun _ => rfl) k 0 hkl (by omega)
      have x1 := hSr.cell (sz := 2) (fun _ => rfl) k 1 hkl (by omega)
      have hst := RM_step s.l a l k (l[k]'hkl) hal (List.getElem?_eq_getElem hkl)
      have hlenk := RM_length s.l a l k hal (by omega)
      generalize l[k]'hkl = x at *
      simp only [Ent.cells, adr, List.getElem?_cons_zero, List.getElem?_cons_succ, Nat.add_zero, Nat.zero_add, Nat.mul_one] at x0 x1
      have hge : (ad.add (k * 2)).block < wr.heap.size := World.block_lt_of_cell? _ _ x0
      obtain ⟨vl, hb, h1, hg, f1⟩ := HR.out.2
      obtain ⟨A1, c1, rfl⟩ := h1.shape
      have HBg := Lib.hid hb
      have H1 := Lib.hid h1
      have b0 := hb.cell 0
      have b2 := hb.cell 2
      have hgr := hb.lt
      have hltz : (k : Int) < (n : Int) := by omega
      have hk0 : (0 : Int) ≤ (k : Int) := by omega
      have hwk : IntKind.i64.wrap ((a : Int) + (k : Int)) = (a : Int) + (k : Int) := by rw [IntKind.wrap_i64]; omega
      have hak0 : (0 : Int) ≤ (a : Int) + (k : Int) := by omega
      have HX0 := Lib.hid x0
      have HX1 := Lib.hid x1
      clear hb h1 hSr hce hcem hkl
      rcases hst with ⟨e1, e2, hin, y, hy, hyx⟩ | ⟨e1, e2, hin, y, hy, hyx⟩ | ⟨e1, e2⟩
      · rw [e1] at H1 HBg b2 HR ⊢
        dsimp only at H1 HBg b2 HR ⊢
        obtain ⟨gb, c', hv, hgb, hcb⟩ := H1.out.form (by omega)
        injection hv with hA hnn hc
        clear hnn
        subst hA hc
        have y0 := H1.out.cell (fun _ => rfl) (a + k) 0 hin (by omega)
        obtain ⟨hyl, hyy⟩ := List.getElem?_eq_some_iff.1 hy
        rw [hyy] at y0
        simp only [Ent.cells, List.getElem?_cons_zero, Nat.add_zero, Nat.mul_one, hyx] at y0
        have hinz : (a : Int) + (k : Int) < (s.l.length : Int) := by omega
        have q1 : decide ((a : Int) + (k : Int) < (s.l.length : Int)) = true := decide_eq_true hinz
        have q2 : decide ((s.l.length : Int) ≤ (a : Int) + (k : Int)) = false := decide_eq_false (by omega)
        have hnt : ((a : Int) + (k : Int)).toNat = a + k := by omega
        clear e1 hy hyx hyl hyy hcb
        go_wp2_with (fail)
        go_quiet (fail)
        go_wp2
        go_roundg (n - (k + 1))
        case measure => omega
        case rel => exact ⟨k + 1, by omega, Nat.le_refl _, by rw [e2], by go_num, by rw [e2]; exact Lib.hid ⟨HR.out.1.drewN _, HR.out.2.below (pw_drewN (Below.refl _ _) _)⟩⟩
      · rw [e1] at H1 HBg b2 HR ⊢
        dsimp only at H1 HBg b2 HR ⊢
        obtain ⟨gb, c', hv, hgb, hcb⟩ := H1.out.form (by omega)
        injection hv with hA hnn hc
        clear hnn
        subst hA hc
        have y0 := H1.out.cell (fun _ => rfl) (a + k) 0 hin (by omega)
        obtain ⟨hyl, hyy⟩ := List.getElem?_eq_some_iff.1 hy
        rw [hyy] at y0
        simp only [Ent.cells, List.getElem?_cons_zero, Nat.add_zero, Nat.mul_one] at y0
        have hinz : (a : Int) + (k : Int) < (s.l.length : Int) := by omega
        have q1 : decide ((a : Int) + (k : Int) < (s.l.length : Int)) = true := decide_eq_true hinz
        have hnt : ((a : Int) + (k : Int)).toNat = a + k := by omega
        have hcap := H1.out.cap
        have hcc : (a : Int) + (k : Int) ≤ (c1 : Int) := by omega
        have hc9 : c1 ≤ 9223372036854775807 := hcap.2
        have HE2 := Lib.hid e2
        have HIN := Lib.hid hin
        have qy : (y.term == x.term) = false := by simpa using hyx
        have hwc : IntKind.i64.wrap ((s.l.length : Int) - ((a : Int) + (k : Int))) = ((s.l.length - (a + k) : Nat) : Int) := by rw [IntKind.wrap_i64]; omega
        clear e1 e2 hy hyl hyy hcb hcap hlenk
        go_wp2_with (fail)
        go_quiet (fail)
        generalize hWq : World.drewN wr _ = Wq
        have HRq := Lib.hid (show RPost w F g ⟨s.base, s.term, s.l⟩ Wq from hWq ▸ ⟨HR.out.1.drewN _, HR.out.2.below (pw_drewN (Below.refl _ _) _)⟩)
        have HBq := Lib.hid (show Blk Wq g 52 #[.int .i64 s.base, .int .i64 s.term, .slice (some ⟨gb, 0, none⟩) s.l.length c1] from hWq ▸ HBg.out.drewN _)
        have H1q := Lib.hid (show Row Wq 44 2 Ent.cells (.slice (some ⟨gb, 0, none⟩) s.l.length c1) s.l from hWq ▸ H1.out.drewN _)
        have x0 : Wq.cell? (ad.add (k * 2)) = some (.int .i64 x.term) := hWq ▸ HX0.out
        have x1 : Wq.cell? ⟨(ad.add (k * 2)).block, (ad.add (k * 2)).off + 1, none⟩ = some (.string x.data) := hWq ▸ HX1.out
        have X0q := Lib.hid x0
        have X1q := Lib.hid x1
        have hgeq : (ad.add (k * 2)).block < Wq.heap.size := World.block_lt_of_cell? _ _ x0
        have bq0 := HBq.out.cell 0
        have bq2 := HBq.out.cell 2
        have bqf := HBq.out.frozen 2
        have hgq := HBq.out.lt
        have PR := Lib.hid (H1q.out.prefix_ (a + k) (by omega) (fun _ => rfl))
        clear hWq b0 b2 HBg H1 HR y0
        go_wp2_with (at_builtin; refine Row.appendRow_list (by rfl) (.tmp 81) (.tmp 87) 36 44 (.agg #[.int .i64 0, .string ⟨#[]⟩]) 2 24 rfl Try.underlying36 info_entries rfl (by decide) (by decide) (.slice (some ⟨Wq.heap.size, 0, none⟩) 0 0) (.slice (some ⟨gb, 0, none⟩) (a + k) c1) [] (s.l.take (a + k)) rfl rfl (Row.empty Wq _ 2 Ent.cells) (PR.out.alloc _) (fun _ => rfl) one_ent (by simp only [List.length_nil, List.length_take]; omega) ?_)
        intro v6 w6 hR hG hO
        obtain ⟨A6, c6, rfl⟩ := hR.shape_n (n := a + k) (by rw [List.length_take]; omega)
        have HR6 := Lib.hid hR
        have HO6 := Lib.hid (own_ge (n := Wq.heap.size) (b := Wq.heap.size) hO ⟨rfl, Nat.le_refl _⟩ (by simp))
        have HB6 := Lib.hid ((HBq.out.alloc (.cells #[] 44)).grown hG (by simp [Value.ownBlock]; omega))
        have HK6 := Lib.hid (show Below Wq.heap.size Wq w6 from ((Below.refl _ Wq).alloc (Nat.le_refl _) _).grown hG (by simp) (fun q e => by simp [Value.ownBlock] at e; omega))
        have b6 := HB6.out.cell 2
        have b60 := HB6.out.cell 0
        have b6f := HB6.out.frozen 2
        have x06 := (HK6.out.cell (p := (ad.add (k * 2))) hgeq).trans X0q.out
        have x16 := (HK6.out.cell (p := ⟨(ad.add (k * 2)).block, (ad.add (k * 2)).off + 1, none⟩) hgeq).trans X1q.out
        have q2 : decide (((a + k : Nat) : Int) ≤ (a : Int) + (k : Int)) = true := decide_eq_true (by omega)
        clear hR hG hO x0 x1 bq0 bq2 bqf
        go_wp2_with (fail)
        generalize hW7 : w6.setCell ⟨g, 2, none⟩ (.slice A6 (a + k) c6) = W7
        have hkg : Kept w6 W7 (fun q => q = g) := hW7 ▸ (Kept.refl w6 (fun q => q = g)).setCell (p := ⟨g, 2, none⟩) (.inl rfl) _
        have HP7 := Lib.hid (RAt.reset HRq.out.2 HK6.out HR6.out HO6.out hkg (hW7 ▸ HB6.out.set_ 2 _))
        have HB7 := Lib.hid (show Blk W7 g 52 #[.int .i64 s.base, .int .i64 s.term, .slice A6 (a + k) c6] from hW7 ▸ HB6.out.set_ 2 _)
        have HR7 := Lib.hid (HR6.out.kept hkg (fun q e h => HR6.out.ne_blk HB6.out (by decide) (h ▸ e)))
        have hneg : (ad.add (k * 2)).block ≠ g := by
          rw [add_block]
          rintro rfl
          exact absurd (HFV.out (by rw [HN.out]; omega) ad.block (by simp [Value.ownBlock])) (fun h => by
            have hF := hg
            rcases hF with hF | hF
            · exact h hF
            · have h2 := HS.out.form (by rw [HN.out]; omega)
              obtain ⟨_, _, hv2, _⟩ := h2
              have h9 := World.block_lt_of_cell? w _ ((HS.out.cell (sz := 2) (fun _ => rfl) k 0 (by rw [HN.out]; exact hlt) (by omega)).trans (by rfl))
              rw [adr_eq, add_block] at h9
              omega)
        have z0 : W7.cell? (ad.add (k * 2)) = some (.int .i64 x.term) := (hkg.cell (p := (ad.add (k * 2))) (World.block_lt_of_cell? _ _ x06) hneg).trans x06
        have z1 : W7.cell? ⟨(ad.add (k * 2)).block, (ad.add (k * 2)).off + 1, none⟩ = some (.string x.data) := (hkg.cell (p := ⟨(ad.add (k * 2)).block, (ad.add (k * 2)).off + 1, none⟩) (World.block_lt_of_cell? _ _ x16) hneg).trans x16
        have Z0 := Lib.hid z0
        have Z1 := Lib.hid z1
        have HW7 := Lib.hid hW7
        have HP8 := Lib.hid (HRq.out.trans HP7.out)
        have J0 := Lib.hid (show PI W7 W7 g s.base s.term (.slice A6 (a + k) c6) (s.l.take (a + k)) (ad.add (k * 2)) ⟨(ad.add (k * 2)).block, (ad.add (k * 2)).off + 1, none⟩ x from ⟨HB7.out, Z0.out, Z1.out, HR7.out, Below.refl _ _, HB7.out.lt, fun q e => HR7.out.lt e, World.block_lt_of_cell? _ _ Z0.out, World.block_lt_of_cell? _ _ Z1.out⟩)
        have hle := Lib.hid (show (([] : List Ent).length + (s.l.take (a + k)).length) * 24 ≤ 140737488355328 by simp only [List.length_nil, List.length_take]; omega)
        have hle2 := Lib.hid (show (([] ++ (s.l.take (a + k))).length + [x].length) * 24 ≤ 140737488355328 by simp only [List.nil_append, List.length_cons, List.length_nil, List.length_take]; omega)
        clear x06 x16 z0 z1 hkg hW7 b6 b60 b6f hgq hgeq
        refine start_ (n := 16) (S := fun w' => w'.cell? ⟨g, 2, none⟩ = some (.slice A6 (a + k) c6) ∧ w'.cell? (ad.add (k * 2)) = some (.int .i64 x.term) ∧ w'.cell? ⟨(ad.add (k * 2)).block, (ad.add (k * 2)).off + 1, none⟩ = some (.string x.data)) (ds := [15]) #[false, false, false, false, false, false, false, false, false, false, false, false, false, false, false, false] (by kernel_rfl) rfl rfl ⟨J0.out.drew.b.cell 2, J0.out.drew.x0, J0.out.drew.x1⟩ (fun hHeld => ?_)
        refine pure_ (i := 0) (N := some 98) (v := ?_) (a' := ?_) #[true, false, false, false, false, false, false, false, false, false, false, false, false, false, false, false] rfl rfl (by kernel_rfl) (fun _ _ _ h => h) (Or.inl ⟨by rfl, ?_⟩) ?_ ?_
        rotate_left
        · intro w'
          go_simp
          with_reducible rfl
        rotate_left
        · simp only [Act.put, List.setIfInBounds_toArray, List.set_cons_zero, List.set_cons_succ, i64_w, i32_w]
          rfl
        refine pure_ (i := 2) (N := some 100) (v := ?_) (a' := ?_) #[true, false, true, false, false, false, false, false, false, false, false, false, false, false, false, false] rfl rfl (by kernel_rfl) (fun _ _ _ h => h) (Or.inl ⟨by rfl, ?_⟩) ?_ ?_
        rotate_left
        · intro w'
          go_simp
          with_reducible rfl
        rotate_left
        · simp only [Act.put, List.setIfInBounds_toArray, List.set_cons_zero, List.set_cons_succ, i64_w, i32_w]
          rfl
        refine pure_ (i := 3) (N := some 101) (v := ?_) (a' := ?_) #[true, false, true, true, false, false, false, false, false, false, false, false, false, false, false, false] rfl rfl (by kernel_rfl) (fun _ _ _ h => h) (Or.inl ⟨by rfl, ?_⟩) ?_ ?_
        rotate_left
        · intro w'
          go_simp
          with_reducible rfl
        rotate_left
        · simp only [Act.put, List.setIfInBounds_toArray, List.set_cons_zero, List.set_cons_succ, i64_w, i32_w]
          rfl
        refine pure_ (i := 4) (N := some 102) (v := ?_) (a' := ?_) #[true, false, true, true, true, false, false, false, false, false, false, false, false, false, false, false] rfl rfl (by kernel_rfl) (fun _ _ _ h => h) (Or.inl ⟨by rfl, ?_⟩) ?_ ?_
        rotate_left
        · intro w'
          go_simp
          with_reducible rfl
        rotate_left
        · simp only [Act.put, List.setIfInBounds_toArray, List.set_cons_zero, List.set_cons_succ, i64_w, i32_w]
          rfl
        refine pure_ (i := 7) (N := some 105) (v := ?_) (a' := ?_) #[true, false, true, true, true, false, false, true, false, false, false, false, false, false, false, false] rfl rfl (by kernel_rfl) (fun _ _ _ h => h) (Or.inl ⟨by rfl, ?_⟩) ?_ ?_
        rotate_left
        · intro w'
          go_simp
          with_reducible rfl
        rotate_left
        · simp only [Act.put, List.setIfInBounds_toArray, List.set_cons_zero, List.set_cons_succ, i64_w, i32_w]
          rfl
        refine pure_ (i := 8) (N := some 106) (v := ?_) (a' := ?_) #[true, false, true, true, true, false, false, true, true, false, false, false, false, false, false, false] rfl rfl (by kernel_rfl) (fun _ _ _ h => h) (Or.inl ⟨by rfl, ?_⟩) ?_ ?_
        rotate_left
        · intro w'
          go_simp
          with_reducible rfl
        rotate_left
        · simp only [Act.put, List.setIfInBounds_toArray, List.set_cons_zero, List.set_cons_succ, i64_w, i32_w]
          rfl
        refine pure_ (i := 9) (N := some 107) (v := ?_) (a' := ?_) #[true, false, true, true, true, false, false, true, true, true, false, false, false, false, false, false] rfl rfl (by kernel_rfl) (fun _ _ _ h => h) (Or.inl ⟨by rfl, ?_⟩) ?_ ?_
        rotate_left
        · intro w'
          go_simp
          with_reducible rfl
        rotate_left
        · simp only [Act.put, List.setIfInBounds_toArray, List.set_cons_zero, List.set_cons_succ, i64_w, i32_w]
          rfl
        refine take_ (i := 5) (N := some 103) (v := ?_) (a' := ?_) #[true, false, true, true, true, true, false, true, true, true, false, false, false, false, false, false] rfl rfl (by kernel_rfl) (fun _ _ _ h => h) (Or.inl ⟨by rfl, ?_⟩) hHeld ?_ ?_
        rotate_left
        · rintro w' ⟨s0, s1, s2⟩
          go_simp
          with_reducible rfl
        rotate_left
        · simp only [Act.put, List.setIfInBounds_toArray, List.set_cons_zero, List.set_cons_succ, i64_w, i32_w]
          rfl
        refine take_ (i := 10) (N := some 108) (v := ?_) (a' := ?_) #[true, false, true, true, true, true, false, true, true, true, true, false, false, false, false, false] rfl rfl (by kernel_rfl) (fun _ _ _ h => h) (Or.inl ⟨by rfl, ?_⟩) hHeld ?_ ?_
        rotate_left
        · rintro w' ⟨s0, s1, s2⟩
          go_simp
          with_reducible rfl
        rotate_left
        · simp only [Act.put, List.setIfInBounds_toArray, List.set_cons_zero, List.set_cons_succ, i64_w, i32_w]
          rfl
        refine join_ (σ := Value × Value × Value) 4 #[true, true, true, true, true, true, true, true, true, true, true, true, false, false, false, false] (fun q => [(99, q.1), (104, q.2.1), (109, q.2.2)]) (fun q w' => Row w' 44 2 Ent.cells q.2.1 ([] ++ ((s.l.take (a + k)))) ∧ Row w' 44 2 Ent.cells q.2.2 [x] ∧ PI W7 w' g s.base s.term (.slice A6 (a + k) c6) ((s.l.take (a + k))) ((ad.add (k * 2))) (⟨(ad.add (k * 2)).block, (ad.add (k * 2)).off + 1, none⟩) x ∧ (∀ k, q.2.1.ownBlock = some k → W7.heap.size ≤ k)) ?_ ?_
        rotate_left
        · intro hCont
          refine two_ (i := 1) (j := 11) (Ni := some 99) (Nj := some 109) #[true, true, true, true, true, true, false, true, true, true, true, false, false, false, false, false] #[true, false, true, true, true, true, false, true, true, true, true, true, false, false, false, false] rfl rfl rfl rfl (by kernel_rfl) (by decide) (by decide) (fun K hK => ?_) (fun K hK => ?_)
          · skip
            refine value_ (w1 := ?_) (v := ?_) (by rfl) rfl ?_ ?_
            rotate_left 2
            · go_simp
              constructor
              · rfl
              · rfl
            have J1 := Lib.hid (J0.out.drew.alloc (.cells #[] 44))
            have E1 := Lib.hid (Row.empty W7.drew 44 2 Ent.cells)
            refine hK.out _ _ ⟨J1.out.b.cell 2, J1.out.x0, J1.out.x1⟩ (fun hHeld => ?_)
            clear hK K
            refine norm_ (a' := ?_) ?_ ?_
            rotate_left
            · show Act.put _ (some 99) _ = _
              simp only [Act.put, List.setIfInBounds_toArray, List.set_cons_zero, List.set_cons_succ, i64_w, i32_w]
              rfl
            refine two_ (i := 6) (j := 11) (Ni := some 104) (Nj := some 109) #[true, true, true, true, true, true, true, true, true, true, true, false, false, false, false, false] #[true, true, true, true, true, true, false, true, true, true, true, true, false, false, false, false] rfl rfl rfl rfl (by kernel_rfl) (by decide) (by decide) (fun K hK => ?_) (fun K hK => ?_)
            · skip
              refine Row.appendRow_step (by rfl) (.tmp 99) (.tmp 103) 36 44 (.agg #[.int .i64 0, .string ⟨#[]⟩]) 2 24 (by rfl) Try.underlying36 info_entries rfl (by decide) (by decide) (.slice (some ⟨W7.heap.size, 0, none⟩) 0 0) (.slice A6 (a + k) c6) [] ((s.l.take (a + k))) (by rfl) (by rfl) E1.out J1.out.r (fun _ => rfl) one_ent hle.out ?_
              intro v6 w6 hR hG hO
              have J6 := Lib.hid (J1.out.grown (r := W7.heap.size) hG (by omega))
              have R6 := Lib.hid hR
              have V6 := Lib.hid (own_ge (n := W7.heap.size) (b := W7.heap.size) hO ⟨rfl, by omega⟩ (by first | exact Nat.le_refl _ | (simp <;> omega)))
              clear hR hG hO
              refine hK.out _ _ ⟨J6.out.b.cell 2, J6.out.x0, J6.out.x1⟩ (fun hHeld => ?_)
              clear hK K
              refine norm_ (a' := ?_) ?_ ?_
              rotate_left
              · show Act.put _ (some 104) _ = _
                simp only [Act.put, List.setIfInBounds_toArray, List.set_cons_zero, List.set_cons_succ, i64_w, i32_w]
                rfl
              refine one_ (i := 11) (N := some 109) #[true, true, true, true, true, true, true, true, true, true, true, true, false, false, false, false] rfl rfl (by kernel_rfl) (by decide) (fun K hK => ?_)
              refine value_ (w1 := ?_) (v := ?_) (by rfl) rfl ?_ ?_
              rotate_left 2
              · go_simp
                constructor
                · rfl
                · rfl
              have J8 := Lib.hid (J6.out.alloc (.cells #[.int .i64 x.term, .string x.data] 44))
              have N8 := Lib.hid (Row.lit1 Ent.cells w6 44 2 x #[.int .i64 x.term, .string x.data] rfl rfl)
              have R8 := Lib.hid (R6.out.alloc (.cells #[.int .i64 x.term, .string x.data] 44))
              refine hK.out _ _ ⟨J8.out.b.cell 2, J8.out.x0, J8.out.x1⟩ (fun hHeld => ?_)
              clear hK K
              refine norm_ (a' := ?_) ?_ ?_
              rotate_left
              · show Act.put _ (some 109) _ = _
                simp only [Act.put, List.setIfInBounds_toArray, List.set_cons_zero, List.set_cons_succ, i64_w, i32_w]
                rfl
              exact norm_ (by simp only [putAll, Act.put, List.setIfInBounds_toArray, List.set_cons_zero, List.set_cons_succ]) (hCont ((Value.slice (some ⟨W7.heap.size, 0, none⟩) 0 0), v6, Value.slice (some ⟨w6.heap.size, 0, none⟩) 1 1) _ ⟨R8.out, N8.out, J8.out, V6.out⟩)
            · skip
              refine value_ (w1 := ?_) (v := ?_) (by rfl) rfl ?_ ?_
              rotate_left 2
              · go_simp
                constructor
                · rfl
                · rfl
              have J8 := Lib.hid (J1.out.alloc (.cells #[.int .i64 x.term, .string x.data] 44))
              have n8 := Row.lit1 Ent.cells (W7.drew.alloc (.cells #[] 44)) 44 2 x #[.int .i64 x.term, .string x.data] rfl rfl
              simp only [World.size_alloc] at n8
              have N8 := Lib.hid n8
              clear n8
              have E8 := Lib.hid (E1.out.alloc (.cells #[.int .i64 x.term, .string x.data] 44))
              refine hK.out _ _ ⟨J8.out.b.cell 2, J8.out.x0, J8.out.x1⟩ (fun hHeld => ?_)
              clear hK K
              refine norm_ (a' := ?_) ?_ ?_
              rotate_left
              · show Act.put _ (some 109) _ = _
                simp only [Act.put, List.setIfInBounds_toArray, List.set_cons_zero, List.set_cons_succ, i64_w, i32_w]
                rfl
              refine one_ (i := 6) (N := some 104) #[true, true, true, true, true, true, true, true, true, true, true, true, false, false, false, false] rfl rfl (by kernel_rfl) (by decide) (fun K hK => ?_)
              refine Row.appendRow_step (by rfl) (.tmp 99) (.tmp 103) 36 44 (.agg #[.int .i64 0, .string ⟨#[]⟩]) 2 24 (by rfl) Try.underlying36 info_entries rfl (by decide) (by decide) (.slice (some ⟨W7.heap.size, 0, none⟩) 0 0) (.slice A6 (a + k) c6) [] ((s.l.take (a + k))) (by rfl) (by rfl) E8.out J8.out.r (fun _ => rfl) one_ent hle.out ?_
              intro v6 w6 hR hG hO
              have J6 := Lib.hid (J8.out.grown (r := W7.heap.size) hG (by omega))
              have R6 := Lib.hid hR
              have V6 := Lib.hid (own_ge (n := W7.heap.size) (b := W7.heap.size) hO ⟨rfl, by omega⟩ (by first | exact Nat.le_refl _ | (simp <;> omega)))
              have N6 := Lib.hid (N8.out.grown (row := some W7.heap.size) hG (by simp [Value.ownBlock] <;> omega))
              clear hR hG hO
              refine hK.out _ _ ⟨J6.out.b.cell 2, J6.out.x0, J6.out.x1⟩ (fun hHeld => ?_)
              clear hK K
              refine norm_ (a' := ?_) ?_ ?_
              rotate_left
              · show Act.put _ (some 104) _ = _
                simp only [Act.put, List.setIfInBounds_toArray, List.set_cons_zero, List.set_cons_succ, i64_w, i32_w]
                rfl
              exact norm_ (by simp only [putAll, Act.put, List.setIfInBounds_toArray, List.set_cons_zero, List.set_cons_succ]) (hCont ((Value.slice (some ⟨W7.heap.size, 0, none⟩) 0 0), v6, Value.slice (some ⟨W7.heap.size + 1, 0, none⟩) 1 1) _ ⟨R6.out, N6.out, J6.out, V6.out⟩)
          · skip
            refine value_ (w1 := ?_) (v := ?_) (by rfl) rfl ?_ ?_
            rotate_left 2
            · go_simp
              constructor
              · rfl
              · rfl
            have J8 := Lib.hid (J0.out.drew.alloc (.cells #[.int .i64 x.term, .string x.data] 44))
            have N8 := Lib.hid (Row.lit1 Ent.cells W7.drew 44 2 x #[.int .i64 x.term, .string x.data] rfl rfl)
            refine hK.out _ _ ⟨J8.out.b.cell 2, J8.out.x0, J8.out.x1⟩ (fun hHeld => ?_)
            clear hK K
            refine norm_ (a' := ?_) ?_ ?_
            rotate_left
            · show Act.put _ (some 109) _ = _
              simp only [Act.put, List.setIfInBounds_toArray, List.set_cons_zero, List.set_cons_succ, i64_w, i32_w]
              rfl
            refine one_ (i := 1) (N := some 99) #[true, true, true, true, true, true, false, true, true, true, true, true, false, false, false, false] rfl rfl (by kernel_rfl) (by decide) (fun K hK => ?_)
            refine value_ (w1 := ?_) (v := ?_) (by rfl) rfl ?_ ?_
            rotate_left 2
            · go_simp
              constructor
              · rfl
              · rfl
            have J1 := Lib.hid (J8.out.alloc (.cells #[] 44))
            have e1 := Row.empty (W7.drew.alloc (.cells #[.int .i64 x.term, .string x.data] 44)) 44 2 Ent.cells
            simp only [World.size_alloc] at e1
            have E1 := Lib.hid e1
            clear e1
            have N1 := Lib.hid (N8.out.alloc (.cells #[] 44))
            refine hK.out _ _ ⟨J1.out.b.cell 2, J1.out.x0, J1.out.x1⟩ (fun hHeld => ?_)
            clear hK K
            refine norm_ (a' := ?_) ?_ ?_
            rotate_left
            · show Act.put _ (some 99) _ = _
              simp only [Act.put, List.setIfInBounds_toArray, List.set_cons_zero, List.set_cons_succ, i64_w, i32_w]
              rfl
            refine one_ (i := 6) (N := some 104) #[true, true, true, true, true, true, true, true, true, true, true, true, false, false, false, false] rfl rfl (by kernel_rfl) (by decide) (fun K hK => ?_)
            refine Row.appendRow_step (by rfl) (.tmp 99) (.tmp 103) 36 44 (.agg #[.int .i64 0, .string ⟨#[]⟩]) 2 24 (by rfl) Try.underlying36 info_entries rfl (by decide) (by decide) (.slice (some ⟨(W7.heap.size + 1), 0, none⟩) 0 0) (.slice A6 (a + k) c6) [] ((s.l.take (a + k))) (by rfl) (by rfl) E1.out J1.out.r (fun _ => rfl) one_ent hle.out ?_
            intro v6 w6 hR hG hO
            have J6 := Lib.hid (J1.out.grown (r := (W7.heap.size + 1)) hG (by omega))
            have R6 := Lib.hid hR
            have V6 := Lib.hid (own_ge (n := W7.heap.size) (b := (W7.heap.size + 1)) hO ⟨rfl, by omega⟩ (by first | exact Nat.le_refl _ | (simp <;> omega)))
            have N6 := Lib.hid (N1.out.grown (row := some (W7.heap.size + 1)) hG (by simp [Value.ownBlock] <;> omega))
            clear hR hG hO
            refine hK.out _ _ ⟨J6.out.b.cell 2, J6.out.x0, J6.out.x1⟩ (fun hHeld => ?_)
            clear hK K
            refine norm_ (a' := ?_) ?_ ?_
            rotate_left
            · show Act.put _ (some 104) _ = _
              simp only [Act.put, List.setIfInBounds_toArray, List.set_cons_zero, List.set_cons_succ, i64_w, i32_w]
              rfl
            exact norm_ (by simp only [putAll, Act.put, List.setIfInBounds_toArray, List.set_cons_zero, List.set_cons_succ]) (hCont ((Value.slice (some ⟨W7.heap.size + 1, 0, none⟩) 0 0), v6, Value.slice (some ⟨W7.heap.size, 0, none⟩) 1 1) _ ⟨R6.out, N6.out, J6.out, V6.out⟩)
        rintro ⟨v31, v36, v38⟩ w7 ⟨fr, fn, fj, fv⟩
        have R7 := Lib.hid fr
        have N7 := Lib.hid fn
        have J7 := Lib.hid fj
        have V7 := Lib.hid fv
        have hHeld := (show (w7.cell? ⟨g, 2, none⟩ = some (.slice A6 (a + k) c6) ∧ w7.cell? (ad.add (k * 2)) = some (.int .i64 x.term) ∧ w7.cell? ⟨(ad.add (k * 2)).block, (ad.add (k * 2)).off + 1, none⟩ = some (.string x.data)) from ⟨fj.b.cell 2, fj.x0, fj.x1⟩)
        clear fr fn fj fv
        refine norm_ (a' := ?_) ?_ ?_
        rotate_left
        · simp only [putAll, Act.put, List.setIfInBounds_toArray, List.set_cons_zero, List.set_cons_succ]
          rfl
        refine one_ (i := 12) (N := some 110) #[true, true, true, true, true, true, true, true, true, true, true, true, true, false, false, false] rfl rfl (by kernel_rfl) (by decide) (fun K hK => ?_)
        refine Row.appendRow_step (by rfl) (.tmp 104) (.tmp 109) 36 44 (.agg #[.int .i64 0, .string ⟨#[]⟩]) 2 24 (by rfl) Try.underlying36 info_entries rfl (by decide) (by decide) v36 v38 ([] ++ ((s.l.take (a + k)))) [x] (by rfl) (by rfl) R7.out N7.out (fun _ => rfl) one_ent hle2.out ?_
        intro v9 w9 hR hG hO
        obtain ⟨A9, m9, c9, rfl⟩ := hR.some_slice
        have J9 := Lib.hid (J7.out.grownV hG (fun k e => V7.out k e))
        have R9 := Lib.hid hR
        have V9 := Lib.hid (own_ge2 hO (fun k e => V7.out k e) J7.out.z)
        have hc9 := J9.out.b.cell 2
        have hf9 := J9.out.b.frozen 2
        clear hR hG hO
        refine hK.out _ _ ⟨J9.out.b.cell 2, J9.out.x0, J9.out.x1⟩ (fun hHeld => ?_)
        clear hK K
        refine norm_ (a' := ?_) ?_ ?_
        rotate_left
        · show Act.put _ (some 110) _ = _
          simp only [Act.put, List.setIfInBounds_toArray, List.set_cons_zero, List.set_cons_succ, i64_w, i32_w]
          rfl
        refine pure_ (i := 13) (N := some 111) (v := ?_) (a' := ?_) #[true, true, true, true, true, true, true, true, true, true, true, true, true, true, false, false] rfl rfl (by kernel_rfl) (fun _ _ _ h => h) (Or.inl ⟨by rfl, ?_⟩) ?_ ?_
        rotate_left
        · intro w'
          go_simp
          with_reducible rfl
        rotate_left
        · simp only [Act.put, List.setIfInBounds_toArray, List.set_cons_zero, List.set_cons_succ, i64_w, i32_w]
          rfl
        refine pure_ (i := 14) (N := some 112) (v := ?_) (a' := ?_) #[true, true, true, true, true, true, true, true, true, true, true, true, true, true, true, false] rfl rfl (by kernel_rfl) (fun _ _ _ h => h) (Or.inl ⟨by rfl, ?_⟩) ?_ ?_
        rotate_left
        · intro w'
          go_simp
          with_reducible rfl
        rotate_left
        · simp only [Act.put, List.setIfInBounds_toArray, List.set_cons_zero, List.set_cons_succ, i64_w, i32_w]
          rfl
        refine last_ (i := 15) (N := none) #[true, true, true, true, true, true, true, true, true, true, true, true, true, true, true, true] rfl rfl (by kernel_rfl) (by decide) (fun K hK => ?_)
        refine skip_ (w1 := ?_) (by rfl) rfl ?_ ?_
        rotate_left
        · go_simp
          rfl
        refine hK.out _ _ ?_
        clear hK K
        refine done_ (by kernel_rfl) ?_

        have hr := R9.out
        rw [List.nil_append] at hr
        have hk9 : Kept w9 (w9.setCell ⟨g, 2, none⟩ (.slice A9 m9 c9)) (fun k => k = g) := (Kept.refl w9 (fun k => k = g)).setCell (p := ⟨g, 2, none⟩) (.inl rfl) _
        have HP9 := Lib.hid (RAt.reset HP8.out.2 J9.out.k hr (fun k e => V9.out k e) hk9 (J9.out.b.set_ 2 _))
        clear hr hk9
        go_wp2
        go_roundg (n - (k + 1))
        case measure => omega

        case rel => exact ⟨k + 1, by omega, Nat.le_refl _, by rw [HE2.out], by go_num, by rw [HE2.out]; exact Lib.hid (HP8.out.trans HP9.out)⟩
      · obtain ⟨lk, hlk⟩ : ∃ lk, (RM s.l a l k).1 = lk := ⟨_, rfl⟩
        rw [hlk] at H1 HBg b2 HR e1 e2 hlenk
        obtain ⟨p, hp⟩ : ∃ p, lk.length = p := ⟨_, rfl⟩
        rw [hp] at b2 HBg
        have hpk : p = a + k := by omega
        have HPK := Lib.hid hpk
        have HLK := Lib.hid hp
        have H1p := Lib.hid (show Row wr 44 2 Ent.cells (.slice A1 p c1) lk by have := H1.out; rwa [hp] at this)
        have q1 : decide ((a : Int) + (k : Int) < (p : Int)) = false := decide_eq_false (by omega)
        have q2 : decide ((p : Int) ≤ (a : Int) + (k : Int)) = true := decide_eq_true (by omega)
        have hlek : p ≤ 2097152 := by omega
        have HE2 := Lib.hid e2
        have HLK2 := Lib.hid hlk
        clear e1 e2 hlenk hp hpk hlk H1
        go_wp2_with (fail)
        go_quiet (fail)
        generalize hWq : World.drewN wr _ = Wq
        have HRq := Lib.hid (show RPost w F g ⟨s.base, s.term, lk⟩ Wq from hWq ▸ ⟨HR.out.1.drewN _, HR.out.2.below (pw_drewN (Below.refl _ _) _)⟩)
        have HBq := Lib.hid (show Blk Wq g 52 #[.int .i64 s.base, .int .i64 s.term, .slice A1 p c1] from hWq ▸ HBg.out.drewN _)
        have H1q := Lib.hid (show Row Wq 44 2 Ent.cells (.slice A1 p c1) lk from hWq ▸ H1p.out.drewN _)
        have x0 : Wq.cell? (ad.add (k * 2)) = some (.int .i64 x.term) := hWq ▸ HX0.out
        have x1 : Wq.cell? ⟨(ad.add (k * 2)).block, (ad.add (k * 2)).off + 1, none⟩ = some (.string x.data) := hWq ▸ HX1.out
        have hgeq : (ad.add (k * 2)).block < Wq.heap.size := World.block_lt_of_cell? _ _ x0
        have bq0 := HBq.out.cell 0
        have bq2 := HBq.out.cell 2
        have hgq := HBq.out.lt
        have J0 := Lib.hid (show PI Wq Wq g s.base s.term (.slice A1 p c1) lk (ad.add (k * 2)) ⟨(ad.add (k * 2)).block, (ad.add (k * 2)).off + 1, none⟩ x from ⟨HBq.out, x0, x1, H1q.out, Below.refl _ _, HBq.out.lt, fun q e => H1q.out.lt e, hgeq, hgeq⟩)
        have hle := Lib.hid (show (([] : List Ent).length + lk.length) * 24 ≤ 140737488355328 by have := HLK.out; simp only [List.length_nil]; omega)
        have hle2 := Lib.hid (show (([] ++ lk).length + [x].length) * 24 ≤ 140737488355328 by have := HLK.out; simp only [List.nil_append, List.length_cons, List.length_nil]; omega)
        clear hWq b0 b2 HBg H1p HR
        go_wp2_with (fail)
        refine start_ (n := 16) (S := fun w' => w'.cell? ⟨g, 2, none⟩ = some (.slice A1 p c1) ∧ w'.cell? (ad.add (k * 2)) = some (.int .i64 x.term) ∧ w'.cell? ⟨(ad.add (k * 2)).block, (ad.add (k * 2)).off + 1, none⟩ = some (.string x.data)) (ds := [15]) #[false, false, false, false, false, false, false, false, false, false, false, false, false, false, false, false] (by kernel_rfl) rfl rfl ⟨J0.out.drew.b.cell 2, J0.out.drew.x0, J0.out.drew.x1⟩ (fun hHeld => ?_)
        refine pure_ (i := 0) (N := some 98) (v := ?_) (a' := ?_) #[true, false, false, false, false, false, false, false, false, false, false, false, false, false, false, false] rfl rfl (by kernel_rfl) (fun _ _ _ h => h) (Or.inl ⟨by rfl, ?_⟩) ?_ ?_
        rotate_left
        · intro w'
          go_simp
          with_reducible rfl
        rotate_left
        · simp only [Act.put, List.setIfInBounds_toArray, List.set_cons_zero, List.set_cons_succ, i64_w, i32_w]
          rfl
        refine pure_ (i := 2) (N := some 100) (v := ?_) (a' := ?_) #[true, false, true, false, false, false, false, false, false, false, false, false, false, false, false, false] rfl rfl (by kernel_rfl) (fun _ _ _ h => h) (Or.inl ⟨by rfl, ?_⟩) ?_ ?_
        rotate_left
        · intro w'
          go_simp
          with_reducible rfl
        rotate_left
        · simp only [Act.put, List.setIfInBounds_toArray, List.set_cons_zero, List.set_cons_succ, i64_w, i32_w]
          rfl
        refine pure_ (i := 3) (N := some 101) (v := ?_) (a' := ?_) #[true, false, true, true, false, false, false, false, false, false, false, false, false, false, false, false] rfl rfl (by kernel_rfl) (fun _ _ _ h => h) (Or.inl ⟨by rfl, ?_⟩) ?_ ?_
        rotate_left
        · intro w'
          go_simp
          with_reducible rfl
        rotate_left
        · simp only [Act.put, List.setIfInBounds_toArray, List.set_cons_zero, List.set_cons_succ, i64_w, i32_w]
          rfl
        refine pure_ (i := 4) (N := some 102) (v := ?_) (a' := ?_) #[true, false, true, true, true, false, false, false, false, false, false, false, false, false, false, false] rfl rfl (by kernel_rfl) (fun _ _ _ h => h) (Or.inl ⟨by rfl, ?_⟩) ?_ ?_
        rotate_left
        · intro w'
          go_simp
          with_reducible rfl
        rotate_left
        · simp only [Act.put, List.setIfInBounds_toArray, List.set_cons_zero, List.set_cons_succ, i64_w, i32_w]
          rfl
        refine pure_ (i := 7) (N := some 105) (v := ?_) (a' := ?_) #[true, false, true, true, true, false, false, true, false, false, false, false, false, false, false, false] rfl rfl (by kernel_rfl) (fun _ _ _ h => h) (Or.inl ⟨by rfl, ?_⟩) ?_ ?_
        rotate_left
        · intro w'
          go_simp
          with_reducible rfl
        rotate_left
        · simp only [Act.put, List.setIfInBounds_toArray, List.set_cons_zero, List.set_cons_succ, i64_w, i32_w]
          rfl
        refine pure_ (i := 8) (N := some 106) (v := ?_) (a' := ?_) #[true, false, true, true, true, false, false, true, true, false, false, false, false, false, false, false] rfl rfl (by kernel_rfl) (fun _ _ _ h => h) (Or.inl ⟨by rfl, ?_⟩) ?_ ?_
        rotate_left
        · intro w'
          go_simp
          with_reducible rfl
        rotate_left
        · simp only [Act.put, List.setIfInBounds_toArray, List.set_cons_zero, List.set_cons_succ, i64_w, i32_w]
          rfl
        refine pure_ (i := 9) (N := some 107) (v := ?_) (a' := ?_) #[true, false, true, true, true, false, false, true, true, true, false, false, false, false, false, false] rfl rfl (by kernel_rfl) (fun _ _ _ h => h) (Or.inl ⟨by rfl, ?_⟩) ?_ ?_
        rotate_left
        · intro w'
          go_simp
          with_reducible rfl
        rotate_left
        · simp only [Act.put, List.setIfInBounds_toArray, List.set_cons_zero, List.set_cons_succ, i64_w, i32_w]
          rfl
        refine take_ (i := 5) (N := some 103) (v := ?_) (a' := ?_) #[true, false, true, true, true, true, false, true, true, true, false, false, false, false, false, false] rfl rfl (by kernel_rfl) (fun _ _ _ h => h) (Or.inl ⟨by rfl, ?_⟩) hHeld ?_ ?_
        rotate_left
        · rintro w' ⟨s0, s1, s2⟩
          go_simp
          with_reducible rfl
        rotate_left
        · simp only [Act.put, List.setIfInBounds_toArray, List.set_cons_zero, List.set_cons_succ, i64_w, i32_w]
          rfl
        refine take_ (i := 10) (N := some 108) (v := ?_) (a' := ?_) #[true, false, true, true, true, true, false, true, true, true, true, false, false, false, false, false] rfl rfl (by kernel_rfl) (fun _ _ _ h => h) (Or.inl ⟨by rfl, ?_⟩) hHeld ?_ ?_
        rotate_left
        · rintro w' ⟨s0, s1, s2⟩
          go_simp
          with_reducible rfl
        rotate_left
        · simp only [Act.put, List.setIfInBounds_toArray, List.set_cons_zero, List.set_cons_succ, i64_w, i32_w]
          rfl
        refine join_ (σ := Value × Value × Value) 4 #[true, true, true, true, true, true, true, true, true, true, true, true, false, false, false, false] (fun q => [(99, q.1), (104, q.2.1), (109, q.2.2)]) (fun q w' => Row w' 44 2 Ent.cells q.2.1 ([] ++ (lk)) ∧ Row w' 44 2 Ent.cells q.2.2 [x] ∧ PI Wq w' g s.base s.term (.slice A1 p c1) (lk) ((ad.add (k * 2))) (⟨(ad.add (k * 2)).block, (ad.add (k * 2)).off + 1, none⟩) x ∧ (∀ k, q.2.1.ownBlock = some k → Wq.heap.size ≤ k)) ?_ ?_
        rotate_left
        · intro hCont
          refine two_ (i := 1) (j := 11) (Ni := some 99) (Nj := some 109) #[true, true, true, true, true, true, false, true, true, true, true, false, false, false, false, false] #[true, false, true, true, true, true, false, true, true, true, true, true, false, false, false, false] rfl rfl rfl rfl (by kernel_rfl) (by decide) (by decide) (fun K hK => ?_) (fun K hK => ?_)
          · skip
            refine value_ (w1 := ?_) (v := ?_) (by rfl) rfl ?_ ?_
            rotate_left 2
            · go_simp
              constructor
              · rfl
              · rfl
            have J1 := Lib.hid (J0.out.drew.alloc (.cells #[] 44))
            have E1 := Lib.hid (Row.empty Wq.drew 44 2 Ent.cells)
            refine hK.out _ _ ⟨J1.out.b.cell 2, J1.out.x0, J1.out.x1⟩ (fun hHeld => ?_)
            clear hK K
            refine norm_ (a' := ?_) ?_ ?_
            rotate_left
            · show Act.put _ (some 99) _ = _
              simp only [Act.put, List.setIfInBounds_toArray, List.set_cons_zero, List.set_cons_succ, i64_w, i32_w]
              rfl
            refine two_ (i := 6) (j := 11) (Ni := some 104) (Nj := some 109) #[true, true, true, true, true, true, true, true, true, true, true, false, false, false, false, false] #[true, true, true, true, true, true, false, true, true, true, true, true, false, false, false, false] rfl rfl rfl rfl (by kernel_rfl) (by decide) (by decide) (fun K hK => ?_) (fun K hK => ?_)
            · skip
              refine Row.appendRow_step (by rfl) (.tmp 99) (.tmp 103) 36 44 (.agg #[.int .i64 0, .string ⟨#[]⟩]) 2 24 (by rfl) Try.underlying36 info_entries rfl (by decide) (by decide) (.slice (some ⟨Wq.heap.size, 0, none⟩) 0 0) (.slice A1 p c1) [] (lk) (by rfl) (by rfl) E1.out J1.out.r (fun _ => rfl) one_ent hle.out ?_
              intro v6 w6 hR hG hO
              have J6 := Lib.hid (J1.out.grown (r := Wq.heap.size) hG (by omega))
              have R6 := Lib.hid hR
              have V6 := Lib.hid (own_ge (n := Wq.heap.size) (b := Wq.heap.size) hO ⟨rfl, by omega⟩ (by first | exact Nat.le_refl _ | (simp <;> omega)))
              clear hR hG hO
              refine hK.out _ _ ⟨J6.out.b.cell 2, J6.out.x0, J6.out.x1⟩ (fun hHeld => ?_)
              clear hK K
              refine norm_ (a' := ?_) ?_ ?_
              rotate_left
              · show Act.put _ (some 104) _ = _
                simp only [Act.put, List.setIfInBounds_toArray, List.set_cons_zero, List.set_cons_succ, i64_w, i32_w]
                rfl
              refine one_ (i := 11) (N := some 109) #[true, true, true, true, true, true, true, true, true, true, true, true, false, false, false, false] rfl rfl (by kernel_rfl) (by decide) (fun K hK => ?_)
              refine value_ (w1 := ?_) (v := ?_) (by rfl) rfl ?_ ?_
              rotate_left 2
              · go_simp
                constructor
                · rfl
                · rfl
              have J8 := Lib.hid (J6.out.alloc (.cells #[.int .i64 x.term, .string x.data] 44))
              have N8 := Lib.hid (Row.lit1 Ent.cells w6 44 2 x #[.int .i64 x.term, .string x.data] rfl rfl)
              have R8 := Lib.hid (R6.out.alloc (.cells #[.int .i64 x.term, .string x.data] 44))
              refine hK.out _ _ ⟨J8.out.b.cell 2, J8.out.x0, J8.out.x1⟩ (fun hHeld => ?_)
              clear hK K
              refine norm_ (a' := ?_) ?_ ?_
              rotate_left
              · show Act.put _ (some 109) _ = _
                simp only [Act.put, List.setIfInBounds_toArray, List.set_cons_zero, List.set_cons_succ, i64_w, i32_w]
                rfl
              exact norm_ (by simp only [putAll, Act.put, List.setIfInBounds_toArray, List.set_cons_zero, List.set_cons_succ]) (hCont ((Value.slice (some ⟨Wq.heap.size, 0, none⟩) 0 0), v6, Value.slice (some ⟨w6.heap.size, 0, none⟩) 1 1) _ ⟨R8.out, N8.out, J8.out, V6.out⟩)
            · skip
              refine value_ (w1 := ?_) (v := ?_) (by rfl) rfl ?_ ?_
              rotate_left 2
              · go_simp
                constructor
                · rfl
                · rfl
              have J8 := Lib.hid (J1.out.alloc (.cells #[.int .i64 x.term, .string x.data] 44))
              have n8 := Row.lit1 Ent.cells (Wq.drew.alloc (.cells #[] 44)) 44 2 x #[.int .i64 x.term, .string x.data] rfl rfl
              simp only [World.size_alloc] at n8
              have N8 := Lib.hid n8
              clear n8
              have E8 := Lib.hid (E1.out.alloc (.cells #[.int .i64 x.term, .string x.data] 44))
              refine hK.out _ _ ⟨J8.out.b.cell 2, J8.out.x0, J8.out.x1⟩ (fun hHeld => ?_)
              clear hK K
              refine norm_ (a' := ?_) ?_ ?_
              rotate_left
              · show Act.put _ (some 109) _ = _
                simp only [Act.put, List.setIfInBounds_toArray, List.set_cons_zero, List.set_cons_succ, i64_w, i32_w]
                rfl
              refine one_ (i := 6) (N := some 104) #[true, true, true, true, true, true, true, true, true, true, true, true, false, false, false, false] rfl rfl (by kernel_rfl) (by decide) (fun K hK => ?_)
              refine Row.appendRow_step (by rfl) (.tmp 99) (.tmp 103) 36 44 (.agg #[.int .i64 0, .string ⟨#[]⟩]) 2 24 (by rfl) Try.underlying36 info_entries rfl (by decide) (by decide) (.slice (some ⟨Wq.heap.size, 0, none⟩) 0 0) (.slice A1 p c1) [] (lk) (by rfl) (by rfl) E8.out J8.out.r (fun _ => rfl) one_ent hle.out ?_
              intro v6 w6 hR hG hO
              have J6 := Lib.hid (J8.out.grown (r := Wq.heap.size) hG (by omega))
              have R6 := Lib.hid hR
              have V6 := Lib.hid (own_ge (n := Wq.heap.size) (b := Wq.heap.size) hO ⟨rfl, by omega⟩ (by first | exact Nat.le_refl _ | (simp <;> omega)))
              have N6 := Lib.hid (N8.out.grown (row := some Wq.heap.size) hG (by simp [Value.ownBlock] <;> omega))
              clear hR hG hO
              refine hK.out _ _ ⟨J6.out.b.cell 2, J6.out.x0, J6.out.x1⟩ (fun hHeld => ?_)
              clear hK K
              refine norm_ (a' := ?_) ?_ ?_
              rotate_left
              · show Act.put _ (some 104) _ = _
                simp only [Act.put, List.setIfInBounds_toArray, List.set_cons_zero, List.set_cons_succ, i64_w, i32_w]
                rfl
              exact norm_ (by simp only [putAll, Act.put, List.setIfInBounds_toArray, List.set_cons_zero, List.set_cons_succ]) (hCont ((Value.slice (some ⟨Wq.heap.size, 0, none⟩) 0 0), v6, Value.slice (some ⟨Wq.heap.size + 1, 0, none⟩) 1 1) _ ⟨R6.out, N6.out, J6.out, V6.out⟩)
          · skip
            refine value_ (w1 := ?_) (v := ?_) (by rfl) rfl ?_ ?_
            rotate_left 2
            · go_simp
              constructor
              · rfl
              · rfl
            have J8 := Lib.hid (J0.out.drew.alloc (.cells #[.int .i64 x.term, .string x.data] 44))
            have N8 := Lib.hid (Row.lit1 Ent.cells Wq.drew 44 2 x #[.int .i64 x.term, .string x.data] rfl rfl)
            refine hK.out _ _ ⟨J8.out.b.cell 2, J8.out.x0, J8.out.x1⟩ (fun hHeld => ?_)
            clear hK K
            refine norm_ (a' := ?_) ?_ ?_
            rotate_left
            · show Act.put _ (some 109) _ = _
              simp only [Act.put, List.setIfInBounds_toArray, List.set_cons_zero, List.set_cons_succ, i64_w, i32_w]
              rfl
            refine one_ (i := 1) (N := some 99) #[true, true, true, true, true, true, false, true, true, true, true, true, false, false, false, false] rfl rfl (by kernel_rfl) (by decide) (fun K hK => ?_)
            refine value_ (w1 := ?_) (v := ?_) (by rfl) rfl ?_ ?_
            rotate_left 2
            · go_simp
              constructor
              · rfl
              · rfl
            have J1 := Lib.hid (J8.out.alloc (.cells #[] 44))
            have e1 := Row.empty (Wq.drew.alloc (.cells #[.int .i64 x.term, .string x.data] 44)) 44 2 Ent.cells
            simp only [World.size_alloc] at e1
            have E1 := Lib.hid e1
            clear e1
            have N1 := Lib.hid (N8.out.alloc (.cells #[] 44))
            refine hK.out _ _ ⟨J1.out.b.cell 2, J1.out.x0, J1.out.x1⟩ (fun hHeld => ?_)
            clear hK K
            refine norm_ (a' := ?_) ?_ ?_
            rotate_left
            · show Act.put _ (some 99) _ = _
              simp only [Act.put, List.setIfInBounds_toArray, List.set_cons_zero, List.set_cons_succ, i64_w, i32_w]
              rfl
            refine one_ (i := 6) (N := some 104) #[true, true, true, true, true, true, true, true, true, true, true, true, false, false, false, false] rfl rfl (by kernel_rfl) (by decide) (fun K hK => ?_)
            refine Row.appendRow_step (by rfl) (.tmp 99) (.tmp 103) 36 44 (.agg #[.int .i64 0, .string ⟨#[]⟩]) 2 24 (by rfl) Try.underlying36 info_entries rfl (by decide) (by decide) (.slice (some ⟨(Wq.heap.size + 1), 0, none⟩) 0 0) (.slice A1 p c1) [] (lk) (by rfl) (by rfl) E1.out J1.out.r (fun _ => rfl) one_ent hle.out ?_
            intro v6 w6 hR hG hO
            have J6 := Lib.hid (J1.out.grown (r := (Wq.heap.size + 1)) hG (by omega))
            have R6 := Lib.hid hR
            have V6 := Lib.hid (own_ge (n := Wq.heap.size) (b := (Wq.heap.size + 1)) hO ⟨rfl, by omega⟩ (by first | exact Nat.le_refl _ | (simp <;> omega)))
            have N6 := Lib.hid (N1.out.grown (row := some (Wq.heap.size + 1)) hG (by simp [Value.ownBlock] <;> omega))
            clear hR hG hO
            refine hK.out _ _ ⟨J6.out.b.cell 2, J6.out.x0, J6.out.x1⟩ (fun hHeld => ?_)
            clear hK K
            refine norm_ (a' := ?_) ?_ ?_
            rotate_left
            · show Act.put _ (some 104) _ = _
              simp only [Act.put, List.setIfInBounds_toArray, List.set_cons_zero, List.set_cons_succ, i64_w, i32_w]
              rfl
            exact norm_ (by simp only [putAll, Act.put, List.setIfInBounds_toArray, List.set_cons_zero, List.set_cons_succ]) (hCont ((Value.slice (some ⟨Wq.heap.size + 1, 0, none⟩) 0 0), v6, Value.slice (some ⟨Wq.heap.size, 0, none⟩) 1 1) _ ⟨R6.out, N6.out, J6.out, V6.out⟩)
        rintro ⟨v31, v36, v38⟩ w7 ⟨fr, fn, fj, fv⟩
        have R7 := Lib.hid fr
        have N7 := Lib.hid fn
        have J7 := Lib.hid fj
        have V7 := Lib.hid fv
        have hHeld := (show (w7.cell? ⟨g, 2, none⟩ = some (.slice A1 p c1) ∧ w7.cell? (ad.add (k * 2)) = some (.int .i64 x.term) ∧ w7.cell? ⟨(ad.add (k * 2)).block, (ad.add (k * 2)).off + 1, none⟩ = some (.string x.data)) from ⟨fj.b.cell 2, fj.x0, fj.x1⟩)
        clear fr fn fj fv
        refine norm_ (a' := ?_) ?_ ?_
        rotate_left
        · simp only [putAll, Act.put, List.setIfInBounds_toArray, List.set_cons_zero, List.set_cons_succ]
          rfl
        refine one_ (i := 12) (N := some 110) #[true, true, true, true, true, true, true, true, true, true, true, true, true, false, false, false] rfl rfl (by kernel_rfl) (by decide) (fun K hK => ?_)
        refine Row.appendRow_step (by rfl) (.tmp 104) (.tmp 109) 36 44 (.agg #[.int .i64 0, .string ⟨#[]⟩]) 2 24 (by rfl) Try.underlying36 info_entries rfl (by decide) (by decide) v36 v38 ([] ++ (lk)) [x] (by rfl) (by rfl) R7.out N7.out (fun _ => rfl) one_ent hle2.out ?_
        intro v9 w9 hR hG hO
        obtain ⟨A9, m9, c9, rfl⟩ := hR.some_slice
        have J9 := Lib.hid (J7.out.grownV hG (fun k e => V7.out k e))
        have R9 := Lib.hid hR
        have V9 := Lib.hid (own_ge2 hO (fun k e => V7.out k e) J7.out.z)
        have hc9 := J9.out.b.cell 2
        have hf9 := J9.out.b.frozen 2
        clear hR hG hO
        refine hK.out _ _ ⟨J9.out.b.cell 2, J9.out.x0, J9.out.x1⟩ (fun hHeld => ?_)
        clear hK K
        refine norm_ (a' := ?_) ?_ ?_
        rotate_left
        · show Act.put _ (some 110) _ = _
          simp only [Act.put, List.setIfInBounds_toArray, List.set_cons_zero, List.set_cons_succ, i64_w, i32_w]
          rfl
        refine pure_ (i := 13) (N := some 111) (v := ?_) (a' := ?_) #[true, true, true, true, true, true, true, true, true, true, true, true, true, true, false, false] rfl rfl (by kernel_rfl) (fun _ _ _ h => h) (Or.inl ⟨by rfl, ?_⟩) ?_ ?_
        rotate_left
        · intro w'
          go_simp
          with_reducible rfl
        rotate_left
        · simp only [Act.put, List.setIfInBounds_toArray, List.set_cons_zero, List.set_cons_succ, i64_w, i32_w]
          rfl
        refine pure_ (i := 14) (N := some 112) (v := ?_) (a' := ?_) #[true, true, true, true, true, true, true, true, true, true, true, true, true, true, true, false] rfl rfl (by kernel_rfl) (fun _ _ _ h => h) (Or.inl ⟨by rfl, ?_⟩) ?_ ?_
        rotate_left
        · intro w'
          go_simp
          with_reducible rfl
        rotate_left
        · simp only [Act.put, List.setIfInBounds_toArray, List.set_cons_zero, List.set_cons_succ, i64_w, i32_w]
          rfl
        refine last_ (i := 15) (N := none) #[true, true, true, true, true, true, true, true, true, true, true, true, true, true, true, true] rfl rfl (by kernel_rfl) (by decide) (fun K hK => ?_)
        refine skip_ (w1 := ?_) (by rfl) rfl ?_ ?_
        rotate_left
        · go_simp
          rfl
        refine hK.out _ _ ?_
        clear hK K
        refine done_ (by kernel_rfl) ?_

        have hr := R9.out
        rw [List.nil_append] at hr
        have hk9 : Kept w9 (w9.setCell ⟨g, 2, none⟩ (.slice A9 m9 c9)) (fun k => k = g) := (Kept.refl w9 (fun k => k = g)).setCell (p := ⟨g, 2, none⟩) (.inl rfl) _
        have HP9 := Lib.hid (RAt.reset HRq.out.2 J9.out.k hr (fun k e => V9.out k e) hk9 (J9.out.b.set_ 2 _))
        clear hr hk9
        go_wp2
        go_roundg (n - (k + 1))
        case measure => omega

        case rel => exact ⟨k + 1, by omega, Nat.le_refl _, by rw [HE2.out], by go_num, by rw [HE2.out]; exact Lib.hid (HRq.out.trans HP9.out)⟩
    · obtain rfl : k = n := by omega
      have hltz : ¬ (k : Int) < (k : Int) := by omega
      have hre := HRES.out
      subst hre
      clear hlt
      go_wp2
      go_ret3
      exact ⟨rfl, HR.out⟩
end Go.Proofs.Ytpimpdgibcjbeaa
