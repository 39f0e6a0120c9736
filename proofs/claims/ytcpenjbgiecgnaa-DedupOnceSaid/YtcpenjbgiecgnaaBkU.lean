import Derived.Test.YtcpenjbgiecgnaaBkT
namespace Go.Proofs.Ytcpenjbgiecgnaa
open Go Go.RowKit
open Go.Proofs.YtcpenjbgiecgnaaW.PrintWords Go.Proofs.YtcpenjbgiecgnaaW.PrintLast Go.Proofs.YtcpenjbgiecgnaaW.PrintMore
set_option linter.unusedVariables false
set_option linter.unusedSimpArgs false
set_option maxRecDepth 100000

set_option maxHeartbeats 32000000 in
theorem once_walk (depth : Int) (A : Option Addr) (len cap : Nat) (rows : List (List Value)) (A2 : Option Addr) (len2 cap2 : Nat) (rows2 : List (List Value)) (w : World) (w0 : (Lit.int .i64 depth).wf = true) (w1 : Open.Rows w [.int .i64, .int .i64] A len cap rows) (y1 : len * Try.prog.bytesOf 31 ≤ 140737488351232) (w2 : Open.Rows w [.int .i64] A2 len2 cap2 rows2) (y2 : len2 * Try.prog.bytesOf 3 ≤ 140737488351232) :
    Calls Try.prog 5 #[.int .i64 depth, .slice A len cap, .slice A2 len2 cap2] w fun e w' => e = .returned (.bool true) ∧ Below w.heap.size w w' := by
  obtain ⟨f, hF⟩ := args_of w1 KeyK.cells (fun _ => True) 2 rfl keyK_of
  obtain ⟨f2, hF2⟩ := int_args w2
  have hlen : len ≤ 9223372036854775807 := by have h1 := w1.2.1; have h2 := w1.2.2.1; unfold maxLen at h2; omega
  have hlen2 : len2 ≤ 9223372036854775807 := by have h1 := w2.2.1; have h2 := w2.2.2.1; unfold maxLen at h2; omega
  have HF := Lib.hid hF
  have HF2 := Lib.hid hF2
  clear hF hF2 w1 y1 w0 w2 y2
  have hmm := @run_makeMap Try.prog
  go_enter Try.func5, Try.ntmps5
  have hc := works_calls w
  go_wp2_with (fail)
  refine hc.mono ?_
  rintro e wa ⟨rfl, hba⟩
  have HBa := Lib.hid hba
  clear hba hc
  have hc := among_calls depth 64 (by decide) wa
  go_wp2_with (fail)
  refine hc.mono ?_
  rintro e wb ⟨rfl, rfl⟩
  clear hc
  have hab := amg_bounds depth 64 (by decide) (by decide)
  obtain ⟨d0, hd0⟩ := Int.eq_ofNat_of_zero_le hab.1
  rw [hd0] at hab ⊢
  clear hd0
  obtain ⟨d, hd⟩ : ∃ d : Nat, d = d0 + 1 := ⟨_, rfl⟩
  have hd1 : 1 ≤ d := by omega
  have hd64 : d ≤ 64 := by omega
  have hdw : IntKind.i64.wrap (1 + (d0 : Int)) = (d : Int) := by rw [IntKind.wrap_i64]; omega
  have hdw2 : 1 + (d0 : Int) = (d : Int) := by omega
  have HD := Lib.hid (show (d0 : Int) + 1 = (d : Int) by omega)
  have hc := bk_new d wb hd1 hd64
  clear hab
  go_wp2_with (fail)
  rw [HD.out]
  clear hd hdw hdw2
  refine hc.mono ?_
  rintro e wc ⟨g, rfl, F, h1, h2, h3⟩
  have P := Lib.hid (LB.mk h1 (fun k hk => Nat.le_trans HBa.out.size (h3 k hk)) (HBa.out.trans (h2.mono HBa.out.size)))
  clear hc h1 h2 h3
  have K0 := Lib.hid (show KO w (wc.alloc (.map #[] 0)) F g d 0 (fun _ => []) wc.heap.size 0 (fun _ => none) from
    ⟨P.out.alloc _, KMap.made wc, fun hf => by have := P.out.bk.lt _ hf; omega, P.out.h.size⟩)
  have HM := Lib.hid (OP.start d)
  clear P
  go_wp2_with (fail)
  generalize wc.alloc (.map #[] 0) = W0 at K0 ⊢
  generalize wc.heap.size = mb at K0 ⊢
  clear hmm
  go_loopg [7, 10] 200 (fun gg s7 s10 wr => ∃ (k nb n g : Nat) (S Q : Int → List Int) (fd : Int × Int → Option Int) (F : Nat → Prop), k ≤ len ∧ k ≤ 200 ∧ 200 - k ≤ gg ∧ s10 = .int .i64 k ∧ s7 = .pointer (some ⟨g, 0, none⟩) ∧ nb ≤ 256 + k ∧ n ≤ k ∧ Hid (OP d S Q fd) ∧ Hid (KO w wr F g d nb S mb n fd))
  case atStart => exact ⟨0, 0, 0, g, _, _, _, F, Nat.zero_le _, by omega, by omega, rfl, rfl, by omega, Nat.le_refl _, HM, K0⟩
  case round =>
    clear HM K0
    obtain ⟨k, nb, n, g, S, Q, fd, F, hk1, hk2, hgg, rfl, rfl, hnb, hn, HP, HB⟩ := hrel
    by_cases hlt : k < len ∧ k < 200
    · obtain ⟨hlt, h200⟩ := hlt
      have g1 : (k : Int) < (len : Int) := by omega
      have g2 : (k : Int) < 200 := by omega
      have g0 : (0 : Int) ≤ (k : Int) := by omega
      obtain ⟨ad, hA, hcell⟩ := (HF.out.below HB.out.lb.h).2 (by omega)
      obtain rfl := hA
      have c0 := hcell k hlt 0 _ rfl
      have c1 := hcell k hlt 1 _ rfl
      clear hcell
      generalize f k = a at c0 c1
      obtain ⟨ac, av⟩ := a
      simp only [adr, KeyK.cells, List.getElem?_cons_zero, List.getElem?_cons_succ, Nat.zero_add] at c0 c1
      have hx := amg_bounds ac 4 (by decide) (by decide)
      have hy := amg_bounds av 100 (by decide) (by decide)
      have HA5 := Lib.hid (among_calls ac 4 (by decide))
      have HA11 := Lib.hid (among_calls av 100 (by decide))
      generalize amg ac 4 = c at hx HA5
      generalize amg av 100 = y at hy HA11
      obtain ⟨x, hxy⟩ : ∃ x : Int, x = 1 + y := ⟨_, rfl⟩
      have hw1 : IntKind.i64.wrap (1 + y) = x := by rw [IntKind.wrap_i64]; omega
      have hx1 := hx.1
      have hx2 : c ≤ 1000 := by omega
      have hx3 : c ≤ 3 := by omega
      have hn3 : 1 ≤ x := by omega
      have hn4 : x ≤ 1048576 := by omega
      have hn5 : x ≤ 100 := by omega
      clear hxy
      have HC0 := Lib.hid (fun (w' : World) (hb : Below wr.heap.size wr w') => (hb.cell (World.block_lt_of_cell? wr _ c0)).trans c0)
      have HC1 := Lib.hid (fun (w' : World) (hb : Below wr.heap.size wr w') => (hb.cell (p := ⟨(ad.add (k * 2)).block, (ad.add (k * 2)).off + 1, none⟩) (World.block_lt_of_cell? wr _ c1)).trans c1)
      have B0 := Lib.hid (Kept.below ((Kept.refl wr fun _ => False).drew) (Nat.le_refl _) (fun _ _ h => h))
      clear hx hy c0 c1
      go_wp2_with (fail)
      refine start_ (n := 16) (S := fun w' => w'.cell? (ad.add (k * 2)) = some (.int .i64 ac) ∧ w'.cell? ⟨(ad.add (k * 2)).block, (ad.add (k * 2)).off + 1, none⟩ = some (.int .i64 av)) (ds := [15]) #[false, false, false, false, false, false, false, false, false, false, false, false, false, false, false, false] (by kernel_rfl) rfl rfl ⟨HC0.out _ B0.out, HC1.out _ B0.out⟩ (fun hHeld => ?_)
      refine pure_ (i := 0) (N := some 46) (v := ?_) (a' := ?_) #[true, false, false, false, false, false, false, false, false, false, false, false, false, false, false, false] rfl rfl (by kernel_rfl) (fun _ _ _ h => h) (Or.inl ⟨by rfl, ?_⟩) ?_ ?_
      rotate_left
      · intro w'
        go_simp
        with_reducible rfl
      rotate_left
      · simp only [Act.put, List.setIfInBounds_toArray, List.set_cons_zero, List.set_cons_succ, i64_w, i32_w]
        rfl
      refine pure_ (i := 1) (N := some 47) (v := ?_) (a' := ?_) #[true, true, false, false, false, false, false, false, false, false, false, false, false, false, false, false] rfl rfl (by kernel_rfl) (fun _ _ _ h => h) (Or.inl ⟨by rfl, ?_⟩) ?_ ?_
      rotate_left
      · intro w'
        go_simp
        with_reducible rfl
      rotate_left
      · simp only [Act.put, List.setIfInBounds_toArray, List.set_cons_zero, List.set_cons_succ, i64_w, i32_w]
        rfl
      refine pure_ (i := 2) (N := some 48) (v := ?_) (a' := ?_) #[true, true, true, false, false, false, false, false, false, false, false, false, false, false, false, false] rfl rfl (by kernel_rfl) (fun _ _ _ h => h) (Or.inl ⟨by rfl, ?_⟩) ?_ ?_
      rotate_left
      · intro w'
        go_simp
        with_reducible rfl
      rotate_left
      · simp only [Act.put, List.setIfInBounds_toArray, List.set_cons_zero, List.set_cons_succ, i64_w, i32_w]
        rfl
      refine pure_ (i := 3) (N := some 49) (v := ?_) (a' := ?_) #[true, true, true, true, false, false, false, false, false, false, false, false, false, false, false, false] rfl rfl (by kernel_rfl) (fun _ _ _ h => h) (Or.inl ⟨by rfl, ?_⟩) ?_ ?_
      rotate_left
      · intro w'
        go_simp
        with_reducible rfl
      rotate_left
      · simp only [Act.put, List.setIfInBounds_toArray, List.set_cons_zero, List.set_cons_succ, i64_w, i32_w]
        rfl
      refine pure_ (i := 6) (N := some 52) (v := ?_) (a' := ?_) #[true, true, true, true, false, false, true, false, false, false, false, false, false, false, false, false] rfl rfl (by kernel_rfl) (fun _ _ _ h => h) (Or.inl ⟨by rfl, ?_⟩) ?_ ?_
      rotate_left
      · intro w'
        go_simp
        with_reducible rfl
      rotate_left
      · simp only [Act.put, List.setIfInBounds_toArray, List.set_cons_zero, List.set_cons_succ, i64_w, i32_w]
        rfl
      refine pure_ (i := 7) (N := some 53) (v := ?_) (a' := ?_) #[true, true, true, true, false, false, true, true, false, false, false, false, false, false, false, false] rfl rfl (by kernel_rfl) (fun _ _ _ h => h) (Or.inl ⟨by rfl, ?_⟩) ?_ ?_
      rotate_left
      · intro w'
        go_simp
        with_reducible rfl
      rotate_left
      · simp only [Act.put, List.setIfInBounds_toArray, List.set_cons_zero, List.set_cons_succ, i64_w, i32_w]
        rfl
      refine pure_ (i := 8) (N := some 54) (v := ?_) (a' := ?_) #[true, true, true, true, false, false, true, true, true, false, false, false, false, false, false, false] rfl rfl (by kernel_rfl) (fun _ _ _ h => h) (Or.inl ⟨by rfl, ?_⟩) ?_ ?_
      rotate_left
      · intro w'
        go_simp
        with_reducible rfl
      rotate_left
      · simp only [Act.put, List.setIfInBounds_toArray, List.set_cons_zero, List.set_cons_succ, i64_w, i32_w]
        rfl
      refine pure_ (i := 9) (N := some 55) (v := ?_) (a' := ?_) #[true, true, true, true, false, false, true, true, true, true, false, false, false, false, false, false] rfl rfl (by kernel_rfl) (fun _ _ _ h => h) (Or.inl ⟨by rfl, ?_⟩) ?_ ?_
      rotate_left
      · intro w'
        go_simp
        with_reducible rfl
      rotate_left
      · simp only [Act.put, List.setIfInBounds_toArray, List.set_cons_zero, List.set_cons_succ, i64_w, i32_w]
        rfl
      refine take_ (i := 4) (N := some 50) (v := ?_) (a' := ?_) #[true, true, true, true, true, false, true, true, true, true, false, false, false, false, false, false] rfl rfl (by kernel_rfl) (fun _ _ _ h => h) (Or.inl ⟨by rfl, ?_⟩) hHeld ?_ ?_
      rotate_left
      · rintro w' ⟨s0, s1⟩
        go_simp
        with_reducible rfl
      rotate_left
      · simp only [Act.put, List.setIfInBounds_toArray, List.set_cons_zero, List.set_cons_succ, i64_w, i32_w]
        rfl
      refine take_ (i := 10) (N := some 56) (v := ?_) (a' := ?_) #[true, true, true, true, true, false, true, true, true, true, true, false, false, false, false, false] rfl rfl (by kernel_rfl) (fun _ _ _ h => h) (Or.inl ⟨by rfl, ?_⟩) hHeld ?_ ?_
      rotate_left
      · rintro w' ⟨s0, s1⟩
        go_simp
        with_reducible rfl
      rotate_left
      · simp only [Act.put, List.setIfInBounds_toArray, List.set_cons_zero, List.set_cons_succ, i64_w, i32_w]
        rfl
      refine join_ (σ := Nat) 1 #[true, true, true, true, true, true, true, true, true, true, true, true, true, true, true, false] (fun q => [(51, .int .i64 c), (57, .int .i64 y), (58, .int .i64 x), (59, .agg #[.int .i64 c, .int .i64 x]), (11, .pointer (some ⟨q, 0, none⟩))]) (fun q w' => Below wr.heap.size wr w' ∧ (Blk w' q 31 #[.int .i64 0, .int .i64 0] ∧ wr.heap.size ≤ q)) ?_ ?_
      rotate_left
      · intro hJ5_11_14
        refine join_ (σ := Nat) 2 #[true, true, true, true, true, true, true, true, true, true, true, true, true, true, false, false] (fun q => [(51, .int .i64 c), (57, .int .i64 y), (58, .int .i64 x), (59, .agg #[.int .i64 c, .int .i64 x])]) (fun q w' => Below wr.heap.size wr w' ∧ True) ?_ ?_
        rotate_left
        · intro hJ5_11
          refine join_ (σ := Nat) 4 #[true, true, true, true, true, true, true, true, true, true, true, false, false, false, true, false] (fun q => [(51, .int .i64 c), (11, .pointer (some ⟨q, 0, none⟩))]) (fun q w' => Below wr.heap.size wr w' ∧ (Blk w' q 31 #[.int .i64 0, .int .i64 0] ∧ wr.heap.size ≤ q)) ?_ ?_
          rotate_left
          · intro hJ5_14
            refine join_ (σ := Nat) 5 #[true, true, true, true, true, true, true, true, true, true, true, false, false, false, false, false] (fun q => [(51, .int .i64 c)]) (fun q w' => Below wr.heap.size wr w' ∧ True) ?_ ?_
            rotate_left
            · intro hJ5
              refine join_ (σ := Nat) 5 #[true, true, true, true, true, false, true, true, true, true, true, false, false, false, true, false] (fun q => [(11, .pointer (some ⟨q, 0, none⟩))]) (fun q w' => Below wr.heap.size wr w' ∧ (Blk w' q 31 #[.int .i64 0, .int .i64 0] ∧ wr.heap.size ≤ q)) ?_ ?_
              rotate_left
              · intro hJ14
                refine two_ (i := 5) (j := 14) (Ni := some 51) (Nj := some 11) #[true, true, true, true, true, true, true, true, true, true, true, false, false, false, false, false] #[true, true, true, true, true, false, true, true, true, true, true, false, false, false, true, false] rfl rfl rfl rfl (by kernel_rfl) (by decide) (by decide) (fun K hK => ?_) (fun K hK => ?_)
                · skip
                  refine goes_ Try.func7 (by kernel_rfl) rfl #[.int .i64 ac, .int .i64 4] (by rfl) rfl rfl (by simp only [List.map_toArray, List.map_cons, List.map_nil]; rfl) ?_
                  with_reducible refine (HA5.out wr.drew).mono ?_
                  rintro e w8 ⟨rfl, hw8⟩
                  refine ⟨_, rfl, ?_⟩
                  have B8 := Lib.hid (hw8 ▸ B0.out)
                  refine hK.out _ _ ⟨HC0.out _ B8.out, HC1.out _ B8.out⟩ (fun hHeld => ?_)
                  clear hK K
                  refine norm_ (a' := ?_) ?_ ?_
                  rotate_left
                  · show Act.put _ (some 51) _ = _
                    simp only [Act.put, List.setIfInBounds_toArray, List.set_cons_zero, List.set_cons_succ, i64_w, i32_w]
                    rfl
                  exact norm_ (by first | (simp only [putAll, Act.put, List.setIfInBounds_toArray, List.set_cons_zero, List.set_cons_succ]; done) | (simp only [putAll, Act.put, List.setIfInBounds_toArray, List.set_cons_zero, List.set_cons_succ]; rfl)) (hJ5 0 _ ⟨B8.out, trivial⟩)
                · skip
                  refine value_ (w1 := ?_) (v := ?_) (by rfl) rfl ?_ ?_
                  rotate_left 2
                  · go_simp
                    constructor
                    · rfl
                    · rfl
                  have B8 := Lib.hid (B0.out.alloc B0.out.size (.cells #[.int .i64 0, .int .i64 0] 31))
                  have X8 := Lib.hid (And.intro (Blk.new wr.drew 31 #[.int .i64 0, .int .i64 0]) B0.out.size)
                  refine hK.out _ _ ⟨HC0.out _ B8.out, HC1.out _ B8.out⟩ (fun hHeld => ?_)
                  clear hK K
                  refine norm_ (a' := ?_) ?_ ?_
                  rotate_left
                  · show Act.put _ (some 11) _ = _
                    simp only [Act.put, List.setIfInBounds_toArray, List.set_cons_zero, List.set_cons_succ, i64_w, i32_w]
                    rfl
                  exact norm_ (by first | (simp only [putAll, Act.put, List.setIfInBounds_toArray, List.set_cons_zero, List.set_cons_succ]; done) | (simp only [putAll, Act.put, List.setIfInBounds_toArray, List.set_cons_zero, List.set_cons_succ]; rfl)) (hJ14 wr.drew.heap.size _ ⟨B8.out, X8.out⟩)
              · skip
                rintro p7 w7 ⟨b7, x7⟩
                have B7 := Lib.hid b7
                have X7 := Lib.hid x7
                have hHeld := (show (w7.cell? (ad.add (k * 2)) = some (.int .i64 ac) ∧ w7.cell? ⟨(ad.add (k * 2)).block, (ad.add (k * 2)).off + 1, none⟩ = some (.int .i64 av)) from ⟨HC0.out _ B7.out, HC1.out _ B7.out⟩)
                clear b7 x7
                refine norm_ (a' := ?_) ?_ ?_
                rotate_left
                · simp only [putAll, Act.put, List.setIfInBounds_toArray, List.set_cons_zero, List.set_cons_succ]
                  rfl
                refine one_ (i := 5) (N := some 51) #[true, true, true, true, true, true, true, true, true, true, true, false, false, false, true, false] rfl rfl (by kernel_rfl) (by decide) (fun K hK => ?_)
                refine goes_ Try.func7 (by kernel_rfl) rfl #[.int .i64 ac, .int .i64 4] (by rfl) rfl rfl (by simp only [List.map_toArray, List.map_cons, List.map_nil]; rfl) ?_
                with_reducible refine (HA5.out w7).mono ?_
                rintro e w8 ⟨rfl, hw8⟩
                refine ⟨_, rfl, ?_⟩
                have B8 := Lib.hid (hw8 ▸ B7.out)
                have X8 := Lib.hid (hw8 ▸ X7.out)
                refine hK.out _ _ ⟨HC0.out _ B8.out, HC1.out _ B8.out⟩ (fun hHeld => ?_)
                clear hK K
                refine norm_ (a' := ?_) ?_ ?_
                rotate_left
                · show Act.put _ (some 51) _ = _
                  simp only [Act.put, List.setIfInBounds_toArray, List.set_cons_zero, List.set_cons_succ, i64_w, i32_w]
                  rfl
                exact norm_ (by first | (simp only [putAll, Act.put, List.setIfInBounds_toArray, List.set_cons_zero, List.set_cons_succ]; done) | (simp only [putAll, Act.put, List.setIfInBounds_toArray, List.set_cons_zero, List.set_cons_succ]; rfl)) (hJ5_14 p7 _ ⟨B8.out, X8.out⟩)
            · skip
              rintro p7 w7 ⟨b7, x7⟩
              have B7 := Lib.hid b7
              have X7 := Lib.hid x7
              have hHeld := (show (w7.cell? (ad.add (k * 2)) = some (.int .i64 ac) ∧ w7.cell? ⟨(ad.add (k * 2)).block, (ad.add (k * 2)).off + 1, none⟩ = some (.int .i64 av)) from ⟨HC0.out _ B7.out, HC1.out _ B7.out⟩)
              clear b7 x7
              refine norm_ (a' := ?_) ?_ ?_
              rotate_left
              · simp only [putAll, Act.put, List.setIfInBounds_toArray, List.set_cons_zero, List.set_cons_succ]
                rfl
              refine two_ (i := 11) (j := 14) (Ni := some 57) (Nj := some 11) #[true, true, true, true, true, true, true, true, true, true, true, true, false, false, false, false] #[true, true, true, true, true, true, true, true, true, true, true, false, false, false, true, false] rfl rfl rfl rfl (by kernel_rfl) (by decide) (by decide) (fun K hK => ?_) (fun K hK => ?_)
              · skip
                refine goes_ Try.func7 (by kernel_rfl) rfl #[.int .i64 av, .int .i64 100] (by rfl) rfl rfl (by simp only [List.map_toArray, List.map_cons, List.map_nil]; rfl) ?_
                with_reducible refine (HA11.out w7).mono ?_
                rintro e w8 ⟨rfl, hw8⟩
                refine ⟨_, rfl, ?_⟩
                have B8 := Lib.hid (hw8 ▸ B7.out)
                refine hK.out _ _ ⟨HC0.out _ B8.out, HC1.out _ B8.out⟩ (fun hHeld => ?_)
                clear hK K
                refine norm_ (a' := ?_) ?_ ?_
                rotate_left
                · show Act.put _ (some 57) _ = _
                  simp only [Act.put, List.setIfInBounds_toArray, List.set_cons_zero, List.set_cons_succ, i64_w, i32_w]
                  rfl
                refine pure_ (i := 12) (N := some 58) (v := ?_) (a' := ?_) #[true, true, true, true, true, true, true, true, true, true, true, true, true, false, false, false] rfl rfl (by kernel_rfl) (fun _ _ _ h => h) (Or.inl ⟨by rfl, ?_⟩) ?_ ?_
                rotate_left
                · intro w'
                  go_simp
                  with_reducible rfl
                rotate_left
                · simp only [Act.put, List.setIfInBounds_toArray, List.set_cons_zero, List.set_cons_succ, i64_w, i32_w]
                  rfl
                refine pure_ (i := 13) (N := some 59) (v := ?_) (a' := ?_) #[true, true, true, true, true, true, true, true, true, true, true, true, true, true, false, false] rfl rfl (by kernel_rfl) (fun _ _ _ h => h) (Or.inl ⟨by rfl, ?_⟩) ?_ ?_
                rotate_left
                · intro w'
                  go_simp
                  with_reducible rfl
                rotate_left
                · simp only [Act.put, List.setIfInBounds_toArray, List.set_cons_zero, List.set_cons_succ, i64_w, i32_w]
                  rfl
                exact norm_ (by first | (simp only [putAll, Act.put, List.setIfInBounds_toArray, List.set_cons_zero, List.set_cons_succ]; done) | (simp only [putAll, Act.put, List.setIfInBounds_toArray, List.set_cons_zero, List.set_cons_succ]; rfl)) (hJ5_11 0 _ ⟨B8.out, trivial⟩)
              · skip
                refine value_ (w1 := ?_) (v := ?_) (by rfl) rfl ?_ ?_
                rotate_left 2
                · go_simp
                  constructor
                  · rfl
                  · rfl
                have B8 := Lib.hid (B7.out.alloc B7.out.size (.cells #[.int .i64 0, .int .i64 0] 31))
                have X8 := Lib.hid (And.intro (Blk.new w7 31 #[.int .i64 0, .int .i64 0]) B7.out.size)
                refine hK.out _ _ ⟨HC0.out _ B8.out, HC1.out _ B8.out⟩ (fun hHeld => ?_)
                clear hK K
                refine norm_ (a' := ?_) ?_ ?_
                rotate_left
                · show Act.put _ (some 11) _ = _
                  simp only [Act.put, List.setIfInBounds_toArray, List.set_cons_zero, List.set_cons_succ, i64_w, i32_w]
                  rfl
                exact norm_ (by first | (simp only [putAll, Act.put, List.setIfInBounds_toArray, List.set_cons_zero, List.set_cons_succ]; done) | (simp only [putAll, Act.put, List.setIfInBounds_toArray, List.set_cons_zero, List.set_cons_succ]; rfl)) (hJ5_14 w7.heap.size _ ⟨B8.out, X8.out⟩)
          · skip
            rintro p7 w7 ⟨b7, x7⟩
            have B7 := Lib.hid b7
            have X7 := Lib.hid x7
            have hHeld := (show (w7.cell? (ad.add (k * 2)) = some (.int .i64 ac) ∧ w7.cell? ⟨(ad.add (k * 2)).block, (ad.add (k * 2)).off + 1, none⟩ = some (.int .i64 av)) from ⟨HC0.out _ B7.out, HC1.out _ B7.out⟩)
            clear b7 x7
            refine norm_ (a' := ?_) ?_ ?_
            rotate_left
            · simp only [putAll, Act.put, List.setIfInBounds_toArray, List.set_cons_zero, List.set_cons_succ]
              rfl
            refine one_ (i := 11) (N := some 57) #[true, true, true, true, true, true, true, true, true, true, true, true, false, false, true, false] rfl rfl (by kernel_rfl) (by decide) (fun K hK => ?_)
            refine goes_ Try.func7 (by kernel_rfl) rfl #[.int .i64 av, .int .i64 100] (by rfl) rfl rfl (by simp only [List.map_toArray, List.map_cons, List.map_nil]; rfl) ?_
            with_reducible refine (HA11.out w7).mono ?_
            rintro e w8 ⟨rfl, hw8⟩
            refine ⟨_, rfl, ?_⟩
            have B8 := Lib.hid (hw8 ▸ B7.out)
            have X8 := Lib.hid (hw8 ▸ X7.out)
            refine hK.out _ _ ⟨HC0.out _ B8.out, HC1.out _ B8.out⟩ (fun hHeld => ?_)
            clear hK K
            refine norm_ (a' := ?_) ?_ ?_
            rotate_left
            · show Act.put _ (some 57) _ = _
              simp only [Act.put, List.setIfInBounds_toArray, List.set_cons_zero, List.set_cons_succ, i64_w, i32_w]
              rfl
            refine pure_ (i := 12) (N := some 58) (v := ?_) (a' := ?_) #[true, true, true, true, true, true, true, true, true, true, true, true, true, false, true, false] rfl rfl (by kernel_rfl) (fun _ _ _ h => h) (Or.inl ⟨by rfl, ?_⟩) ?_ ?_
            rotate_left
            · intro w'
              go_simp
              with_reducible rfl
            rotate_left
            · simp only [Act.put, List.setIfInBounds_toArray, List.set_cons_zero, List.set_cons_succ, i64_w, i32_w]
              rfl
            refine pure_ (i := 13) (N := some 59) (v := ?_) (a' := ?_) #[true, true, true, true, true, true, true, true, true, true, true, true, true, true, true, false] rfl rfl (by kernel_rfl) (fun _ _ _ h => h) (Or.inl ⟨by rfl, ?_⟩) ?_ ?_
            rotate_left
            · intro w'
              go_simp
              with_reducible rfl
            rotate_left
            · simp only [Act.put, List.setIfInBounds_toArray, List.set_cons_zero, List.set_cons_succ, i64_w, i32_w]
              rfl
            exact norm_ (by first | (simp only [putAll, Act.put, List.setIfInBounds_toArray, List.set_cons_zero, List.set_cons_succ]; done) | (simp only [putAll, Act.put, List.setIfInBounds_toArray, List.set_cons_zero, List.set_cons_succ]; rfl)) (hJ5_11_14 p7 _ ⟨B8.out, X8.out⟩)
        · skip
          rintro p7 w7 ⟨b7, x7⟩
          have B7 := Lib.hid b7
          have X7 := Lib.hid x7
          have hHeld := (show (w7.cell? (ad.add (k * 2)) = some (.int .i64 ac) ∧ w7.cell? ⟨(ad.add (k * 2)).block, (ad.add (k * 2)).off + 1, none⟩ = some (.int .i64 av)) from ⟨HC0.out _ B7.out, HC1.out _ B7.out⟩)
          clear b7 x7
          refine norm_ (a' := ?_) ?_ ?_
          rotate_left
          · simp only [putAll, Act.put, List.setIfInBounds_toArray, List.set_cons_zero, List.set_cons_succ]
            rfl
          refine one_ (i := 14) (N := some 11) #[true, true, true, true, true, true, true, true, true, true, true, true, true, true, true, false] rfl rfl (by kernel_rfl) (by decide) (fun K hK => ?_)
          refine value_ (w1 := ?_) (v := ?_) (by rfl) rfl ?_ ?_
          rotate_left 2
          · go_simp
            constructor
            · rfl
            · rfl
          have B8 := Lib.hid (B7.out.alloc B7.out.size (.cells #[.int .i64 0, .int .i64 0] 31))
          have X8 := Lib.hid (And.intro (Blk.new w7 31 #[.int .i64 0, .int .i64 0]) B7.out.size)
          refine hK.out _ _ ⟨HC0.out _ B8.out, HC1.out _ B8.out⟩ (fun hHeld => ?_)
          clear hK K
          refine norm_ (a' := ?_) ?_ ?_
          rotate_left
          · show Act.put _ (some 11) _ = _
            simp only [Act.put, List.setIfInBounds_toArray, List.set_cons_zero, List.set_cons_succ, i64_w, i32_w]
            rfl
          exact norm_ (by first | (simp only [putAll, Act.put, List.setIfInBounds_toArray, List.set_cons_zero, List.set_cons_succ]; done) | (simp only [putAll, Act.put, List.setIfInBounds_toArray, List.set_cons_zero, List.set_cons_succ]; rfl)) (hJ5_11_14 w7.heap.size _ ⟨B8.out, X8.out⟩)
      rintro p7 w7 ⟨b7, x7⟩
      have B7 := Lib.hid b7
      have X7 := Lib.hid x7
      have hHeld := (show (w7.cell? (ad.add (k * 2)) = some (.int .i64 ac) ∧ w7.cell? ⟨(ad.add (k * 2)).block, (ad.add (k * 2)).off + 1, none⟩ = some (.int .i64 av)) from ⟨HC0.out _ B7.out, HC1.out _ B7.out⟩)
      clear b7 x7
      refine norm_ (a' := ?_) ?_ ?_
      rotate_left
      · simp only [putAll, Act.put, List.setIfInBounds_toArray, List.set_cons_zero, List.set_cons_succ]
        rfl
      refine last_ (i := 15) (N := none) #[true, true, true, true, true, true, true, true, true, true, true, true, true, true, true, true] rfl rfl (by kernel_rfl) (by decide) (fun K hK => ?_)
      have y0 := X7.out.1.cell 0
      have y1 := X7.out.1.cell 1
      have z0 := X7.out.1.frozen 0
      have z1 := X7.out.1.frozen 1
      have hxl := X7.out.1.lt
      refine skip_ (w1 := ?_) (by rfl) rfl ?_ ?_
      rotate_left
      · go_simp
        rfl
      refine hK.out _ _ ?_
      clear hK K
      refine done_ (by kernel_rfl) ?_
      have b5 := (X7.out.1.set_ 0 (.int .i64 c)).set_ 1 (.int .i64 x)
      have k5 := ((Kept.refl w7 fun k => k = p7).setCell (p := ⟨p7, 0, none⟩) (.inl rfl) (.int .i64 c)).setCell (p := ⟨p7, 1, none⟩) (.inl rfl) (.int .i64 x)
      have l5 : Below wr.heap.size w7 _ := k5.below B7.out.size (fun k hk e => by have := X7.out.2; omega)
      generalize ((w7.setCell ⟨p7, 0, none⟩ (.int .i64 c)).setCell ⟨p7, 1, none⟩ (.int .i64 x)) = W5 at b5 k5 l5 ⊢
      have X5 := Lib.hid (show Blk W5 p7 31 #[.int .i64 c, .int .i64 x] from b5)
      have D5 := Lib.hid (HB.out.below (B7.out.trans l5))
      have HPG := Lib.hid (show wr.heap.size ≤ p7 from X7.out.2)
      have hFr := Lib.hid HB.out.lb.bk.lt
      have HBL := Lib.hid HB.out.km.lt
      clear b5 k5 l5 X7 B7 B0 HA5 HA11 hw1 HB hHeld HC0 HC1
      have y0 := X5.out.cell 0
      have y1 := X5.out.cell 1
      have hc := bk_ask F g d nb S c x W5 D5.out.lb.bk hx1 hx2 hn3 hn4
      go_wp2_with (fail)
      refine hc.mono ?_
      rintro e w8 ⟨hb8, hq⟩
      have D8 := Lib.hid (D5.out.below hb8)
      have X8 := Lib.hid (X5.out.kept (Kept.of_below hb8 fun _ => False) (fun h => h))
      clear hc hb8 D5 X5 y0 y1
      have hkw := Lib.hid (show kwf (c, x) from ⟨(keyI (n := c) ⟨hx1, by omega⟩).1, (keyI (n := x) ⟨by omega, by omega⟩).1⟩)
      rcases hq with ⟨hin, rv, rfl, ho, _⟩ | ⟨hni, rfl⟩
      · obtain ⟨g9, c9, rfl, _, _⟩ := One.form ho
        unfold askHit
        have HIN := Lib.hid hin
        have BY := Lib.hid (Blk.new w8 38 #[.int .i64 c, .int .i64 x, .slice (some ⟨g9, 0, none⟩) 1 c9, .int .i64 0, .int .i64 0])
        have O9 := Lib.hid (ho.alloc (.cells #[.int .i64 c, .int .i64 x, .slice (some ⟨g9, 0, none⟩) 1 c9, .int .i64 0, .int .i64 0] 38))
        have D9 := Lib.hid (D8.out.alloc (.cells #[.int .i64 c, .int .i64 x, .slice (some ⟨g9, 0, none⟩) 1 c9, .int .i64 0, .int .i64 0] 38))
        have X9 := Lib.hid (X8.out.alloc (.cells #[.int .i64 c, .int .i64 x, .slice (some ⟨g9, 0, none⟩) 1 c9, .int .i64 0, .int .i64 0] 38))
        clear ho hin D8 X8
        go_wp2_with (fail)
        generalize w8.alloc (.cells #[.int .i64 c, .int .i64 x, .slice (some ⟨g9, 0, none⟩) 1 c9, .int .i64 0, .int .i64 0] 38) = W9 at BY O9 D9 X9 ⊢
        have O9 := Lib.hid (One.below O9.out (Kept.below ((Kept.refl W9 fun _ => False).drew) (Nat.le_refl _) (fun _ _ h => h)))
        have HH1 := Lib.hid (HP.out.hit HIN.out)
        refine start_ (n := 14) (S := fun w' => w'.cell? ⟨p7, 0, none⟩ = some (.int .i64 c) ∧ w'.cell? ⟨p7, 1, none⟩ = some (.int .i64 x) ∧ w'.cell? ⟨w8.heap.size, 0, none⟩ = some (.int .i64 c) ∧ w'.cell? ⟨w8.heap.size, 1, none⟩ = some (.int .i64 x) ∧ w'.cell? ⟨w8.heap.size, 2, none⟩ = some (.slice (some ⟨g9, 0, none⟩) 1 c9) ∧ w'.cell? ⟨w8.heap.size, 3, none⟩ = some (.int .i64 0) ∧ w'.cell? ⟨w8.heap.size, 4, none⟩ = some (.int .i64 0) ∧ (Instr.lookup 45 (.map (some mb)) (.agg #[.int .i64 c, .int .i64 x]) false).run Try.prog w' = .ok (.int .i64 1) w') (ds := [11]) #[false, false, false, false, false, false, false, false, false, false, false, false, false, false] (by kernel_rfl) rfl rfl ⟨X9.out.cell 0, X9.out.cell 1, BY.out.cell 0, BY.out.cell 1, BY.out.cell 2, BY.out.cell 3, BY.out.cell 4, D9.out.drew.km.lookE hkw.out HH1.out⟩ (fun hHeld => ?_)
        refine pure_ (i := 0) (N := some 114) (v := ?_) (a' := ?_) #[true, false, false, false, false, false, false, false, false, false, false, false, false, false] rfl rfl (by kernel_rfl) (fun _ _ _ h => h) (Or.inl ⟨by rfl, ?_⟩) ?_ ?_
        rotate_left
        · intro w'
          go_simp
          with_reducible rfl
        rotate_left
        · simp only [Act.put, List.setIfInBounds_toArray, List.set_cons_zero, List.set_cons_succ, i64_w, i32_w]
          rfl
        refine take_ (i := 1) (N := some 115) (v := ?_) (a' := ?_) #[true, true, false, false, false, false, false, false, false, false, false, false, false, false] rfl rfl (by kernel_rfl) (fun _ _ _ h => h) (Or.inl ⟨by rfl, ?_⟩) hHeld ?_ ?_
        rotate_left
        · rintro w' ⟨s0, s1, s2, s3, s4, s5, s6, s7⟩
          go_simp
          with_reducible rfl
        rotate_left
        · simp only [Act.put, List.setIfInBounds_toArray, List.set_cons_zero, List.set_cons_succ, i64_w, i32_w]
          rfl
        refine take_ (i := 2) (N := some 116) (v := ?_) (a' := ?_) #[true, true, true, false, false, false, false, false, false, false, false, false, false, false] rfl rfl (by kernel_rfl) (fun _ _ _ h => h) (Or.inl ⟨by rfl, ?_⟩) hHeld ?_ ?_
        rotate_left
        · rintro w' ⟨s0, s1, s2, s3, s4, s5, s6, s7⟩
          go_simp
          with_reducible rfl
        rotate_left
        · simp only [Act.put, List.setIfInBounds_toArray, List.set_cons_zero, List.set_cons_succ, i64_w, i32_w]
          rfl
        refine pure_ (i := 3) (N := some 117) (v := ?_) (a' := ?_) #[true, true, true, true, false, false, false, false, false, false, false, false, false, false] rfl rfl (by kernel_rfl) (fun _ _ _ h => h) (Or.inl ⟨by rfl, ?_⟩) ?_ ?_
        rotate_left
        · intro w'
          go_simp
          with_reducible rfl
        rotate_left
        · simp only [Act.put, List.setIfInBounds_toArray, List.set_cons_zero, List.set_cons_succ, i64_w, i32_w]
          rfl
        refine pure_ (i := 4) (N := some 118) (v := ?_) (a' := ?_) #[true, true, true, true, true, false, false, false, false, false, false, false, false, false] rfl rfl (by kernel_rfl) (fun _ _ _ h => h) (Or.inl ⟨by rfl, ?_⟩) ?_ ?_
        rotate_left
        · intro w'
          go_simp
          with_reducible rfl
        rotate_left
        · simp only [Act.put, List.setIfInBounds_toArray, List.set_cons_zero, List.set_cons_succ, i64_w, i32_w]
          rfl
        refine pure_ (i := 6) (N := some 120) (v := ?_) (a' := ?_) #[true, true, true, true, true, false, true, false, false, false, false, false, false, false] rfl rfl (by kernel_rfl) (fun _ _ _ h => h) (Or.inl ⟨by rfl, ?_⟩) ?_ ?_
        rotate_left
        · intro w'
          go_simp
          with_reducible rfl
        rotate_left
        · simp only [Act.put, List.setIfInBounds_toArray, List.set_cons_zero, List.set_cons_succ, i64_w, i32_w]
          rfl
        refine pure_ (i := 8) (N := some 122) (v := ?_) (a' := ?_) #[true, true, true, true, true, false, true, false, true, false, false, false, false, false] rfl rfl (by kernel_rfl) (fun _ _ _ h => h) (Or.inl ⟨by rfl, ?_⟩) ?_ ?_
        rotate_left
        · intro w'
          go_simp
          with_reducible rfl
        rotate_left
        · simp only [Act.put, List.setIfInBounds_toArray, List.set_cons_zero, List.set_cons_succ, i64_w, i32_w]
          rfl
        refine take_ (i := 5) (N := some 119) (v := ?_) (a' := ?_) #[true, true, true, true, true, true, true, false, true, false, false, false, false, false] rfl rfl (by kernel_rfl) (fun _ _ _ h => h) (Or.inl ⟨by rfl, ?_⟩) hHeld ?_ ?_
        rotate_left
        · rintro w' ⟨s0, s1, s2, s3, s4, s5, s6, s7⟩
          go_simp
          with_reducible rfl
        rotate_left
        · simp only [Act.put, List.setIfInBounds_toArray, List.set_cons_zero, List.set_cons_succ, i64_w, i32_w]
          rfl
        refine take_ (i := 7) (N := some 121) (v := ?_) (a' := ?_) #[true, true, true, true, true, true, true, true, true, false, false, false, false, false] rfl rfl (by kernel_rfl) (fun _ _ _ h => h) (Or.inl ⟨by rfl, ?_⟩) hHeld ?_ ?_
        rotate_left
        · rintro w' ⟨s0, s1, s2, s3, s4, s5, s6, s7⟩
          go_simp
          with_reducible rfl
        rotate_left
        · simp only [Act.put, List.setIfInBounds_toArray, List.set_cons_zero, List.set_cons_succ, i64_w, i32_w]
          rfl
        refine take_ (i := 9) (N := some 123) (v := ?_) (a' := ?_) #[true, true, true, true, true, true, true, true, true, true, false, false, false, false] rfl rfl (by kernel_rfl) (fun _ _ _ h => h) (Or.inl ⟨by rfl, ?_⟩) hHeld ?_ ?_
        rotate_left
        · rintro w' ⟨s0, s1, s2, s3, s4, s5, s6, s7⟩
          go_simp
          with_reducible rfl
        rotate_left
        · simp only [Act.put, List.setIfInBounds_toArray, List.set_cons_zero, List.set_cons_succ, i64_w, i32_w]
          rfl
        refine one_ (i := 10) (N := some 124) #[true, true, true, true, true, true, true, true, true, true, true, false, false, false] rfl rfl (by kernel_rfl) (by decide) (fun K hK => ?_)
        refine goes_ Try.func11 (by kernel_rfl) rfl #[.int .i64 c, .int .i64 x] (by rfl) rfl rfl (by simp only [List.map_toArray, List.map_cons, List.map_nil]; rfl) ?_
        with_reducible refine (bk_reply c x W9.drew).mono ?_
        rintro e w11 ⟨v11, rfl, h11, hb11, _⟩
        obtain ⟨g11, c11, rfl, _, _⟩ := One.form h11
        have D11 := Lib.hid (D9.out.drew.below hb11)
        have X11 := Lib.hid ((show Blk W9.drew p7 _ _ from X9.out).kept (Kept.of_below hb11 fun _ => False) (fun h => h))
        have BY11 := Lib.hid ((show Blk W9.drew w8.heap.size _ _ from BY.out).kept (Kept.of_below hb11 fun _ => False) (fun h => h))
        have O11 := Lib.hid h11
        have O5 := Lib.hid (One.below O9.out hb11)
        clear h11 hb11
        refine ⟨_, rfl, ?_⟩
        refine hK.out _ _ ⟨X11.out.cell 0, X11.out.cell 1, BY11.out.cell 0, BY11.out.cell 1, BY11.out.cell 2, BY11.out.cell 3, BY11.out.cell 4, D11.out.km.lookE hkw.out HH1.out⟩ (fun hHeld => ?_)
        clear hK K
        refine norm_ (a' := ?_) ?_ ?_
        rotate_left
        · show Act.put _ (some 124) _ = _
          simp only [Act.put, List.setIfInBounds_toArray, List.set_cons_zero, List.set_cons_succ, i64_w, i32_w]
          rfl
        refine last_ (i := 11) (N := some 125) #[true, true, true, true, true, true, true, true, true, true, true, true, false, false] rfl rfl (by kernel_rfl) (by decide) (fun K hK => ?_)
        refine goes_ Try.func13 (by kernel_rfl) rfl #[.agg #[.int .i64 c, .int .i64 x, .slice (some ⟨g9, 0, none⟩) 1 c9, .int .i64 0, .int .i64 0], .agg #[.int .i64 c, .int .i64 x, .slice (some ⟨g11, 0, none⟩) 1 c11, .int .i64 0, .int .i64 0]] (by rfl) rfl rfl (by simp only [List.map_toArray, List.map_cons, List.map_nil]; rfl) ?_
        with_reducible refine (bk_same c x g9 c9 g11 c11 O5.out O11.out).mono ?_
        rintro e w12 ⟨rfl, hb12⟩
        refine ⟨_, rfl, ?_⟩
        have D12 := Lib.hid (D11.out.below hb12)
        clear hb12
        refine hK.out _ _ ?_
        clear hK K
        refine norm_ (a' := ?_) ?_ ?_
        rotate_left
        · show Act.put _ (some 125) _ = _
          simp only [Act.put, List.setIfInBounds_toArray, List.set_cons_zero, List.set_cons_succ, i64_w, i32_w]
          rfl
        refine pure_ (i := 12) (N := some 126) (v := ?_) (a' := ?_) #[true, true, true, true, true, true, true, true, true, true, true, true, true, false] rfl rfl (by kernel_rfl) (fun _ _ _ h => h) (Or.inl ⟨by rfl, ?_⟩) ?_ ?_
        rotate_left
        · intro w'
          go_simp
          with_reducible rfl
        rotate_left
        · simp only [Act.put, List.setIfInBounds_toArray, List.set_cons_zero, List.set_cons_succ, i64_w, i32_w]
          rfl
        refine pure_ (i := 13) (N := some 127) (v := ?_) (a' := ?_) #[true, true, true, true, true, true, true, true, true, true, true, true, true, true] rfl rfl (by kernel_rfl) (fun _ _ _ h => h) (Or.inl ⟨by rfl, ?_⟩) ?_ ?_
        rotate_left
        · intro w'
          go_simp
          with_reducible rfl
        rotate_left
        · simp only [Act.put, List.setIfInBounds_toArray, List.set_cons_zero, List.set_cons_succ, i64_w, i32_w]
          rfl
        refine done_ (by kernel_rfl) ?_
        have KT := D12
        have OT := HP
        have hnbT : nb ≤ 256 + (k + 1) := by omega
        have hnT : n ≤ k + 1 := by omega
        clear D9 X9 BY O9 D11 X11 BY11 O11 O5 D12
        by_cases hs2 : k < len2
        · have t1 : (k : Int) < (len2 : Int) := by omega
          obtain ⟨ad2, hA2, hcell2⟩ := (HF2.out.below KT.out.lb.h).2 (by omega)
          obtain rfl := hA2
          have s0 := hcell2 k hs2 0 _ rfl
          clear hcell2
          generalize f2 k = sv at s0
          simp only [adr, Nat.mul_one] at s0
          by_cases hrem : sv.tmod 5 = 0
          · have hc := bk_save F g d nb S _ KT.out.lb.bk (by omega) hd64 (OT.out.small hd64)
            go_wp2_with (fail)
            refine hc.mono ?_
            rintro e w20 ⟨cs, rfl, hcl, hb20⟩
            have KT2 := Lib.hid (KT.out.below hb20)
            have hc := bk_load d S cs w20 (OT.out.small hd64) hcl OT.out.rises OT.out.lend hd1 hd64
            clear hb20 KT s0
            go_wp2_with (fail)
            refine hc.mono ?_
            rintro e w21 ⟨g2, rfl, F2, nb2, hB, hn2, hb21, hF2⟩
            have KT3 := Lib.hid (KT2.out.loaded hB hb21 hF2)
            clear hc hB hb21 hF2 KT2
            go_wp2
            go_roundg (200 - (k + 1))
            case measure => omega
            case rel => exact ⟨k + 1, nb2, n, g2, S, Q, fd, F2, by omega, by omega, Nat.le_refl _, by go_num, rfl, by omega, by omega, OT, KT3⟩
          · go_wp2
            go_roundg (200 - (k + 1))
            case measure => omega
            case rel => exact ⟨k + 1, nb, n, g, S, Q, fd, F, by omega, by omega, Nat.le_refl _, by go_num, rfl, by omega, by omega, OT, KT⟩
        · have t1 : ¬ ((k : Int) < (len2 : Int)) := by omega
          go_wp2
          go_roundg (200 - (k + 1))
          case measure => omega
          case rel => exact ⟨k + 1, nb, n, g, S, Q, fd, F, by omega, by omega, Nat.le_refl _, by go_num, rfl, by omega, by omega, OT, KT⟩
      · unfold askMiss askE
        have BY := Lib.hid (Blk.new w8 38 #[.int .i64 0, .int .i64 0, .slice none 0 0, .int .i64 0, .int .i64 0])
        have D9 := Lib.hid (D8.out.alloc (.cells #[.int .i64 0, .int .i64 0, .slice none 0 0, .int .i64 0, .int .i64 0] 38))
        have X9 := Lib.hid (X8.out.alloc (.cells #[.int .i64 0, .int .i64 0, .slice none 0 0, .int .i64 0, .int .i64 0] 38))
        clear D8 X8
        by_cases hnl : x ≤ lastN (S c)
        · rw [if_pos hnl]
          have q0 : decide (lastN (S c) < x) = false := decide_eq_false (by omega)
          have y0 := X9.out.cell 0
          have y1 := X9.out.cell 1
          have HLC := Lib.hid (fun (W : World) (hW : BkAt W F g d nb S) => bk_last F g d nb S c W hW hx1 (by omega))
          generalize lastN (S c) = z at HLC q0
          clear hnl hni
          go_wp2_with (fail)
          go_quiet (first | (go_at_call 9; with_reducible exact Calls.quiet_of_same (HLC.out _ ((D9.out.drewN _).lb.bk))) | fail)
          have KT := Lib.hid (D9.out.drewN nq)
          have OT := HP
          have hnbT : nb ≤ 256 + (k + 1) := by omega
          have hnT : n ≤ k + 1 := by omega
          clear D9 X9 BY y0 y1 HLC q0
          by_cases hs2 : k < len2
          · have t1 : (k : Int) < (len2 : Int) := by omega
            obtain ⟨ad2, hA2, hcell2⟩ := (HF2.out.below KT.out.lb.h).2 (by omega)
            obtain rfl := hA2
            have s0 := hcell2 k hs2 0 _ rfl
            clear hcell2
            generalize f2 k = sv at s0
            simp only [adr, Nat.mul_one] at s0
            by_cases hrem : sv.tmod 5 = 0
            · have hc := bk_save F g d nb S _ KT.out.lb.bk (by omega) hd64 (OT.out.small hd64)
              go_wp2_with (fail)
              refine hc.mono ?_
              rintro e w20 ⟨cs, rfl, hcl, hb20⟩
              have KT2 := Lib.hid (KT.out.below hb20)
              have hc := bk_load d S cs w20 (OT.out.small hd64) hcl OT.out.rises OT.out.lend hd1 hd64
              clear hb20 KT s0
              go_wp2_with (fail)
              refine hc.mono ?_
              rintro e w21 ⟨g2, rfl, F2, nb2, hB, hn2, hb21, hF2⟩
              have KT3 := Lib.hid (KT2.out.loaded hB hb21 hF2)
              clear hc hB hb21 hF2 KT2
              go_wp2
              go_roundg (200 - (k + 1))
              case measure => omega
              case rel => exact ⟨k + 1, nb2, n, g2, S, Q, fd, F2, by omega, by omega, Nat.le_refl _, by go_num, rfl, by omega, by omega, OT, KT3⟩
            · go_wp2
              go_roundg (200 - (k + 1))
              case measure => omega
              case rel => exact ⟨k + 1, nb, n, g, S, Q, fd, F, by omega, by omega, Nat.le_refl _, by go_num, rfl, by omega, by omega, OT, KT⟩
          · have t1 : ¬ ((k : Int) < (len2 : Int)) := by omega
            go_wp2
            go_roundg (200 - (k + 1))
            case measure => omega
            case rel => exact ⟨k + 1, nb, n, g, S, Q, fd, F, by omega, by omega, Nat.le_refl _, by go_num, rfl, by omega, by omega, OT, KT⟩
        · rw [if_neg hnl]
          have H00 := Lib.hid (HP.out.none_ hd1 hnl)
          have HNE := Lib.hid (HP.out.note hd1 hnl)
          have HST := Lib.hid (HP.out.step hd1 hnl hn3 hn5 hx1 hx3)
          have hS64 := Lib.hid (show (S c).length ≤ 64 from Nat.le_trans (HP.out.lend c) hd64)
          clear hnl hni
          go_wp2_with (fail)
          generalize w8.alloc (.cells #[.int .i64 0, .int .i64 0, .slice none 0 0, .int .i64 0, .int .i64 0] 38) = W9 at BY D9 X9 ⊢
          have hXm := Lib.hid (show p7 ≠ mb from fun e => by have := HBL.out; have := HPG.out; omega)
          have hq1 : wrap64 1 = 1 := by unfold wrap64; omega
          refine start_ (n := 7) (S := fun w' => w'.cell? ⟨p7, 0, none⟩ = some (.int .i64 c) ∧ w'.cell? ⟨p7, 1, none⟩ = some (.int .i64 x) ∧ (Instr.lookup 45 (.map (some mb)) (.agg #[.int .i64 c, .int .i64 x]) false).run Try.prog w' = .ok (.int .i64 0) w') (ds := [6]) #[false, false, false, false, false, false, false] (by kernel_rfl) rfl rfl ⟨X9.out.cell 0, X9.out.cell 1, D9.out.drew.km.lookE hkw.out H00.out⟩ (fun hHeld => ?_)
          refine pure_ (i := 0) (N := some 70) (v := ?_) (a' := ?_) #[true, false, false, false, false, false, false] rfl rfl (by kernel_rfl) (fun _ _ _ h => h) (Or.inl ⟨by rfl, ?_⟩) ?_ ?_
          rotate_left
          · intro w'
            go_simp
            with_reducible rfl
          rotate_left
          · simp only [Act.put, List.setIfInBounds_toArray, List.set_cons_zero, List.set_cons_succ, i64_w, i32_w]
            rfl
          refine take_ (i := 1) (N := some 71) (v := ?_) (a' := ?_) #[true, true, false, false, false, false, false] rfl rfl (by kernel_rfl) (fun _ _ _ h => h) (Or.inl ⟨by rfl, ?_⟩) hHeld ?_ ?_
          rotate_left
          · rintro w' ⟨s0, s1, s2⟩
            go_simp
            with_reducible rfl
          rotate_left
          · simp only [Act.put, List.setIfInBounds_toArray, List.set_cons_zero, List.set_cons_succ, i64_w, i32_w]
            rfl
          refine take_ (i := 2) (N := some 72) (v := ?_) (a' := ?_) #[true, true, true, false, false, false, false] rfl rfl (by kernel_rfl) (fun _ _ _ h => h) (Or.inl ⟨by rfl, ?_⟩) hHeld ?_ ?_
          rotate_left
          · rintro w' ⟨s0, s1, s2⟩
            go_simp
            with_reducible rfl
          rotate_left
          · simp only [Act.put, List.setIfInBounds_toArray, List.set_cons_zero, List.set_cons_succ, i64_w, i32_w]
            rfl
          refine pure_ (i := 3) (N := some 73) (v := ?_) (a' := ?_) #[true, true, true, true, false, false, false] rfl rfl (by kernel_rfl) (fun _ _ _ h => h) (Or.inl ⟨by rfl, ?_⟩) ?_ ?_
          rotate_left
          · intro w'
            go_simp
            with_reducible rfl
          rotate_left
          · simp only [Act.put, List.setIfInBounds_toArray, List.set_cons_zero, List.set_cons_succ, i64_w, i32_w]
            rfl
          refine one_ (i := 4) (N := some 74) #[true, true, true, true, true, false, false] rfl rfl (by kernel_rfl) (by decide) (fun K hK => ?_)
          obtain ⟨st, w4, hr4, hK4, hk4, hst4⟩ := D9.out.drew.km.entryE (by unfold maxLen; omega) hkw.out H00.out
          refine value_ (w1 := ?_) (v := ?_) (by rfl) rfl ?_ ?_
          rotate_left 2
          · go_simp
            constructor
            · rfl
            · rfl
          have D4 := Lib.hid (D9.out.drew.turned hK4 hk4)
          have X4 := Lib.hid ((show Blk W9.drew p7 _ _ from X9.out).kept hk4 hXm.out)
          refine hK.out _ _ ⟨X4.out.cell 0, X4.out.cell 1, D4.out.km.lookE hkw.out (updK_same _ _ _)⟩ (fun hHeld => ?_)
          clear hK K
          refine norm_ (a' := ?_) ?_ ?_
          rotate_left
          · show Act.put _ (some 74) _ = _
            simp only [Act.put, List.setIfInBounds_toArray, List.set_cons_zero, List.set_cons_succ, i64_w, i32_w]
            rfl
          refine pure_ (i := 5) (N := some 75) (v := ?_) (a' := ?_) #[true, true, true, true, true, true, false] rfl rfl (by kernel_rfl) (fun _ _ _ h => h) (Or.inl ⟨by rfl, ?_⟩) ?_ ?_
          rotate_left
          · intro w'
            go_simp
            with_reducible rfl
          rotate_left
          · simp only [Act.put, List.setIfInBounds_toArray, List.set_cons_zero, List.set_cons_succ, i64_w, i32_w]
            rfl
          refine last_ (i := 6) (N := none) #[true, true, true, true, true, true, true] rfl rfl (by kernel_rfl) (by decide) (fun K hK => ?_)
          obtain ⟨w5, hr5, hK5, hk5⟩ := hst4 w4 1 rfl
          refine skip_ (w1 := ?_) (by rfl) rfl ?_ ?_
          rotate_left
          · go_simp
            rfl
          refine hK.out _ _ ?_
          clear hK K
          refine done_ (by kernel_rfl) ?_
          have D13 := Lib.hid (D4.out.turned hK5 hk5)
          have X13 := Lib.hid (X4.out.kept hk5 hXm.out)
          clear D4 X4 D9 X9 BY hr4 hK4 hk4 hst4 hr5 hK5 hk5
          go_wp2_with (fail)
          refine start_ (n := 23) (S := fun w' => w'.cell? ⟨p7, 0, none⟩ = some (.int .i64 c) ∧ w'.cell? ⟨p7, 1, none⟩ = some (.int .i64 x) ∧ (Instr.lookup 45 (.map (some mb)) (.agg #[.int .i64 c, .int .i64 x]) false).run Try.prog w' = .ok (.int .i64 1) w') (ds := []) #[false, false, false, false, false, false, false, false, false, false, false, false, false, false, false, false, false, false, false, false, false, false, false] (by kernel_rfl) rfl rfl ⟨X13.out.cell 0, X13.out.cell 1, D13.out.drew.km.lookE hkw.out (updK_same _ _ _)⟩ (fun hHeld => ?_)
          refine pure_ (i := 0) (N := some 76) (v := ?_) (a' := ?_) #[true, false, false, false, false, false, false, false, false, false, false, false, false, false, false, false, false, false, false, false, false, false, false] rfl rfl (by kernel_rfl) (fun _ _ _ h => h) (Or.inl ⟨by rfl, ?_⟩) ?_ ?_
          rotate_left
          · intro w'
            go_simp
            with_reducible rfl
          rotate_left
          · simp only [Act.put, List.setIfInBounds_toArray, List.set_cons_zero, List.set_cons_succ, i64_w, i32_w]
            rfl
          refine take_ (i := 1) (N := some 77) (v := ?_) (a' := ?_) #[true, true, false, false, false, false, false, false, false, false, false, false, false, false, false, false, false, false, false, false, false, false, false] rfl rfl (by kernel_rfl) (fun _ _ _ h => h) (Or.inl ⟨by rfl, ?_⟩) hHeld ?_ ?_
          rotate_left
          · rintro w' ⟨s0, s1, s2⟩
            go_simp
            with_reducible rfl
          rotate_left
          · simp only [Act.put, List.setIfInBounds_toArray, List.set_cons_zero, List.set_cons_succ, i64_w, i32_w]
            rfl
          refine take_ (i := 2) (N := some 78) (v := ?_) (a' := ?_) #[true, true, true, false, false, false, false, false, false, false, false, false, false, false, false, false, false, false, false, false, false, false, false] rfl rfl (by kernel_rfl) (fun _ _ _ h => h) (Or.inl ⟨by rfl, ?_⟩) hHeld ?_ ?_
          rotate_left
          · rintro w' ⟨s0, s1, s2⟩
            go_simp
            with_reducible rfl
          rotate_left
          · simp only [Act.put, List.setIfInBounds_toArray, List.set_cons_zero, List.set_cons_succ, i64_w, i32_w]
            rfl
          refine pure_ (i := 3) (N := some 79) (v := ?_) (a' := ?_) #[true, true, true, true, false, false, false, false, false, false, false, false, false, false, false, false, false, false, false, false, false, false, false] rfl rfl (by kernel_rfl) (fun _ _ _ h => h) (Or.inl ⟨by rfl, ?_⟩) ?_ ?_
          rotate_left
          · intro w'
            go_simp
            with_reducible rfl
          rotate_left
          · simp only [Act.put, List.setIfInBounds_toArray, List.set_cons_zero, List.set_cons_succ, i64_w, i32_w]
            rfl
          refine pure_ (i := 4) (N := some 80) (v := ?_) (a' := ?_) #[true, true, true, true, true, false, false, false, false, false, false, false, false, false, false, false, false, false, false, false, false, false, false] rfl rfl (by kernel_rfl) (fun _ _ _ h => h) (Or.inl ⟨by rfl, ?_⟩) ?_ ?_
          rotate_left
          · intro w'
            go_simp
            with_reducible rfl
          rotate_left
          · simp only [Act.put, List.setIfInBounds_toArray, List.set_cons_zero, List.set_cons_succ, i64_w, i32_w]
            rfl
          refine pure_ (i := 5) (N := some 81) (v := ?_) (a' := ?_) #[true, true, true, true, true, true, false, false, false, false, false, false, false, false, false, false, false, false, false, false, false, false, false] rfl rfl (by kernel_rfl) (fun _ _ _ h => h) (Or.inl ⟨by rfl, ?_⟩) ?_ ?_
          rotate_left
          · intro w'
            go_simp
            with_reducible rfl
          rotate_left
          · simp only [Act.put, List.setIfInBounds_toArray, List.set_cons_zero, List.set_cons_succ, i64_w, i32_w]
            rfl
          refine pure_ (i := 6) (N := some 82) (v := ?_) (a' := ?_) #[true, true, true, true, true, true, true, false, false, false, false, false, false, false, false, false, false, false, false, false, false, false, false] rfl rfl (by kernel_rfl) (fun _ _ _ h => h) (Or.inl ⟨by rfl, ?_⟩) ?_ ?_
          rotate_left
          · intro w'
            go_simp
            with_reducible rfl
          rotate_left
          · simp only [Act.put, List.setIfInBounds_toArray, List.set_cons_zero, List.set_cons_succ, i64_w, i32_w]
            rfl
          refine pure_ (i := 8) (N := some 84) (v := ?_) (a' := ?_) #[true, true, true, true, true, true, true, false, true, false, false, false, false, false, false, false, false, false, false, false, false, false, false] rfl rfl (by kernel_rfl) (fun _ _ _ h => h) (Or.inl ⟨by rfl, ?_⟩) ?_ ?_
          rotate_left
          · intro w'
            go_simp
            with_reducible rfl
          rotate_left
          · simp only [Act.put, List.setIfInBounds_toArray, List.set_cons_zero, List.set_cons_succ, i64_w, i32_w]
            rfl
          refine take_ (i := 7) (N := some 83) (v := ?_) (a' := ?_) #[true, true, true, true, true, true, true, true, true, false, false, false, false, false, false, false, false, false, false, false, false, false, false] rfl rfl (by kernel_rfl) (fun _ _ _ h => h) (Or.inl ⟨by rfl, ?_⟩) hHeld ?_ ?_
          rotate_left
          · rintro w' ⟨s0, s1, s2⟩
            go_simp
            with_reducible rfl
          rotate_left
          · simp only [Act.put, List.setIfInBounds_toArray, List.set_cons_zero, List.set_cons_succ, i64_w, i32_w]
            rfl
          refine take_ (i := 9) (N := some 85) (v := ?_) (a' := ?_) #[true, true, true, true, true, true, true, true, true, true, false, false, false, false, false, false, false, false, false, false, false, false, false] rfl rfl (by kernel_rfl) (fun _ _ _ h => h) (Or.inl ⟨by rfl, ?_⟩) hHeld ?_ ?_
          rotate_left
          · rintro w' ⟨s0, s1, s2⟩
            go_simp
            with_reducible rfl
          rotate_left
          · simp only [Act.put, List.setIfInBounds_toArray, List.set_cons_zero, List.set_cons_succ, i64_w, i32_w]
            rfl
          refine one_ (i := 10) (N := some 86) #[true, true, true, true, true, true, true, true, true, true, true, false, false, false, false, false, false, false, false, false, false, false, false] rfl rfl (by kernel_rfl) (by decide) (fun K hK => ?_)
          refine goes_ Try.func11 (by kernel_rfl) rfl #[.int .i64 c, .int .i64 x] (by rfl) rfl rfl (by simp only [List.map_toArray, List.map_cons, List.map_nil]; rfl) ?_
          with_reducible refine (bk_reply c x _).mono ?_
          rintro e w15 ⟨v15, rfl, h15, hb15, _⟩
          obtain ⟨g15, c15, rfl, _, _⟩ := One.form h15
          have D15 := Lib.hid (D13.out.drew.below hb15)
          have X15 := Lib.hid ((show Blk w5.drew p7 _ _ from X13.out).kept (Kept.of_below hb15 fun _ => False) (fun h => h))
          have O15 := Lib.hid h15
          clear h15 hb15
          refine ⟨_, rfl, ?_⟩
          refine hK.out _ _ ⟨X15.out.cell 0, X15.out.cell 1, D15.out.km.lookE hkw.out (updK_same _ _ _)⟩ (fun hHeld => ?_)
          clear hK K
          refine norm_ (a' := ?_) ?_ ?_
          rotate_left
          · show Act.put _ (some 86) _ = _
            simp only [Act.put, List.setIfInBounds_toArray, List.set_cons_zero, List.set_cons_succ, i64_w, i32_w]
            rfl
          refine one_ (i := 11) (N := some 87) #[true, true, true, true, true, true, true, true, true, true, true, true, false, false, false, false, false, false, false, false, false, false, false] rfl rfl (by kernel_rfl) (by decide) (fun K hK => ?_)
          refine goes_ Try.func10 (by kernel_rfl) rfl #[.pointer (some ⟨g, 0, none⟩), .agg #[.int .i64 c, .int .i64 x, .slice (some ⟨g15, 0, none⟩) 1 c15, .int .i64 0, .int .i64 0]] (by rfl) rfl rfl (by simp only [List.map_toArray, List.map_cons, List.map_nil]; rfl) ?_
          with_reducible refine (D15.out.note O15.out hx1 hx2 hn3 hn4 hd1 hd64 hS64.out (by omega)).mono ?_
          rintro e w16 ⟨rfl, F16, nb16, h16, hnb16, k16⟩
          rw [HNE.out]
          have D16 := Lib.hid h16
          have X16 := Lib.hid (X15.out.kept k16 (fun hf => by have := hFr.out _ hf; have := HPG.out; omega))
          clear h16 k16
          refine ⟨_, rfl, ?_⟩
          refine hK.out _ _ ⟨X16.out.cell 0, X16.out.cell 1, D16.out.km.lookE hkw.out (updK_same _ _ _)⟩ (fun hHeld => ?_)
          clear hK K
          refine norm_ (a' := ?_) ?_ ?_
          rotate_left
          · show Act.put _ (some 87) _ = _
            simp only [Act.put, List.setIfInBounds_toArray, List.set_cons_zero, List.set_cons_succ, i64_w, i32_w]
            rfl
          refine pure_ (i := 12) (N := some 88) (v := ?_) (a' := ?_) #[true, true, true, true, true, true, true, true, true, true, true, true, true, false, false, false, false, false, false, false, false, false, false] rfl rfl (by kernel_rfl) (fun _ _ _ h => h) (Or.inl ⟨by rfl, ?_⟩) ?_ ?_
          rotate_left
          · intro w'
            go_simp
            with_reducible rfl
          rotate_left
          · simp only [Act.put, List.setIfInBounds_toArray, List.set_cons_zero, List.set_cons_succ, i64_w, i32_w]
            rfl
          refine pure_ (i := 13) (N := some 89) (v := ?_) (a' := ?_) #[true, true, true, true, true, true, true, true, true, true, true, true, true, true, false, false, false, false, false, false, false, false, false] rfl rfl (by kernel_rfl) (fun _ _ _ h => h) (Or.inl ⟨by rfl, ?_⟩) ?_ ?_
          rotate_left
          · intro w'
            go_simp
            with_reducible rfl
          rotate_left
          · simp only [Act.put, List.setIfInBounds_toArray, List.set_cons_zero, List.set_cons_succ, i64_w, i32_w]
            rfl
          refine pure_ (i := 14) (N := some 90) (v := ?_) (a' := ?_) #[true, true, true, true, true, true, true, true, true, true, true, true, true, true, true, false, false, false, false, false, false, false, false] rfl rfl (by kernel_rfl) (fun _ _ _ h => h) (Or.inl ⟨by rfl, ?_⟩) ?_ ?_
          rotate_left
          · intro w'
            go_simp
            with_reducible rfl
          rotate_left
          · simp only [Act.put, List.setIfInBounds_toArray, List.set_cons_zero, List.set_cons_succ, i64_w, i32_w]
            rfl
          refine pure_ (i := 15) (N := some 91) (v := ?_) (a' := ?_) #[true, true, true, true, true, true, true, true, true, true, true, true, true, true, true, true, false, false, false, false, false, false, false] rfl rfl (by kernel_rfl) (fun _ _ _ h => h) (Or.inl ⟨by rfl, ?_⟩) ?_ ?_
          rotate_left
          · intro w'
            go_simp
            with_reducible rfl
          rotate_left
          · simp only [Act.put, List.setIfInBounds_toArray, List.set_cons_zero, List.set_cons_succ, i64_w, i32_w]
            rfl
          refine pure_ (i := 16) (N := some 92) (v := ?_) (a' := ?_) #[true, true, true, true, true, true, true, true, true, true, true, true, true, true, true, true, true, false, false, false, false, false, false] rfl rfl (by kernel_rfl) (fun _ _ _ h => h) (Or.inl ⟨by rfl, ?_⟩) ?_ ?_
          rotate_left
          · intro w'
            go_simp
            with_reducible rfl
          rotate_left
          · simp only [Act.put, List.setIfInBounds_toArray, List.set_cons_zero, List.set_cons_succ, i64_w, i32_w]
            rfl
          refine pure_ (i := 19) (N := some 95) (v := ?_) (a' := ?_) #[true, true, true, true, true, true, true, true, true, true, true, true, true, true, true, true, true, false, false, true, false, false, false] rfl rfl (by kernel_rfl) (fun _ _ _ h => h) (Or.inl ⟨by rfl, ?_⟩) ?_ ?_
          rotate_left
          · intro w'
            go_simp
            with_reducible rfl
          rotate_left
          · simp only [Act.put, List.setIfInBounds_toArray, List.set_cons_zero, List.set_cons_succ, i64_w, i32_w]
            rfl
          refine take_ (i := 17) (N := some 93) (v := ?_) (a' := ?_) #[true, true, true, true, true, true, true, true, true, true, true, true, true, true, true, true, true, true, false, true, false, false, false] rfl rfl (by kernel_rfl) (fun _ _ _ h => h) (Or.inl ⟨by rfl, ?_⟩) hHeld ?_ ?_
          rotate_left
          · rintro w' ⟨s0, s1, s2⟩
            go_simp
            with_reducible rfl
          rotate_left
          · simp only [Act.put, List.setIfInBounds_toArray, List.set_cons_zero, List.set_cons_succ, i64_w, i32_w]
            rfl
          refine take_ (i := 20) (N := some 96) (v := ?_) (a' := ?_) #[true, true, true, true, true, true, true, true, true, true, true, true, true, true, true, true, true, true, false, true, true, false, false] rfl rfl (by kernel_rfl) (fun _ _ _ h => h) (Or.inl ⟨by rfl, ?_⟩) hHeld ?_ ?_
          rotate_left
          · rintro w' ⟨s0, s1, s2⟩
            go_simp
            with_reducible rfl
          rotate_left
          · simp only [Act.put, List.setIfInBounds_toArray, List.set_cons_zero, List.set_cons_succ, i64_w, i32_w]
            rfl
          refine one_ (i := 18) (N := some 94) #[true, true, true, true, true, true, true, true, true, true, true, true, true, true, true, true, true, true, true, true, true, false, false] rfl rfl (by kernel_rfl) (by decide) (fun K hK => ?_)
          refine goes_ Try.func9 (by kernel_rfl) rfl #[.pointer (some ⟨g, 0, none⟩), .int .i64 c] (by rfl) rfl rfl (by simp only [List.map_toArray, List.map_cons, List.map_nil]; rfl) ?_
          with_reducible refine ((bk_last F16 g d nb16 _ c w16 D16.out.lb.bk hx1 (by omega))).mono ?_
          rintro e w17 ⟨rfl, hw17⟩
          obtain rfl := hw17.symm
          clear hw17
          rw [HST.out.2]
          refine ⟨_, rfl, ?_⟩
          refine hK.out _ _ ⟨X16.out.cell 0, X16.out.cell 1, D16.out.km.lookE hkw.out (updK_same _ _ _)⟩ (fun hHeld => ?_)
          clear hK K
          refine norm_ (a' := ?_) ?_ ?_
          rotate_left
          · show Act.put _ (some 94) _ = _
            simp only [Act.put, List.setIfInBounds_toArray, List.set_cons_zero, List.set_cons_succ, i64_w, i32_w]
            rfl
          refine pure_ (i := 21) (N := some 97) (v := ?_) (a' := ?_) #[true, true, true, true, true, true, true, true, true, true, true, true, true, true, true, true, true, true, true, true, true, true, false] rfl rfl (by kernel_rfl) (fun _ _ _ h => h) (Or.inl ⟨by rfl, ?_⟩) ?_ ?_
          rotate_left
          · intro w'
            go_simp
            with_reducible rfl
          rotate_left
          · simp only [Act.put, List.setIfInBounds_toArray, List.set_cons_zero, List.set_cons_succ, i64_w, i32_w]
            rfl
          refine pure_ (i := 22) (N := some 98) (v := ?_) (a' := ?_) #[true, true, true, true, true, true, true, true, true, true, true, true, true, true, true, true, true, true, true, true, true, true, true] rfl rfl (by kernel_rfl) (fun _ _ _ h => h) (Or.inl ⟨by rfl, ?_⟩) ?_ ?_
          rotate_left
          · intro w'
            go_simp
            with_reducible rfl
          rotate_left
          · simp only [Act.put, List.setIfInBounds_toArray, List.set_cons_zero, List.set_cons_succ, i64_w, i32_w]
            rfl
          refine done_ (by kernel_rfl) ?_
          have KT := D16
          have OT := Lib.hid HST.out.1
          have hnbT : nb16 ≤ 256 + (k + 1) := by omega
          have hnT : n + 1 ≤ k + 1 := by omega
          generalize noteS d S c x = S6 at KT OT
          generalize addQ Q c x = Q6 at OT
          generalize updK fd (c, x) 1 = fd6 at KT OT
          clear D13 X13 D15 X15 O15 D16 X16 H00 HNE HST
          by_cases hs2 : k < len2
          · have t1 : (k : Int) < (len2 : Int) := by omega
            obtain ⟨ad2, hA2, hcell2⟩ := (HF2.out.below KT.out.lb.h).2 (by omega)
            obtain rfl := hA2
            have s0 := hcell2 k hs2 0 _ rfl
            clear hcell2
            generalize f2 k = sv at s0
            simp only [adr, Nat.mul_one] at s0
            by_cases hrem : sv.tmod 5 = 0
            · have hc := bk_save F16 g d nb16 S6 _ KT.out.lb.bk (by omega) hd64 (OT.out.small hd64)
              go_wp2_with (fail)
              refine hc.mono ?_
              rintro e w20 ⟨cs, rfl, hcl, hb20⟩
              have KT2 := Lib.hid (KT.out.below hb20)
              have hc := bk_load d S6 cs w20 (OT.out.small hd64) hcl OT.out.rises OT.out.lend hd1 hd64
              clear hb20 KT s0
              go_wp2_with (fail)
              refine hc.mono ?_
              rintro e w21 ⟨g2, rfl, F2, nb2, hB, hn2, hb21, hF2⟩
              have KT3 := Lib.hid (KT2.out.loaded hB hb21 hF2)
              clear hc hB hb21 hF2 KT2
              go_wp2
              go_roundg (200 - (k + 1))
              case measure => omega
              case rel => exact ⟨k + 1, nb2, (n + 1), g2, S6, Q6, fd6, F2, by omega, by omega, Nat.le_refl _, by go_num, rfl, by omega, by omega, OT, KT3⟩
            · go_wp2
              go_roundg (200 - (k + 1))
              case measure => omega
              case rel => exact ⟨k + 1, nb16, (n + 1), g, S6, Q6, fd6, F16, by omega, by omega, Nat.le_refl _, by go_num, rfl, by omega, by omega, OT, KT⟩
          · have t1 : ¬ ((k : Int) < (len2 : Int)) := by omega
            go_wp2
            go_roundg (200 - (k + 1))
            case measure => omega
            case rel => exact ⟨k + 1, nb16, (n + 1), g, S6, Q6, fd6, F16, by omega, by omega, Nat.le_refl _, by go_num, rfl, by omega, by omega, OT, KT⟩
    · have g00 : ¬ ((k : Int) < (len : Int)) ∨ (k : Int) < (len : Int) ∧ ¬ ((k : Int) < 200) := by omega
      clear hlt
      rcases g00 with g1 | ⟨g1, g2⟩
      all_goals
        go_wp2
        go_ret
        exact ⟨rfl, HB.out.lb.h⟩
end Go.Proofs.Ytcpenjbgiecgnaa
