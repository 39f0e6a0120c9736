import Derived.Test.YtcpenjbgiecgnaaBkJ
namespace Go.Proofs.Ytcpenjbgiecgnaa
open Go Go.RowKit
open Go.Proofs.YtcpenjbgiecgnaaW.PrintWords Go.Proofs.YtcpenjbgiecgnaaW.PrintLast Go.Proofs.YtcpenjbgiecgnaaW.PrintMore
set_option linter.unusedVariables false
set_option linter.unusedSimpArgs false
set_option maxRecDepth 100000

set_option maxHeartbeats 16000000 in
theorem deeper_walk (depth more : Int) (A : Option Addr) (len cap : Nat) (rows : List (List Value)) (w : World) (w0 : (Lit.int .i64 depth).wf = true) (w1 : (Lit.int .i64 more).wf = true) (w2 : Open.Rows w [.int .i64, .int .i64] A len cap rows) (y2 : len * Try.prog.bytesOf 31 ≤ 140737488351232) :
    Calls Try.prog 4 #[.int .i64 depth, .int .i64 more, .slice A len cap] w fun e w' => e = .returned (.bool true) ∧ Below w.heap.size w w' := by
  obtain ⟨f, hF⟩ := args_of w2 KeyK.cells (fun _ => True) 2 rfl keyK_of
  have hlen : len ≤ 9223372036854775807 := by have h1 := w2.2.1; have h2 := w2.2.2.1; unfold maxLen at h2; omega
  have HF := Lib.hid hF
  clear hF w2 y2 w0 w1
  go_enter Try.func4, Try.ntmps4
  have hc := works_calls w
  go_wp2_with (fail)
  refine hc.mono ?_
  rintro e wa ⟨rfl, hba⟩
  have HBa := Lib.hid hba
  clear hba hc
  have hc := among_calls depth 32 (by decide) wa
  go_wp2_with (fail)
  refine hc.mono ?_
  rintro e wb ⟨rfl, rfl⟩
  clear hc
  have hab := amg_bounds depth 32 (by decide) (by decide)
  obtain ⟨d0, hd0⟩ := Int.eq_ofNat_of_zero_le hab.1
  rw [hd0] at hab ⊢
  clear hd0
  obtain ⟨d, hd⟩ : ∃ d : Nat, d = d0 + 1 := ⟨_, rfl⟩
  have hd1 : 1 ≤ d := by omega
  have hd32 : d ≤ 32 := by omega
  have hdw : IntKind.i64.wrap (1 + (d0 : Int)) = (d : Int) := by rw [IntKind.wrap_i64]; omega
  have hdw2 : 1 + (d0 : Int) = (d : Int) := by omega
  have HD := Lib.hid (show (d0 : Int) + 1 = (d : Int) by omega)
  have hc := bk_new d wb hd1 (by omega)
  clear hab
  go_wp2_with (fail)
  rw [HD.out]
  clear hd hdw hdw2
  refine hc.mono ?_
  rintro e wc ⟨g, rfl, F, h1, h2, h3⟩
  have P := Lib.hid (LB.mk h1 (fun k hk => Nat.le_trans HBa.out.size (h3 k hk)) (HBa.out.trans (h2.mono HBa.out.size)))
  clear hc h1 h2 h3
  have hc := among_calls more 33 (by decide) wc
  go_wp2_with (fail)
  refine hc.mono ?_
  rintro e wd ⟨rfl, rfl⟩
  clear hc
  have hab := amg_bounds more 33 (by decide) (by decide)
  obtain ⟨m0, hm0⟩ := Int.eq_ofNat_of_zero_le hab.1
  rw [hm0] at hab ⊢
  clear hm0
  obtain ⟨d2, hd2⟩ : ∃ d2 : Nat, d2 = d + m0 := ⟨_, rfl⟩
  have hdd : d ≤ d2 := by omega
  have hd264 : d2 ≤ 64 := by omega
  have hdw : IntKind.i64.wrap ((d : Int) + (m0 : Int)) = (d : Int) + (m0 : Int) := by rw [IntKind.wrap_i64]; omega
  have HD2 := Lib.hid (show (d : Int) + (m0 : Int) = (d2 : Int) by omega)
  have hc := bk_new d2 wd (by omega) hd264
  clear hab hd2
  go_wp2_with (fail)
  rw [HD2.out]
  clear hdw
  refine hc.mono ?_
  rintro e we ⟨h, rfl, G, h1, h2, h3⟩
  have HX := Lib.hid (show DU w we F G g d 0 (fun _ => []) h d2 0 (fun _ => []) from
    ⟨P.out.below h2, ⟨h1, fun k hk => Nat.le_trans P.out.h.size (h3 k hk), P.out.h.trans (h2.mono P.out.h.size)⟩, fun k hf hg => by have := P.out.bk.lt k hf; have := h3 k hg; omega⟩)
  have HP := Lib.hid (show DP d d2 (fun _ => []) (fun _ => []) (fun _ => []) from ⟨fun c => (by unfold cutN; simp), fun c => (by unfold cutN; simp), fun c => List.Pairwise.nil⟩)
  clear hc h1 h2 h3 P
  go_wp2_with (fail)
  go_loopg [11] 100 (fun gg s11 wr => ∃ (k nb nb2 : Nat) (S T Q : Int → List Int) (F G : Nat → Prop), k ≤ len ∧ k ≤ 100 ∧ 100 - k ≤ gg ∧ s11 = .int .i64 k ∧ nb ≤ k ∧ nb2 ≤ k ∧ Hid (DP d d2 S T Q) ∧ Hid (DU w wr F G g d nb S h d2 nb2 T))
  case atStart => exact ⟨0, 0, 0, _, _, _, _, _, Nat.zero_le _, by omega, by omega, rfl, Nat.le_refl _, Nat.le_refl _, HP, HX⟩
  case round =>
    obtain ⟨k, nb, nb2, S, T, Q, F, G, hk1, hk2, hgg, rfl, hnb, hnb2, HP, HB⟩ := hrel
    by_cases hlt : k < len ∧ k < 100
    · obtain ⟨hlt, h100⟩ := hlt
      have g1 : (k : Int) < (len : Int) := by omega
      have g2 : (k : Int) < 100 := by omega
      have g0 : (0 : Int) ≤ (k : Int) := by omega
      obtain ⟨ad, hA, hcell⟩ := (HF.out.below HB.out.l1.h).2 (by omega)
      obtain rfl := hA
      have c0 := hcell k hlt 0 _ rfl
      have c1 := hcell k hlt 1 _ rfl
      clear hcell
      generalize f k = a at c0 c1
      obtain ⟨ac, av⟩ := a
      simp only [adr, KeyK.cells, List.getElem?_cons_zero, List.getElem?_cons_succ, Nat.zero_add] at c0 c1
      have hx := amg_bounds ac 4 (by decide) (by decide)
      have hy := amg_bounds av 100 (by decide) (by decide)
      have HA5 := Lib.hid (among_calls ac 4 (by decide))
      have HA11 := Lib.hid (among_calls av 100 (by decide))
      generalize amg ac 4 = c at hx HA5
      generalize amg av 100 = y at hy HA11
      obtain ⟨n, hn⟩ : ∃ n : Int, n = 1 + y := ⟨_, rfl⟩
      have hw1 : IntKind.i64.wrap (1 + y) = n := by rw [IntKind.wrap_i64]; omega
      have hn3 : 1 ≤ n := by omega
      have hn4 : n ≤ 1048576 := by omega
      have hx1 := hx.1
      have hx2 : c ≤ 1000 := by omega
      have HY := Lib.hid hn
      clear hn
      have HC0 := Lib.hid (fun (w' : World) (hb : Below wr.heap.size wr w') => (hb.cell (World.block_lt_of_cell? wr _ c0)).trans c0)
      have HC1 := Lib.hid (fun (w' : World) (hb : Below wr.heap.size wr w') => (hb.cell (p := ⟨(ad.add (k * 2)).block, (ad.add (k * 2)).off + 1, none⟩) (World.block_lt_of_cell? wr _ c1)).trans c1)
      have B0 := Lib.hid (Kept.below ((Kept.refl wr fun _ => False).drew) (Nat.le_refl _) (fun _ _ h => h))
      clear hx hy c0 c1
      go_wp2_with (fail)
      refine start_ (n := 16) (S := fun w' => w'.cell? (ad.add (k * 2)) = some (.int .i64 ac) ∧ w'.cell? ⟨(ad.add (k * 2)).block, (ad.add (k * 2)).off + 1, none⟩ = some (.int .i64 av)) (ds := [15]) #[false, false, false, false, false, false, false, false, false, false, false, false, false, false, false, false] (by kernel_rfl) rfl rfl ⟨HC0.out _ B0.out, HC1.out _ B0.out⟩ (fun hHeld => ?_)
      refine pure_ (i := 0) (N := some 65) (v := ?_) (a' := ?_) #[true, false, false, false, false, false, false, false, false, false, false, false, false, false, false, false] rfl rfl (by kernel_rfl) (fun _ _ _ h => h) (Or.inl ⟨by rfl, ?_⟩) ?_ ?_
      rotate_left
      · intro w'
        go_simp
        with_reducible rfl
      rotate_left
      · simp only [Act.put, List.setIfInBounds_toArray, List.set_cons_zero, List.set_cons_succ, i64_w, i32_w]
        rfl
      refine pure_ (i := 1) (N := some 66) (v := ?_) (a' := ?_) #[true, true, false, false, false, false, false, false, false, false, false, false, false, false, false, false] rfl rfl (by kernel_rfl) (fun _ _ _ h => h) (Or.inl ⟨by rfl, ?_⟩) ?_ ?_
      rotate_left
      · intro w'
        go_simp
        with_reducible rfl
      rotate_left
      · simp only [Act.put, List.setIfInBounds_toArray, List.set_cons_zero, List.set_cons_succ, i64_w, i32_w]
        rfl
      refine pure_ (i := 2) (N := some 67) (v := ?_) (a' := ?_) #[true, true, true, false, false, false, false, false, false, false, false, false, false, false, false, false] rfl rfl (by kernel_rfl) (fun _ _ _ h => h) (Or.inl ⟨by rfl, ?_⟩) ?_ ?_
      rotate_left
      · intro w'
        go_simp
        with_reducible rfl
      rotate_left
      · simp only [Act.put, List.setIfInBounds_toArray, List.set_cons_zero, List.set_cons_succ, i64_w, i32_w]
        rfl
      refine pure_ (i := 3) (N := some 68) (v := ?_) (a' := ?_) #[true, true, true, true, false, false, false, false, false, false, false, false, false, false, false, false] rfl rfl (by kernel_rfl) (fun _ _ _ h => h) (Or.inl ⟨by rfl, ?_⟩) ?_ ?_
      rotate_left
      · intro w'
        go_simp
        with_reducible rfl
      rotate_left
      · simp only [Act.put, List.setIfInBounds_toArray, List.set_cons_zero, List.set_cons_succ, i64_w, i32_w]
        rfl
      refine pure_ (i := 6) (N := some 71) (v := ?_) (a' := ?_) #[true, true, true, true, false, false, true, false, false, false, false, false, false, false, false, false] rfl rfl (by kernel_rfl) (fun _ _ _ h => h) (Or.inl ⟨by rfl, ?_⟩) ?_ ?_
      rotate_left
      · intro w'
        go_simp
        with_reducible rfl
      rotate_left
      · simp only [Act.put, List.setIfInBounds_toArray, List.set_cons_zero, List.set_cons_succ, i64_w, i32_w]
        rfl
      refine pure_ (i := 7) (N := some 72) (v := ?_) (a' := ?_) #[true, true, true, true, false, false, true, true, false, false, false, false, false, false, false, false] rfl rfl (by kernel_rfl) (fun _ _ _ h => h) (Or.inl ⟨by rfl, ?_⟩) ?_ ?_
      rotate_left
      · intro w'
        go_simp
        with_reducible rfl
      rotate_left
      · simp only [Act.put, List.setIfInBounds_toArray, List.set_cons_zero, List.set_cons_succ, i64_w, i32_w]
        rfl
      refine pure_ (i := 8) (N := some 73) (v := ?_) (a' := ?_) #[true, true, true, true, false, false, true, true, true, false, false, false, false, false, false, false] rfl rfl (by kernel_rfl) (fun _ _ _ h => h) (Or.inl ⟨by rfl, ?_⟩) ?_ ?_
      rotate_left
      · intro w'
        go_simp
        with_reducible rfl
      rotate_left
      · simp only [Act.put, List.setIfInBounds_toArray, List.set_cons_zero, List.set_cons_succ, i64_w, i32_w]
        rfl
      refine pure_ (i := 9) (N := some 74) (v := ?_) (a' := ?_) #[true, true, true, true, false, false, true, true, true, true, false, false, false, false, false, false] rfl rfl (by kernel_rfl) (fun _ _ _ h => h) (Or.inl ⟨by rfl, ?_⟩) ?_ ?_
      rotate_left
      · intro w'
        go_simp
        with_reducible rfl
      rotate_left
      · simp only [Act.put, List.setIfInBounds_toArray, List.set_cons_zero, List.set_cons_succ, i64_w, i32_w]
        rfl
      refine take_ (i := 4) (N := some 69) (v := ?_) (a' := ?_) #[true, true, true, true, true, false, true, true, true, true, false, false, false, false, false, false] rfl rfl (by kernel_rfl) (fun _ _ _ h => h) (Or.inl ⟨by rfl, ?_⟩) hHeld ?_ ?_
      rotate_left
      · rintro w' ⟨s0, s1⟩
        go_simp
        with_reducible rfl
      rotate_left
      · simp only [Act.put, List.setIfInBounds_toArray, List.set_cons_zero, List.set_cons_succ, i64_w, i32_w]
        rfl
      refine take_ (i := 10) (N := some 75) (v := ?_) (a' := ?_) #[true, true, true, true, true, false, true, true, true, true, true, false, false, false, false, false] rfl rfl (by kernel_rfl) (fun _ _ _ h => h) (Or.inl ⟨by rfl, ?_⟩) hHeld ?_ ?_
      rotate_left
      · rintro w' ⟨s0, s1⟩
        go_simp
        with_reducible rfl
      rotate_left
      · simp only [Act.put, List.setIfInBounds_toArray, List.set_cons_zero, List.set_cons_succ, i64_w, i32_w]
        rfl
      refine join_ (σ := (Nat × Nat) × Nat) 1 #[true, true, true, true, true, true, true, true, true, true, true, true, true, true, true, false] (fun q => [(70, .int .i64 c), (76, .int .i64 y), (77, .int .i64 n), (78, (Value.agg #[.int .i64 c, .int .i64 n, (.slice (some ⟨q.1.1, 0, none⟩) 1 q.1.2), .int .i64 0, .int .i64 0])), (12, .pointer (some ⟨q.2, 0, none⟩))]) (fun q w' => Below wr.heap.size wr w' ∧ (One w' (.slice (some ⟨q.1.1, 0, none⟩) 1 q.1.2) n ∧ wr.heap.size ≤ q.1.1) ∧ (Blk w' q.2 38 #[.int .i64 0, .int .i64 0, .slice none 0 0, .int .i64 0, .int .i64 0] ∧ wr.heap.size ≤ q.2)) ?_ ?_
      rotate_left
      · intro hJ5_11_13_14
        refine join_ (σ := (Nat × Nat) × Nat) 2 #[true, true, true, true, true, true, true, true, true, true, true, true, true, true, false, false] (fun q => [(70, .int .i64 c), (76, .int .i64 y), (77, .int .i64 n), (78, (Value.agg #[.int .i64 c, .int .i64 n, (.slice (some ⟨q.1.1, 0, none⟩) 1 q.1.2), .int .i64 0, .int .i64 0]))]) (fun q w' => Below wr.heap.size wr w' ∧ (One w' (.slice (some ⟨q.1.1, 0, none⟩) 1 q.1.2) n ∧ wr.heap.size ≤ q.1.1) ∧ True) ?_ ?_
        rotate_left
        · intro hJ5_11_13
          refine join_ (σ := (Nat × Nat) × Nat) 2 #[true, true, true, true, true, true, true, true, true, true, true, true, true, false, true, false] (fun q => [(70, .int .i64 c), (76, .int .i64 y), (77, .int .i64 n), (12, .pointer (some ⟨q.2, 0, none⟩))]) (fun q w' => Below wr.heap.size wr w' ∧ True ∧ (Blk w' q.2 38 #[.int .i64 0, .int .i64 0, .slice none 0 0, .int .i64 0, .int .i64 0] ∧ wr.heap.size ≤ q.2)) ?_ ?_
          rotate_left
          · intro hJ5_11_14
            refine join_ (σ := (Nat × Nat) × Nat) 3 #[true, true, true, true, true, true, true, true, true, true, true, true, true, false, false, false] (fun q => [(70, .int .i64 c), (76, .int .i64 y), (77, .int .i64 n)]) (fun q w' => Below wr.heap.size wr w' ∧ True ∧ True) ?_ ?_
            rotate_left
            · intro hJ5_11
              refine join_ (σ := (Nat × Nat) × Nat) 4 #[true, true, true, true, true, true, true, true, true, true, true, false, false, false, true, false] (fun q => [(70, .int .i64 c), (12, .pointer (some ⟨q.2, 0, none⟩))]) (fun q w' => Below wr.heap.size wr w' ∧ True ∧ (Blk w' q.2 38 #[.int .i64 0, .int .i64 0, .slice none 0 0, .int .i64 0, .int .i64 0] ∧ wr.heap.size ≤ q.2)) ?_ ?_
              rotate_left
              · intro hJ5_14
                refine join_ (σ := (Nat × Nat) × Nat) 5 #[true, true, true, true, true, true, true, true, true, true, true, false, false, false, false, false] (fun q => [(70, .int .i64 c)]) (fun q w' => Below wr.heap.size wr w' ∧ True ∧ True) ?_ ?_
                rotate_left
                · intro hJ5
                  refine join_ (σ := (Nat × Nat) × Nat) 5 #[true, true, true, true, true, false, true, true, true, true, true, false, false, false, true, false] (fun q => [(12, .pointer (some ⟨q.2, 0, none⟩))]) (fun q w' => Below wr.heap.size wr w' ∧ True ∧ (Blk w' q.2 38 #[.int .i64 0, .int .i64 0, .slice none 0 0, .int .i64 0, .int .i64 0] ∧ wr.heap.size ≤ q.2)) ?_ ?_
                  rotate_left
                  · intro hJ14
                    refine two_ (i := 5) (j := 14) (Ni := some 70) (Nj := some 12) #[true, true, true, true, true, true, true, true, true, true, true, false, false, false, false, false] #[true, true, true, true, true, false, true, true, true, true, true, false, false, false, true, false] rfl rfl rfl rfl (by kernel_rfl) (by decide) (by decide) (fun K hK => ?_) (fun K hK => ?_)
                    · skip
                      refine goes_ Try.func7 (by kernel_rfl) rfl #[.int .i64 ac, .int .i64 4] (by rfl) rfl rfl (by simp only [List.map_toArray, List.map_cons, List.map_nil]; rfl) ?_
                      with_reducible refine (HA5.out wr.drew).mono ?_
                      rintro e w8 ⟨rfl, hw8⟩
                      refine ⟨_, rfl, ?_⟩
                      have B8 := Lib.hid (hw8 ▸ B0.out)
                      refine hK.out _ _ ⟨HC0.out _ B8.out, HC1.out _ B8.out⟩ (fun hHeld => ?_)
                      clear hK K
                      refine norm_ (a' := ?_) ?_ ?_
                      rotate_left
                      · show Act.put _ (some 70) _ = _
                        simp only [Act.put, List.setIfInBounds_toArray, List.set_cons_zero, List.set_cons_succ, i64_w, i32_w]
                        rfl
                      exact norm_ (by first | (simp only [putAll, Act.put, List.setIfInBounds_toArray, List.set_cons_zero, List.set_cons_succ]; done) | (simp only [putAll, Act.put, List.setIfInBounds_toArray, List.set_cons_zero, List.set_cons_succ]; rfl)) (hJ5 ((0, 0), 0) _ ⟨B8.out, trivial, trivial⟩)
                    · skip
                      refine value_ (w1 := ?_) (v := ?_) (by rfl) rfl ?_ ?_
                      rotate_left 2
                      · go_simp
                        constructor
                        · rfl
                        · rfl
                      have B8 := Lib.hid (B0.out.alloc B0.out.size (.cells #[.int .i64 0, .int .i64 0, .slice none 0 0, .int .i64 0, .int .i64 0] 38))
                      have X8 := Lib.hid (And.intro (Blk.new wr.drew 38 #[.int .i64 0, .int .i64 0, .slice none 0 0, .int .i64 0, .int .i64 0]) B0.out.size)
                      refine hK.out _ _ ⟨HC0.out _ B8.out, HC1.out _ B8.out⟩ (fun hHeld => ?_)
                      clear hK K
                      refine norm_ (a' := ?_) ?_ ?_
                      rotate_left
                      · show Act.put _ (some 12) _ = _
                        simp only [Act.put, List.setIfInBounds_toArray, List.set_cons_zero, List.set_cons_succ, i64_w, i32_w]
                        rfl
                      exact norm_ (by first | (simp only [putAll, Act.put, List.setIfInBounds_toArray, List.set_cons_zero, List.set_cons_succ]; done) | (simp only [putAll, Act.put, List.setIfInBounds_toArray, List.set_cons_zero, List.set_cons_succ]; rfl)) (hJ14 ((0, 0), wr.drew.heap.size) _ ⟨B8.out, trivial, X8.out⟩)
                  · skip
                    rintro ⟨⟨g7, c7⟩, p7⟩ w7 ⟨b7, o7, x7⟩
                    have B7 := Lib.hid b7
                    have O7 := Lib.hid o7
                    have X7 := Lib.hid x7
                    have hHeld := (show (w7.cell? (ad.add (k * 2)) = some (.int .i64 ac) ∧ w7.cell? ⟨(ad.add (k * 2)).block, (ad.add (k * 2)).off + 1, none⟩ = some (.int .i64 av)) from ⟨HC0.out _ B7.out, HC1.out _ B7.out⟩)
                    clear b7 o7 x7
                    refine norm_ (a' := ?_) ?_ ?_
                    rotate_left
                    · simp only [putAll, Act.put, List.setIfInBounds_toArray, List.set_cons_zero, List.set_cons_succ]
                      rfl
                    refine one_ (i := 5) (N := some 70) #[true, true, true, true, true, true, true, true, true, true, true, false, false, false, true, false] rfl rfl (by kernel_rfl) (by decide) (fun K hK => ?_)
                    refine goes_ Try.func7 (by kernel_rfl) rfl #[.int .i64 ac, .int .i64 4] (by rfl) rfl rfl (by simp only [List.map_toArray, List.map_cons, List.map_nil]; rfl) ?_
                    with_reducible refine (HA5.out w7).mono ?_
                    rintro e w8 ⟨rfl, hw8⟩
                    refine ⟨_, rfl, ?_⟩
                    have B8 := Lib.hid (hw8 ▸ B7.out)
                    have X8 := Lib.hid (hw8 ▸ X7.out)
                    refine hK.out _ _ ⟨HC0.out _ B8.out, HC1.out _ B8.out⟩ (fun hHeld => ?_)
                    clear hK K
                    refine norm_ (a' := ?_) ?_ ?_
                    rotate_left
                    · show Act.put _ (some 70) _ = _
                      simp only [Act.put, List.setIfInBounds_toArray, List.set_cons_zero, List.set_cons_succ, i64_w, i32_w]
                      rfl
                    exact norm_ (by first | (simp only [putAll, Act.put, List.setIfInBounds_toArray, List.set_cons_zero, List.set_cons_succ]; done) | (simp only [putAll, Act.put, List.setIfInBounds_toArray, List.set_cons_zero, List.set_cons_succ]; rfl)) (hJ5_14 ((0, 0), p7) _ ⟨B8.out, trivial, X8.out⟩)
                · skip
                  rintro ⟨⟨g7, c7⟩, p7⟩ w7 ⟨b7, o7, x7⟩
                  have B7 := Lib.hid b7
                  have O7 := Lib.hid o7
                  have X7 := Lib.hid x7
                  have hHeld := (show (w7.cell? (ad.add (k * 2)) = some (.int .i64 ac) ∧ w7.cell? ⟨(ad.add (k * 2)).block, (ad.add (k * 2)).off + 1, none⟩ = some (.int .i64 av)) from ⟨HC0.out _ B7.out, HC1.out _ B7.out⟩)
                  clear b7 o7 x7
                  refine norm_ (a' := ?_) ?_ ?_
                  rotate_left
                  · simp only [putAll, Act.put, List.setIfInBounds_toArray, List.set_cons_zero, List.set_cons_succ]
                    rfl
                  refine two_ (i := 11) (j := 14) (Ni := some 76) (Nj := some 12) #[true, true, true, true, true, true, true, true, true, true, true, true, false, false, false, false] #[true, true, true, true, true, true, true, true, true, true, true, false, false, false, true, false] rfl rfl rfl rfl (by kernel_rfl) (by decide) (by decide) (fun K hK => ?_) (fun K hK => ?_)
                  · skip
                    refine goes_ Try.func7 (by kernel_rfl) rfl #[.int .i64 av, .int .i64 100] (by rfl) rfl rfl (by simp only [List.map_toArray, List.map_cons, List.map_nil]; rfl) ?_
                    with_reducible refine (HA11.out w7).mono ?_
                    rintro e w8 ⟨rfl, hw8⟩
                    refine ⟨_, rfl, ?_⟩
                    have B8 := Lib.hid (hw8 ▸ B7.out)
                    refine hK.out _ _ ⟨HC0.out _ B8.out, HC1.out _ B8.out⟩ (fun hHeld => ?_)
                    clear hK K
                    refine norm_ (a' := ?_) ?_ ?_
                    rotate_left
                    · show Act.put _ (some 76) _ = _
                      simp only [Act.put, List.setIfInBounds_toArray, List.set_cons_zero, List.set_cons_succ, i64_w, i32_w]
                      rfl
                    refine pure_ (i := 12) (N := some 77) (v := ?_) (a' := ?_) #[true, true, true, true, true, true, true, true, true, true, true, true, true, false, false, false] rfl rfl (by kernel_rfl) (fun _ _ _ h => h) (Or.inl ⟨by rfl, ?_⟩) ?_ ?_
                    rotate_left
                    · intro w'
                      go_simp
                      with_reducible rfl
                    rotate_left
                    · simp only [Act.put, List.setIfInBounds_toArray, List.set_cons_zero, List.set_cons_succ, i64_w, i32_w]
                      rfl
                    exact norm_ (by first | (simp only [putAll, Act.put, List.setIfInBounds_toArray, List.set_cons_zero, List.set_cons_succ]; done) | (simp only [putAll, Act.put, List.setIfInBounds_toArray, List.set_cons_zero, List.set_cons_succ]; rfl)) (hJ5_11 ((0, 0), 0) _ ⟨B8.out, trivial, trivial⟩)
                  · skip
                    refine value_ (w1 := ?_) (v := ?_) (by rfl) rfl ?_ ?_
                    rotate_left 2
                    · go_simp
                      constructor
                      · rfl
                      · rfl
                    have B8 := Lib.hid (B7.out.alloc B7.out.size (.cells #[.int .i64 0, .int .i64 0, .slice none 0 0, .int .i64 0, .int .i64 0] 38))
                    have X8 := Lib.hid (And.intro (Blk.new w7 38 #[.int .i64 0, .int .i64 0, .slice none 0 0, .int .i64 0, .int .i64 0]) B7.out.size)
                    refine hK.out _ _ ⟨HC0.out _ B8.out, HC1.out _ B8.out⟩ (fun hHeld => ?_)
                    clear hK K
                    refine norm_ (a' := ?_) ?_ ?_
                    rotate_left
                    · show Act.put _ (some 12) _ = _
                      simp only [Act.put, List.setIfInBounds_toArray, List.set_cons_zero, List.set_cons_succ, i64_w, i32_w]
                      rfl
                    exact norm_ (by first | (simp only [putAll, Act.put, List.setIfInBounds_toArray, List.set_cons_zero, List.set_cons_succ]; done) | (simp only [putAll, Act.put, List.setIfInBounds_toArray, List.set_cons_zero, List.set_cons_succ]; rfl)) (hJ5_14 ((0, 0), w7.heap.size) _ ⟨B8.out, trivial, X8.out⟩)
              · skip
                rintro ⟨⟨g7, c7⟩, p7⟩ w7 ⟨b7, o7, x7⟩
                have B7 := Lib.hid b7
                have O7 := Lib.hid o7
                have X7 := Lib.hid x7
                have hHeld := (show (w7.cell? (ad.add (k * 2)) = some (.int .i64 ac) ∧ w7.cell? ⟨(ad.add (k * 2)).block, (ad.add (k * 2)).off + 1, none⟩ = some (.int .i64 av)) from ⟨HC0.out _ B7.out, HC1.out _ B7.out⟩)
                clear b7 o7 x7
                refine norm_ (a' := ?_) ?_ ?_
                rotate_left
                · simp only [putAll, Act.put, List.setIfInBounds_toArray, List.set_cons_zero, List.set_cons_succ]
                  rfl
                refine one_ (i := 11) (N := some 76) #[true, true, true, true, true, true, true, true, true, true, true, true, false, false, true, false] rfl rfl (by kernel_rfl) (by decide) (fun K hK => ?_)
                refine goes_ Try.func7 (by kernel_rfl) rfl #[.int .i64 av, .int .i64 100] (by rfl) rfl rfl (by simp only [List.map_toArray, List.map_cons, List.map_nil]; rfl) ?_
                with_reducible refine (HA11.out w7).mono ?_
                rintro e w8 ⟨rfl, hw8⟩
                refine ⟨_, rfl, ?_⟩
                have B8 := Lib.hid (hw8 ▸ B7.out)
                have X8 := Lib.hid (hw8 ▸ X7.out)
                refine hK.out _ _ ⟨HC0.out _ B8.out, HC1.out _ B8.out⟩ (fun hHeld => ?_)
                clear hK K
                refine norm_ (a' := ?_) ?_ ?_
                rotate_left
                · show Act.put _ (some 76) _ = _
                  simp only [Act.put, List.setIfInBounds_toArray, List.set_cons_zero, List.set_cons_succ, i64_w, i32_w]
                  rfl
                refine pure_ (i := 12) (N := some 77) (v := ?_) (a' := ?_) #[true, true, true, true, true, true, true, true, true, true, true, true, true, false, true, false] rfl rfl (by kernel_rfl) (fun _ _ _ h => h) (Or.inl ⟨by rfl, ?_⟩) ?_ ?_
                rotate_left
                · intro w'
                  go_simp
                  with_reducible rfl
                rotate_left
                · simp only [Act.put, List.setIfInBounds_toArray, List.set_cons_zero, List.set_cons_succ, i64_w, i32_w]
                  rfl
                exact norm_ (by first | (simp only [putAll, Act.put, List.setIfInBounds_toArray, List.set_cons_zero, List.set_cons_succ]; done) | (simp only [putAll, Act.put, List.setIfInBounds_toArray, List.set_cons_zero, List.set_cons_succ]; rfl)) (hJ5_11_14 ((0, 0), p7) _ ⟨B8.out, trivial, X8.out⟩)
            · skip
              rintro ⟨⟨g7, c7⟩, p7⟩ w7 ⟨b7, o7, x7⟩
              have B7 := Lib.hid b7
              have O7 := Lib.hid o7
              have X7 := Lib.hid x7
              have hHeld := (show (w7.cell? (ad.add (k * 2)) = some (.int .i64 ac) ∧ w7.cell? ⟨(ad.add (k * 2)).block, (ad.add (k * 2)).off + 1, none⟩ = some (.int .i64 av)) from ⟨HC0.out _ B7.out, HC1.out _ B7.out⟩)
              clear b7 o7 x7
              refine norm_ (a' := ?_) ?_ ?_
              rotate_left
              · simp only [putAll, Act.put, List.setIfInBounds_toArray, List.set_cons_zero, List.set_cons_succ]
                rfl
              refine two_ (i := 13) (j := 14) (Ni := some 78) (Nj := some 12) #[true, true, true, true, true, true, true, true, true, true, true, true, true, true, false, false] #[true, true, true, true, true, true, true, true, true, true, true, true, true, false, true, false] rfl rfl rfl rfl (by kernel_rfl) (by decide) (by decide) (fun K hK => ?_) (fun K hK => ?_)
              · skip
                refine goes_ Try.func11 (by kernel_rfl) rfl #[.int .i64 c, .int .i64 n] (by rfl) rfl rfl (by simp only [List.map_toArray, List.map_cons, List.map_nil]; rfl) ?_
                with_reducible refine (bk_reply c n w7).mono ?_
                rintro e w8 ⟨v8, rfl, h8, hb8, hf8⟩
                obtain ⟨g8, c8, rfl, _, _⟩ := One.form h8
                have B8 := Lib.hid (B7.out.trans (hb8.mono B7.out.size))
                have O8 := Lib.hid (And.intro h8 (Nat.le_trans B7.out.size (hf8 g8 (by simp [Value.ownBlock]))))
                clear h8 hb8 hf8
                refine ⟨_, rfl, ?_⟩
                refine hK.out _ _ ⟨HC0.out _ B8.out, HC1.out _ B8.out⟩ (fun hHeld => ?_)
                clear hK K
                refine norm_ (a' := ?_) ?_ ?_
                rotate_left
                · show Act.put _ (some 78) _ = _
                  simp only [Act.put, List.setIfInBounds_toArray, List.set_cons_zero, List.set_cons_succ, i64_w, i32_w]
                  rfl
                exact norm_ (by first | (simp only [putAll, Act.put, List.setIfInBounds_toArray, List.set_cons_zero, List.set_cons_succ]; done) | (simp only [putAll, Act.put, List.setIfInBounds_toArray, List.set_cons_zero, List.set_cons_succ]; rfl)) (hJ5_11_13 ((g8, c8), 0) _ ⟨B8.out, O8.out, trivial⟩)
              · skip
                refine value_ (w1 := ?_) (v := ?_) (by rfl) rfl ?_ ?_
                rotate_left 2
                · go_simp
                  constructor
                  · rfl
                  · rfl
                have B8 := Lib.hid (B7.out.alloc B7.out.size (.cells #[.int .i64 0, .int .i64 0, .slice none 0 0, .int .i64 0, .int .i64 0] 38))
                have X8 := Lib.hid (And.intro (Blk.new w7 38 #[.int .i64 0, .int .i64 0, .slice none 0 0, .int .i64 0, .int .i64 0]) B7.out.size)
                refine hK.out _ _ ⟨HC0.out _ B8.out, HC1.out _ B8.out⟩ (fun hHeld => ?_)
                clear hK K
                refine norm_ (a' := ?_) ?_ ?_
                rotate_left
                · show Act.put _ (some 12) _ = _
                  simp only [Act.put, List.setIfInBounds_toArray, List.set_cons_zero, List.set_cons_succ, i64_w, i32_w]
                  rfl
                exact norm_ (by first | (simp only [putAll, Act.put, List.setIfInBounds_toArray, List.set_cons_zero, List.set_cons_succ]; done) | (simp only [putAll, Act.put, List.setIfInBounds_toArray, List.set_cons_zero, List.set_cons_succ]; rfl)) (hJ5_11_14 ((0, 0), w7.heap.size) _ ⟨B8.out, trivial, X8.out⟩)
          · skip
            rintro ⟨⟨g7, c7⟩, p7⟩ w7 ⟨b7, o7, x7⟩
            have B7 := Lib.hid b7
            have O7 := Lib.hid o7
            have X7 := Lib.hid x7
            have hHeld := (show (w7.cell? (ad.add (k * 2)) = some (.int .i64 ac) ∧ w7.cell? ⟨(ad.add (k * 2)).block, (ad.add (k * 2)).off + 1, none⟩ = some (.int .i64 av)) from ⟨HC0.out _ B7.out, HC1.out _ B7.out⟩)
            clear b7 o7 x7
            refine norm_ (a' := ?_) ?_ ?_
            rotate_left
            · simp only [putAll, Act.put, List.setIfInBounds_toArray, List.set_cons_zero, List.set_cons_succ]
              rfl
            refine one_ (i := 13) (N := some 78) #[true, true, true, true, true, true, true, true, true, true, true, true, true, true, true, false] rfl rfl (by kernel_rfl) (by decide) (fun K hK => ?_)
            refine goes_ Try.func11 (by kernel_rfl) rfl #[.int .i64 c, .int .i64 n] (by rfl) rfl rfl (by simp only [List.map_toArray, List.map_cons, List.map_nil]; rfl) ?_
            with_reducible refine (bk_reply c n w7).mono ?_
            rintro e w8 ⟨v8, rfl, h8, hb8, hf8⟩
            obtain ⟨g8, c8, rfl, _, _⟩ := One.form h8
            have B8 := Lib.hid (B7.out.trans (hb8.mono B7.out.size))
            have O8 := Lib.hid (And.intro h8 (Nat.le_trans B7.out.size (hf8 g8 (by simp [Value.ownBlock]))))
            have X8 := Lib.hid (And.intro (X7.out.1.kept (Kept.of_below hb8 fun _ => False) (fun h => h)) X7.out.2)
            clear h8 hb8 hf8
            refine ⟨_, rfl, ?_⟩
            refine hK.out _ _ ⟨HC0.out _ B8.out, HC1.out _ B8.out⟩ (fun hHeld => ?_)
            clear hK K
            refine norm_ (a' := ?_) ?_ ?_
            rotate_left
            · show Act.put _ (some 78) _ = _
              simp only [Act.put, List.setIfInBounds_toArray, List.set_cons_zero, List.set_cons_succ, i64_w, i32_w]
              rfl
            exact norm_ (by first | (simp only [putAll, Act.put, List.setIfInBounds_toArray, List.set_cons_zero, List.set_cons_succ]; done) | (simp only [putAll, Act.put, List.setIfInBounds_toArray, List.set_cons_zero, List.set_cons_succ]; rfl)) (hJ5_11_13_14 ((g8, c8), p7) _ ⟨B8.out, O8.out, X8.out⟩)
        · skip
          rintro ⟨⟨g7, c7⟩, p7⟩ w7 ⟨b7, o7, x7⟩
          have B7 := Lib.hid b7
          have O7 := Lib.hid o7
          have X7 := Lib.hid x7
          have hHeld := (show (w7.cell? (ad.add (k * 2)) = some (.int .i64 ac) ∧ w7.cell? ⟨(ad.add (k * 2)).block, (ad.add (k * 2)).off + 1, none⟩ = some (.int .i64 av)) from ⟨HC0.out _ B7.out, HC1.out _ B7.out⟩)
          clear b7 o7 x7
          refine norm_ (a' := ?_) ?_ ?_
          rotate_left
          · simp only [putAll, Act.put, List.setIfInBounds_toArray, List.set_cons_zero, List.set_cons_succ]
            rfl
          refine one_ (i := 14) (N := some 12) #[true, true, true, true, true, true, true, true, true, true, true, true, true, true, true, false] rfl rfl (by kernel_rfl) (by decide) (fun K hK => ?_)
          refine value_ (w1 := ?_) (v := ?_) (by rfl) rfl ?_ ?_
          rotate_left 2
          · go_simp
            constructor
            · rfl
            · rfl
          have B8 := Lib.hid (B7.out.alloc B7.out.size (.cells #[.int .i64 0, .int .i64 0, .slice none 0 0, .int .i64 0, .int .i64 0] 38))
          have O8 := Lib.hid (And.intro (One.below O7.out.1 ((Below.refl _ _).alloc (Nat.le_refl _) (.cells #[.int .i64 0, .int .i64 0, .slice none 0 0, .int .i64 0, .int .i64 0] 38))) O7.out.2)
          have X8 := Lib.hid (And.intro (Blk.new w7 38 #[.int .i64 0, .int .i64 0, .slice none 0 0, .int .i64 0, .int .i64 0]) B7.out.size)
          refine hK.out _ _ ⟨HC0.out _ B8.out, HC1.out _ B8.out⟩ (fun hHeld => ?_)
          clear hK K
          refine norm_ (a' := ?_) ?_ ?_
          rotate_left
          · show Act.put _ (some 12) _ = _
            simp only [Act.put, List.setIfInBounds_toArray, List.set_cons_zero, List.set_cons_succ, i64_w, i32_w]
            rfl
          exact norm_ (by first | (simp only [putAll, Act.put, List.setIfInBounds_toArray, List.set_cons_zero, List.set_cons_succ]; done) | (simp only [putAll, Act.put, List.setIfInBounds_toArray, List.set_cons_zero, List.set_cons_succ]; rfl)) (hJ5_11_13_14 ((g7, c7), w7.heap.size) _ ⟨B8.out, O8.out, X8.out⟩)
      rintro ⟨⟨g7, c7⟩, p7⟩ w7 ⟨b7, o7, x7⟩
      have B7 := Lib.hid b7
      have O7 := Lib.hid o7
      have X7 := Lib.hid x7
      have hHeld := (show (w7.cell? (ad.add (k * 2)) = some (.int .i64 ac) ∧ w7.cell? ⟨(ad.add (k * 2)).block, (ad.add (k * 2)).off + 1, none⟩ = some (.int .i64 av)) from ⟨HC0.out _ B7.out, HC1.out _ B7.out⟩)
      clear b7 o7 x7
      refine norm_ (a' := ?_) ?_ ?_
      rotate_left
      · simp only [putAll, Act.put, List.setIfInBounds_toArray, List.set_cons_zero, List.set_cons_succ]
        rfl
      refine last_ (i := 15) (N := none) #[true, true, true, true, true, true, true, true, true, true, true, true, true, true, true, true] rfl rfl (by kernel_rfl) (by decide) (fun K hK => ?_)
      have y0 := X7.out.1.cell 0
      have y1 := X7.out.1.cell 1
      have y2 := X7.out.1.cell 2
      have y3 := X7.out.1.cell 3
      have y4 := X7.out.1.cell 4
      have z0 := X7.out.1.frozen 0
      have z1 := X7.out.1.frozen 1
      have z2 := X7.out.1.frozen 2
      have z3 := X7.out.1.frozen 3
      have z4 := X7.out.1.frozen 4
      have hxl := X7.out.1.lt
      refine skip_ (w1 := ?_) (by rfl) rfl ?_ ?_
      rotate_left
      · go_simp
        rfl
      refine hK.out _ _ ?_
      clear hK K
      refine done_ (by kernel_rfl) ?_
      have h5 := set5 X7.out.1 (.int .i64 c) (.int .i64 n) (.slice (some ⟨g7, 0, none⟩) 1 c7) (.int .i64 0) (.int .i64 0)
      have b5 : Below wr.heap.size w7 _ := h5.2.below B7.out.size (fun k hk e => by have := X7.out.2; omega)
      have hne : g7 ≠ p7 := fun e => by
        obtain ⟨cs, hb⟩ := O7.out.1.typed (k := g7) rfl
        rw [e] at hb
        have h9 := hb.type_eq X7.out.1
        exact absurd h9 (by decide)
      have o5 := O7.out.1.kept h5.2 (fun k e he => by injection e with e; exact hne (e.trans he))
      generalize (((((w7.setCell ⟨p7, 0, none⟩ (.int .i64 c)).setCell ⟨p7, 1, none⟩ (.int .i64 n)).setCell ⟨p7, 2, none⟩ (.slice (some ⟨g7, 0, none⟩) 1 c7)).setCell ⟨p7, 3, none⟩ (.int .i64 0)).setCell ⟨p7, 4, none⟩ (.int .i64 0)) = W5 at h5 b5 o5 ⊢
      have D5 := Lib.hid (HB.out.below (B7.out.trans b5))
      have X5 := Lib.hid h5.1
      have O5 := Lib.hid (One.below o5 (Kept.below ((Kept.refl W5 fun _ => False).drew) (Nat.le_refl _) (fun _ _ h => h)))
      have HPG := Lib.hid (show wr.heap.size ≤ p7 ∧ wr.heap.size ≤ g7 from ⟨X7.out.2, O7.out.2⟩)
      have HF1 := Lib.hid HB.out.l1.bk.lt
      have HG1 := Lib.hid HB.out.l2.bk.lt
      obtain ⟨he, Q', hp'⟩ := HP.out.note hd1 (by omega : 1 ≤ d2) c n
      have hs1 := Lib.hid (show (S c).length ≤ 64 by rw [HP.out.s]; exact Nat.le_trans (cut_len _ _) (by omega))
      have hs2 := Lib.hid (show (T c).length ≤ 64 by rw [HP.out.t]; exact Nat.le_trans (cut_len _ _) hd264)
      have HP' := Lib.hid hp'
      obtain ⟨e1, HE1⟩ : ∃ e1, Hid (noteE (S c) n = e1) := ⟨_, Lib.hid rfl⟩
      obtain ⟨e2, HE2⟩ : ∃ e2, Hid (noteE (T c) n = e2) := ⟨_, Lib.hid rfl⟩
      rw [HE1.out, HE2.out] at he
      have HE := Lib.hid he
      clear h5 b5 hne o5 X7 O7 B7 B0 HA5 HA11 hw1 HB hp' he hHeld
      go_wp2_with (fail)
      refine start_ (n := 8) (S := fun w' => w'.cell? ⟨p7, 0, none⟩ = some (.int .i64 c) ∧ w'.cell? ⟨p7, 1, none⟩ = some (.int .i64 n) ∧ w'.cell? ⟨p7, 2, none⟩ = some (.slice (some ⟨g7, 0, none⟩) 1 c7) ∧ w'.cell? ⟨p7, 3, none⟩ = some (.int .i64 0) ∧ w'.cell? ⟨p7, 4, none⟩ = some (.int .i64 0)) (ds := []) #[false, false, false, false, false, false, false, false] (by kernel_rfl) rfl rfl ⟨X5.out.cell 0, X5.out.cell 1, X5.out.cell 2, X5.out.cell 3, X5.out.cell 4⟩ (fun hHeld => ?_)
      refine pure_ (i := 0) (N := some 79) (v := ?_) (a' := ?_) #[true, false, false, false, false, false, false, false] rfl rfl (by kernel_rfl) (fun _ _ _ h => h) (Or.inl ⟨by rfl, ?_⟩) ?_ ?_
      rotate_left
      · intro w'
        go_simp
        with_reducible rfl
      rotate_left
      · simp only [Act.put, List.setIfInBounds_toArray, List.set_cons_zero, List.set_cons_succ, i64_w, i32_w]
        rfl
      refine pure_ (i := 3) (N := some 82) (v := ?_) (a' := ?_) #[true, false, false, true, false, false, false, false] rfl rfl (by kernel_rfl) (fun _ _ _ h => h) (Or.inl ⟨by rfl, ?_⟩) ?_ ?_
      rotate_left
      · intro w'
        go_simp
        with_reducible rfl
      rotate_left
      · simp only [Act.put, List.setIfInBounds_toArray, List.set_cons_zero, List.set_cons_succ, i64_w, i32_w]
        rfl
      refine take_ (i := 1) (N := some 80) (v := ?_) (a' := ?_) #[true, true, false, true, false, false, false, false] rfl rfl (by kernel_rfl) (fun _ _ _ h => h) (Or.inl ⟨by rfl, ?_⟩) hHeld ?_ ?_
      rotate_left
      · rintro w' ⟨s0, s1, s2, s3, s4⟩
        go_simp
        with_reducible rfl
      rotate_left
      · simp only [Act.put, List.setIfInBounds_toArray, List.set_cons_zero, List.set_cons_succ, i64_w, i32_w]
        rfl
      refine take_ (i := 4) (N := some 83) (v := ?_) (a' := ?_) #[true, true, false, true, true, false, false, false] rfl rfl (by kernel_rfl) (fun _ _ _ h => h) (Or.inl ⟨by rfl, ?_⟩) hHeld ?_ ?_
      rotate_left
      · rintro w' ⟨s0, s1, s2, s3, s4⟩
        go_simp
        with_reducible rfl
      rotate_left
      · simp only [Act.put, List.setIfInBounds_toArray, List.set_cons_zero, List.set_cons_succ, i64_w, i32_w]
        rfl
      refine one_ (i := 2) (N := some 81) #[true, true, true, true, true, false, false, false] rfl rfl (by kernel_rfl) (by decide) (fun K hK => ?_)
      refine goes_ Try.func10 (by kernel_rfl) rfl #[.pointer (some ⟨g, 0, none⟩), .agg #[.int .i64 c, .int .i64 n, .slice (some ⟨g7, 0, none⟩) 1 c7, .int .i64 0, .int .i64 0]] (by rfl) rfl rfl (by simp only [List.map_toArray, List.map_cons, List.map_nil]; rfl) ?_
      with_reducible refine (D5.out.drew.note1 O5.out hx1 hx2 hn3 hn4 (by omega) (by omega) hs1.out (by omega)).mono ?_
      rintro e w8 ⟨rfl, F8, nb8, h8, hnb8, k8⟩
      rw [HE1.out]
      have D8 := Lib.hid h8
      have X8 := Lib.hid (X5.out.drew.kept k8 (fun hf => by have := HF1.out _ hf; have := HPG.out; omega))
      have O8 := Lib.hid (O5.out.kept k8 (fun k e hf => by have e9 : g7 = k := (by simpa [Value.ownBlock] using e); have := HF1.out _ hf; have := HPG.out; omega))
      clear h8 k8
      refine ⟨_, rfl, ?_⟩
      refine hK.out _ _ ⟨X8.out.cell 0, X8.out.cell 1, X8.out.cell 2, X8.out.cell 3, X8.out.cell 4⟩ (fun hHeld => ?_)
      clear hK K
      refine norm_ (a' := ?_) ?_ ?_
      rotate_left
      · show Act.put _ (some 81) _ = _
        simp only [Act.put, List.setIfInBounds_toArray, List.set_cons_zero, List.set_cons_succ, i64_w, i32_w]
        rfl
      refine one_ (i := 5) (N := some 84) #[true, true, true, true, true, true, false, false] rfl rfl (by kernel_rfl) (by decide) (fun K hK => ?_)
      refine goes_ Try.func10 (by kernel_rfl) rfl #[.pointer (some ⟨h, 0, none⟩), .agg #[.int .i64 c, .int .i64 n, .slice (some ⟨g7, 0, none⟩) 1 c7, .int .i64 0, .int .i64 0]] (by rfl) rfl rfl (by simp only [List.map_toArray, List.map_cons, List.map_nil]; rfl) ?_
      with_reducible refine (D8.out.note2 O8.out hx1 hx2 hn3 hn4 (by omega) (by omega) hs2.out (by omega)).mono ?_
      rintro e w9 ⟨rfl, F9, nb9, h9, hnb9, k9⟩
      rw [HE2.out]
      have D9 := Lib.hid h9
      have X9 := Lib.hid (X8.out.kept k9 (fun hf => by have := HG1.out _ hf; have := HPG.out; omega))
      have O9 := Lib.hid (O8.out.kept k9 (fun k e hf => by have e9 : g7 = k := (by simpa [Value.ownBlock] using e); have := HG1.out _ hf; have := HPG.out; omega))
      clear h9 k9
      refine ⟨_, rfl, ?_⟩
      refine hK.out _ _ ⟨X9.out.cell 0, X9.out.cell 1, X9.out.cell 2, X9.out.cell 3, X9.out.cell 4⟩ (fun hHeld => ?_)
      clear hK K
      refine norm_ (a' := ?_) ?_ ?_
      rotate_left
      · show Act.put _ (some 84) _ = _
        simp only [Act.put, List.setIfInBounds_toArray, List.set_cons_zero, List.set_cons_succ, i64_w, i32_w]
        rfl
      refine pure_ (i := 6) (N := some 13) (v := ?_) (a' := ?_) #[true, true, true, true, true, true, true, false] rfl rfl (by kernel_rfl) (fun _ _ _ h => h) (Or.inl ⟨by rfl, ?_⟩) ?_ ?_
      rotate_left
      · intro w'
        go_simp
        with_reducible rfl
      rotate_left
      · simp only [Act.put, List.setIfInBounds_toArray, List.set_cons_zero, List.set_cons_succ, i64_w, i32_w]
        rfl
      refine pure_ (i := 7) (N := some 14) (v := ?_) (a' := ?_) #[true, true, true, true, true, true, true, true] rfl rfl (by kernel_rfl) (fun _ _ _ h => h) (Or.inl ⟨by rfl, ?_⟩) ?_ ?_
      rotate_left
      · intro w'
        go_simp
        with_reducible rfl
      rotate_left
      · simp only [Act.put, List.setIfInBounds_toArray, List.set_cons_zero, List.set_cons_succ, i64_w, i32_w]
        rfl
      refine done_ (by kernel_rfl) ?_
      generalize noteS d S c n = S9 at D8 D9 HP'
      generalize noteS d2 T c n = T9 at D9 HP'
      have HL1 := Lib.hid (HP'.out.last hd1 (by omega : 1 ≤ d2) c)
      have HB1 := Lib.hid (fun (W : World) (hW : BkAt W F8 g d nb8 S9) => bk_last F8 g d nb8 S9 c W hW hx1 (by omega))
      have HB2 := Lib.hid (fun (W : World) (hW : BkAt W F9 h d2 nb9 T9) => HL1.out ▸ bk_last F9 h d2 nb9 T9 c W hW hx1 (by omega))
      have y0 := X9.out.cell 0
      generalize lastN (S9 c) = z at HB1 HB2
      clear D5 X5 O5 D8 X8 O8 O9 HE1 HE2 hs1 hs2 HF1 HG1 HPG HL1 hHeld
      rcases HE.out with ⟨he1, he2⟩ | ⟨he1 | he1, he2 | he2⟩
      all_goals
        subst he1 he2
        go_wp2_with (fail)
        go_quiet (first | (go_at_call 9; first | with_reducible exact Calls.quiet_of_same (HB1.out _ ((D9.out.drewN _).l1.bk)) | with_reducible exact Calls.quiet_of_same (HB2.out _ ((D9.out.drewN _).l2.bk))) | fail)
        go_wp2
        go_roundg (100 - (k + 1))
        case measure => omega
        case rel => exact ⟨k + 1, nb8, nb9, _, _, _, _, _, by omega, by omega, Nat.le_refl _, by go_num, by omega, by omega, HP', Lib.hid (D9.out.drewN _)⟩
    · have g00 : ¬ ((k : Int) < (len : Int)) ∨ (k : Int) < (len : Int) ∧ ¬ ((k : Int) < 100) := by omega
      have HSUB := Lib.hid (fun c n => HP.out.sub hdd c n)
      clear hlt HP
      rcases g00 with g1 | ⟨g1, g2⟩
      all_goals
        go_wp2_with (fail)
        go_loopg [101] 4 (fun gg s101 wx => ∃ (j : Nat), j ≤ 4 ∧ 4 - j ≤ gg ∧ s101 = .int .i64 j ∧ Hid (DU w wx F G g d nb S h d2 nb2 T))
        case atStart => exact ⟨0, by omega, by omega, rfl, HB⟩
        case round =>
          obtain ⟨j, hj, hgg2, rfl, HX⟩ := hrel
          by_cases hj4 : j < 4
          · have hjz : (j : Int) < 4 := by omega
            have j0 : (0 : Int) ≤ (j : Int) := by omega
            have j1 : (j : Int) ≤ 1000 := by omega
            go_wp2_with (fail)
            go_loopg [16] 100 (fun gg s16 wy => ∃ (i : Nat), 1 ≤ i ∧ i ≤ 101 ∧ 101 - i ≤ gg ∧ s16 = .int .i64 i ∧ Hid (DU w wy F G g d nb S h d2 nb2 T))
            case atStart => exact ⟨1, by omega, by omega, by omega, rfl, HX⟩
            case round =>
              obtain ⟨i, hi0, hi, hgg3, rfl, HY⟩ := hrel
              by_cases hiN : i ≤ 100
              · have hiz : (i : Int) ≤ 100 := by omega
                have hi1 : (1 : Int) ≤ (i : Int) := by omega
                have hi2 : (i : Int) ≤ 1048576 := by omega
                have hc := bk_ask_b HY.out.l1.bk j0 j1 hi1 hi2
                go_wp2_with (fail)
                refine hc.mono ?_
                rintro e w6 ⟨x0, x1, xA, xl, xc, er, rfl, hb6⟩
                have HZ := Lib.hid ((HY.out.below hb6).alloc (.cells #[.int .i64 x0, .int .i64 x1, .slice xA xl xc, .int .i64 0, .int .i64 0] 38))
                have hc := bk_ask_b HZ.out.l2.bk j0 j1 hi1 hi2
                obtain ⟨b1, hb1⟩ : ∃ b1, decide ((i : Int) ∈ S (j : Int)) = b1 := ⟨_, rfl⟩
                obtain ⟨b2, hb2⟩ : ∃ b2, decide ((i : Int) ∈ T (j : Int)) = b2 := ⟨_, rfl⟩
                have hbb : b1 = false ∨ (b1 = true ∧ b2 = true) := by
                  rw [← hb1, ← hb2]
                  by_cases hin : (i : Int) ∈ S (j : Int)
                  · exact .inr ⟨decide_eq_true hin, decide_eq_true (HSUB.out _ _ hin)⟩
                  · exact .inl (decide_eq_false hin)
                rw [hb1]
                rw [hb2] at hc
                clear hb6 HY hb1 hb2
                go_wp2_with (fail)
                refine hc.mono ?_
                rintro e w7 ⟨x0, x1, xA, xl, xc, er, rfl, hb7⟩
                have HW := Lib.hid ((HZ.out.below hb7).alloc (.cells #[.int .i64 x0, .int .i64 x1, .slice xA xl xc, .int .i64 0, .int .i64 0] 38))
                clear hc hb7 HZ
                rcases hbb with hq | ⟨hq, hq2⟩
                · subst hq
                  go_wp2
                  go_roundg (101 - (i + 1))
                  case measure => omega
                  case rel => exact ⟨i + 1, by omega, by omega, Nat.le_refl _, by go_num, HW⟩
                · subst hq hq2
                  go_wp2
                  go_roundg (101 - (i + 1))
                  case measure => omega
                  case rel => exact ⟨i + 1, by omega, by omega, Nat.le_refl _, by go_num, HW⟩
              · obtain rfl : i = 101 := by omega
                have hiz : ¬ (((101 : Nat) : Int) ≤ 100) := by omega
                go_wp2
                go_roundg (4 - (j + 1))
                case measure => omega
                case rel => exact ⟨j + 1, by omega, Nat.le_refl _, by go_num, HY⟩
          · obtain rfl : j = 4 := by omega
            have hjz : ¬ (((4 : Nat) : Int) < 4) := by omega
            go_wp2
            go_ret
            exact ⟨rfl, HX.out.l1.h⟩
end Go.Proofs.Ytcpenjbgiecgnaa
