import Derived.Test.YtcpenjbgiecgnaaBkG
namespace Go.Proofs.Ytcpenjbgiecgnaa
open Go Go.RowKit
set_option linter.unusedVariables false
set_option linter.unusedSimpArgs false
set_option maxRecDepth 100000

theorem info_ints : (Try.prog.info? 3).map (fun i => (i.zero, i.size, i.bytes)) = some (some (.int .i64 0), 1, 8) := by kernel_rfl
theorem zero_ints : ∀ w : World, (zeroValue 40).run Try.prog w = .ok (.slice none 0 0) w := fun w => by kernel_rfl
theorem news_icl (w : World) (n : Int) : ∀ j u, ([n].flatMap icl)[j]? = some u → (w.alloc (.cells #[.int .i64 n] 3)).cell? ((⟨w.heap.size, 0, none⟩ : Addr).add j) = some u := by
  intro j u hu
  rw [addr0]
  have := (Blk.new w 3 #[.int .i64 n]).cell j
  rw [this, ← hu]
  match j with
  | 0 => rfl
  | j + 1 => rfl
set_option maxHeartbeats 16000000 in
theorem keeps_walk (depth : Int) (A : Option Addr) (len cap : Nat) (rows : List (List Value)) (w : World) (w0 : (Lit.int .i64 depth).wf = true) (w1 : Open.Rows w [.int .i64, .int .i64] A len cap rows) (y1 : len * Try.prog.bytesOf 31 ≤ 140737488351232) :
    Calls Try.prog 3 #[.int .i64 depth, .slice A len cap] w fun e w' => e = .returned (.bool true) ∧ Below w.heap.size w w' := by
  obtain ⟨f, hF⟩ := args_of w1 KeyK.cells (fun _ => True) 2 rfl keyK_of
  have hlen : len ≤ 9223372036854775807 := by have h1 := w1.2.1; have h2 := w1.2.2.1; unfold maxLen at h2; omega
  have HF := Lib.hid hF
  clear hF w1 y1 w0
  have hmm := @run_makeMap Try.prog
  go_enter Try.func3, Try.ntmps3
  have hc := works_calls w
  go_wp2_with (fail)
  refine hc.mono ?_
  rintro e wa ⟨rfl, hba⟩
  have HBa := Lib.hid hba
  clear hba hc
  have hc := among_calls depth 64 (by decide) wa
  go_wp2_with (fail)
  refine hc.mono ?_
  rintro e wb ⟨rfl, rfl⟩
  clear hc
  have hab := amg_bounds depth 64 (by decide) (by decide)
  obtain ⟨d0, hd0⟩ := Int.eq_ofNat_of_zero_le hab.1
  rw [hd0] at hab ⊢
  clear hd0
  obtain ⟨d, hd⟩ : ∃ d : Nat, d = d0 + 1 := ⟨_, rfl⟩
  have hd1 : 1 ≤ d := by omega
  have hd64 : d ≤ 64 := by omega
  have hdw : IntKind.i64.wrap (1 + (d0 : Int)) = (d : Int) := by rw [IntKind.wrap_i64]; omega
  have hdw2 : 1 + (d0 : Int) = (d : Int) := by omega
  have HD := Lib.hid (show (d0 : Int) + 1 = (d : Int) by omega)
  have hc := bk_new d wb hd1 hd64
  clear hab
  go_wp2_with (fail)
  rw [HD.out]
  clear hd hdw hdw2
  refine hc.mono ?_
  rintro e wc ⟨g, rfl, F, h1, h2, h3⟩
  have P := Lib.hid (LB.mk h1 (fun k hk => Nat.le_trans HBa.out.size (h3 k hk)) (HBa.out.trans (h2.mono HBa.out.size)))
  clear hc h1 h2 h3
  have K0 := Lib.hid (show KB w (wc.alloc (.map #[] 0)) F (fun k => k = wc.heap.size) g d 0 (fun _ => []) wc.heap.size 0 (fun _ => none) (fun _ => []) from
    ⟨P.out.alloc _, SqI.made wc, fun k hf hg => by have := P.out.bk.lt k hf; omega, fun k hk => by have := P.out.h.size; omega⟩)
  have HM := Lib.hid (show KP d 0 (fun _ => []) (fun _ => []) from ⟨fun c => (by unfold cutN; simp), fun c => List.Pairwise.nil, fun c x hx => by simp at hx, fun c => Nat.le_refl _⟩)
  clear P
  go_wp2_with (fail)
  generalize wc.alloc (.map #[] 0) = W0 at K0 ⊢
  generalize wc.heap.size = mb at K0 ⊢
  clear hmm
  try rw [HD.out]
  go_loopg [8] 200 (fun gg s8 wr => ∃ (k nb nb2 : Nat) (S Q : Int → List Int) (m : Int → Option Value) (F G : Nat → Prop), k ≤ len ∧ k ≤ 200 ∧ 200 - k ≤ gg ∧ s8 = .int .i64 k ∧ nb ≤ k ∧ nb2 ≤ k ∧ Hid (KP d k S Q) ∧ Hid (KB w wr F G g d nb S mb nb2 m Q))
  case atStart => exact ⟨0, 0, 0, _, _, _, _, _, Nat.zero_le _, by omega, by omega, rfl, Nat.le_refl _, Nat.le_refl _, HM, K0⟩
  case round =>
    obtain ⟨k, nb, nb2, S, Q, m, F, G, hk1, hk2, hgg, rfl, hnb, hnb2, HP, HB⟩ := hrel
    by_cases hlt : k < len ∧ k < 200
    · obtain ⟨hlt, h200⟩ := hlt
      have g1 : (k : Int) < (len : Int) := by omega
      have g2 : (k : Int) < 200 := by omega
      have g0 : (0 : Int) ≤ (k : Int) := by omega
      obtain ⟨ad, hA, hcell⟩ := (HF.out.below HB.out.lb.h).2 (by omega)
      obtain rfl := hA
      have c0 := hcell k hlt 0 _ rfl
      have c1 := hcell k hlt 1 _ rfl
      clear hcell
      generalize f k = a at c0 c1
      obtain ⟨ac, av⟩ := a
      simp only [adr, KeyK.cells, List.getElem?_cons_zero, List.getElem?_cons_succ, Nat.zero_add] at c0 c1
      have hc := among_calls ac 4 (by decide) wr
      have hx := amg_bounds ac 4 (by decide) (by decide)
      go_wp2_with (fail)
      refine hc.mono ?_
      rintro e w3 ⟨rfl, hw3⟩
      obtain rfl := hw3.symm
      clear hc hw3
      generalize amg ac 4 = c at hx ⊢
      have hl := HP.out.last hd1 c
      have hy := amg_bounds av 3 (by decide) (by decide)
      obtain ⟨n, hn⟩ : ∃ n : Int, n = lastN (S c) + 1 + amg av 3 := ⟨_, rfl⟩
      have hw1 : IntKind.i64.wrap (lastN (S c) + 1) = lastN (S c) + 1 := by rw [IntKind.wrap_i64]; omega
      have hw2 : IntKind.i64.wrap (lastN (S c) + 1 + amg av 3) = n := by rw [IntKind.wrap_i64]; omega
      have hn1 : lastN (S c) < n := by omega
      have hn2 : n ≤ lastN (S c) + 3 := by omega
      have hn3 : 1 ≤ n := by omega
      have hn4 : n ≤ 1048576 := by omega
      have HN1 := Lib.hid hn1
      have HN2 := Lib.hid hn2
      have hx1 := hx.1
      have hx2 : c ≤ 1000 := by omega
      clear hl hy hn1 hn2
      go_wp2_with (fail)
      go_quiet (first | (go_at_call 7; exact Calls.quiet_of_same (among_calls _ _ (by decide) _)) | (go_at_call 9; exact Calls.quiet_of_same (bk_last F g d nb S c _ (by first | exact HB.out.lb.bk | exact (HB.out.drewN _).lb.bk) (by omega) (by omega))) | fail)
      rw [← hn]
      have HN := Lib.hid hn
      clear hn hw1 hw2 c0 c1
      go_wp2_with (fail)
      refine (bk_reply c n _).mono ?_
      rintro e w4 ⟨rv, rfl, ho, hb, _⟩
      have HB4 := Lib.hid ((HB.out.drewN _).below hb)
      have hsl : (S c).length ≤ 64 := by rw [HP.out.cut c]; exact Nat.le_trans (cut_len d _) hd64
      have hc := HB4.out.note ho hx1 hx2 hn3 hn4 hd1 hd64 hsl (by omega)
      rw [HP.out.noteE hd1 c n HN1.out] at hc
      clear hb ho HB hsl
      go_wp2_with (fail)
      refine hc.mono ?_
      rintro e w5 ⟨rfl, F5, nb5, h5, hnb5⟩
      have HB5 := Lib.hid h5
      have HP5 := Lib.hid (HP.out.step hd1 c n HN1.out HN2.out)
      have hnb5 : nb5 ≤ k + 1 := by omega
      clear hc h5 HB4 hnb
      generalize noteS d S c n = S5 at HB5 HP5
      have HB6 := Lib.hid (HB5.out.alloc (.cells #[.int .i64 n] 3))
      have hw6 : (w5.alloc (.cells #[.int .i64 n] 3)).heap.size = w5.heap.size + 1 := World.size_alloc ..
      have hlen7 := Lib.hid (show ((Q c).length + 1) * 8 ≤ 140737488355328 by have := HP.out.len c; omega)
      have HK := Lib.hid (keyI (n := c) ⟨hx1, by omega⟩)
      have HNC := Lib.hid (news_icl w5 n)
      have HI5 := Lib.hid HB5.out.sq.im
      have HR6 := Lib.hid (HB6.out.sq.row c)
      obtain ⟨A7, c7, hv7⟩ := HR6.out.shape
      have HV7 := Lib.hid hv7
      clear HB5
      go_wp2_with (first
        | (refine IMap.look (by rfl) (.tmp 70) (.tmp 71) 29 40 (by rfl) (Go.Maps.int_keyed Try.underlying3) Try.underlying29 zero_ints (by rfl) HI5.out c (by rfl) HK.out.1 HK.out.2 fun v hvv => ?_
           have hv2 : v = qv m c := by
             rw [hvv]; unfold qv; cases m c <;> rfl
           rw [HV7.out] at hv2
           clear hvv
           subst hv2)
        | (refine Row.append_list (by rfl) (.tmp 72) (.tmp 74) 40 3 (.int .i64 0) 1 8 (by rfl) Try.underlying40 info_ints rfl (by decide) (by decide) (.slice A7 (Q c).length c7) (Q c) [n] (by rfl) ⟨w5.heap.size, 0, none⟩ 1 1 (by rfl) (HV7.out ▸ HR6.out) rfl (fun _ => rfl) HNC.out one_icl hlen7.out ?_
           intro v7 w7 hR hG hO
           rw [← HV7.out] at hG hO
           have K7 := Lib.hid (show Kept (w5.alloc (.cells #[.int .i64 n] 3)) w7 (fun k => some k = (qv m c).ownBlock) from ⟨hG.os, hG.tape, hG.output, hG.size, fun k hk hn => hG.block k hk hn⟩)
           have R7 := Lib.hid hR
           have V7 := Lib.hid hO
           have I7 := Lib.hid (HB6.out.sq.im.kept K7.out (fun e => by obtain ⟨cs, hb⟩ := HR6.out.typed e.symm; exact HB6.out.sq.im.notBlk hb))
           clear hR hG hO)
        | (refine IMap.store (enc := id) (by rfl) (.tmp 68) (.tmp 69) (.tmp 75) 29 40 (by rfl) (Go.Maps.int_keyed Try.underlying3) Try.underlying29 (by rfl) I7.out (by unfold maxLen; omega) c v7 (by rfl) (by rfl) HK.out.1 HK.out.2 fun w8 hi8 hg8 => ?_
           have I8 := Lib.hid hi8
           have K8 := Lib.hid (Kept.of_grown hg8)
           clear hi8 hg8)
        | fail)
      have HB8 := Lib.hid (HB6.out.added K7.out R7.out V7.out K8.out I8.out)
      clear HB6 K7 R7 V7 I7 I8 K8 HI5 HR6 HNC hw6
      go_wp2
      go_roundg (200 - (k + 1))
      case measure => omega
      case rel => exact ⟨k + 1, nb5, nb2 + 1, _, _, _, _, _, by omega, by omega, Nat.le_refl _, by go_num, hnb5, by omega, HP5, HB8⟩
    · have g00 : ¬ ((k : Int) < (len : Int)) ∨ (k : Int) < (len : Int) ∧ ¬ ((k : Int) < 200) := by omega
      clear hlt
      rcases g00 with g1 | ⟨g1, g2⟩
      all_goals
        go_wp2_with (fail)
        go_loopg [76] 4 (fun gg s76 wx => ∃ (j : Nat), j ≤ 4 ∧ 4 - j ≤ gg ∧ s76 = .int .i64 j ∧ Hid (KB w wx F G g d nb S mb nb2 m Q))
        case atStart => exact ⟨0, by omega, by omega, rfl, HB⟩
        case round =>
          obtain ⟨j, hj, hgg2, rfl, HX⟩ := hrel
          by_cases hj4 : j < 4
          · have hjz : (j : Int) < 4 := by omega
            have HK := Lib.hid (keyI (n := (j : Int)) ⟨by omega, by omega⟩)
            have HI := Lib.hid HX.out.sq.im
            obtain ⟨A7, c7, hv7⟩ := (HX.out.sq.row (j : Int)).shape
            have HV7 := Lib.hid hv7
            clear hv7
            obtain ⟨N, HN⟩ : ∃ N, Hid ((Q (j : Int)).length = N) := ⟨_, Lib.hid rfl⟩
            rw [HN.out] at HV7
            have HNL := Lib.hid (show N ≤ k by rw [← HN.out]; exact HP.out.len _)
            go_wp2_with (first
              | (refine IMap.look (by rfl) (.tmp 79) (.tmp 80) 29 40 (by rfl) (Go.Maps.int_keyed Try.underlying3) Try.underlying29 zero_ints (by rfl) HI.out (j : Int) (by rfl) HK.out.1 HK.out.2 fun v hvv => ?_
                 have hv2 : v = qv m (j : Int) := by
                   rw [hvv]; unfold qv; cases m (j : Int) <;> rfl
                 rw [HV7.out] at hv2
                 clear hvv
                 subst hv2)
              | fail)
            go_loopg [83] N (fun gg s83 wy => ∃ (i : Nat), i ≤ N ∧ N - i ≤ gg ∧ s83 = .int .i64 i ∧ Hid (KB w wy F G g d nb S mb nb2 m Q))
            case atStart => exact ⟨0, by omega, by omega, rfl, HX⟩
            case round =>
              obtain ⟨i, hi, hgg3, rfl, HY⟩ := hrel
              by_cases hiN : i < N
              · have hiz : (i : Int) < (N : Int) := by omega
                have hi0 : (0 : Int) ≤ (i : Int) := by omega
                have hiQ : i < (Q (j : Int)).length := by rw [HN.out]; exact hiN
                obtain ⟨gq, c', hv', hgq, hle'⟩ := (HY.out.sq.row (j : Int)).form (by omega)
                rw [HV7.out] at hv'
                injection hv' with hA' hqq hcc
                subst hA' hcc
                clear hqq hle'
                have hrr := HY.out.sq.row (j : Int)
                rw [HV7.out] at hrr
                have q0 := hrr.cell (fun _ => rfl) i 0 hiQ (by omega)
                have hkp := Lib.hid (HP.out.keeps hd1 (j : Int) i hiQ)
                have hbd := Lib.hid (HP.out.bound (j : Int) _ (List.getElem_mem hiQ))
                rw [HN.out] at hkp
                generalize (Q (j : Int))[i] = n at q0 hkp hbd
                simp only [icl, List.getElem?_cons_zero, Nat.add_zero, Nat.mul_one] at q0
                have hn1 : 1 ≤ n := hbd.out.1
                have hn2 : n ≤ 1048576 := by have := hbd.out.2; omega
                have j0 : (0 : Int) ≤ (j : Int) := by omega
                have j1 : (j : Int) ≤ 1000 := by omega
                have HIy := Lib.hid HY.out.sq.im
                clear hrr hiQ
                by_cases hin : n ∈ S (j : Int)
                · have hc := HY.out.ask_in j0 j1 hn1 hn2 hin
                  obtain ⟨z, hz, hzi⟩ : ∃ z : Int, IntKind.i64.wrap ((N : Int) - (d : Int)) = z ∧ z ≤ (i : Int) := ⟨N - d, by have := HNL.out; rw [IntKind.wrap_i64]; omega, by have := hkp.out.1.1 hin; omega⟩
                  clear hin HIy
                  go_wp2_with (fail)
                  refine hc.mono ?_
                  rintro e w9 ⟨g5, c5, rfl, p5⟩
                  unfold askHit
                  have HZ := Lib.hid (p5.alloc (.cells #[.int .i64 (j : Int), .int .i64 n, .slice (some ⟨g5, 0, none⟩) 1 c5, .int .i64 0, .int .i64 0] 38))
                  have HI9 := Lib.hid HZ.out.sq.im
                  clear hc p5
                  go_wp2_with (first
                    | (refine IMap.look (by rfl) (.tmp 97) (.tmp 98) 29 40 (by rfl) (Go.Maps.int_keyed Try.underlying3) Try.underlying29 zero_ints (by rfl) HI9.out (j : Int) (by rfl) HK.out.1 HK.out.2 fun v hvv => ?_
                       have hv2 : v = qv m (j : Int) := by
                         rw [hvv]; unfold qv; cases m (j : Int) <;> rfl
                       rw [HV7.out] at hv2
                       clear hvv
                       subst hv2)
                    | fail)
                  go_roundg (N - (i + 1))
                  case measure => omega
                  case rel => exact ⟨i + 1, by omega, Nat.le_refl _, by rw [show wrap64 ((i : Int) + 1) = ((i + 1 : Nat) : Int) by have := HNL.out; unfold wrap64; omega], HZ⟩
                · have hc := HY.out.ask_out j0 j1 hn1 hn2 hin
                  obtain ⟨z, hz, hzi⟩ : ∃ z : Int, IntKind.i64.wrap ((N : Int) - (d : Int)) = z ∧ ¬ z ≤ (i : Int) := ⟨N - d, by have := HNL.out; rw [IntKind.wrap_i64]; omega, by have := (not_congr hkp.out.1).1 hin; omega⟩
                  unfold askMiss at hc
                  rw [hkp.out.2] at hc
                  clear hin HIy
                  go_wp2_with (fail)
                  refine hc.mono ?_
                  rintro e w9 ⟨rfl, p5⟩
                  have HZ := Lib.hid (p5.alloc (.cells #[.int .i64 0, .int .i64 0, .slice none 0 0, .int .i64 0, .int .i64 0] 38))
                  have HI9 := Lib.hid HZ.out.sq.im
                  clear hc p5
                  go_wp2_with (first
                    | (refine IMap.look (by rfl) (.tmp 97) (.tmp 98) 29 40 (by rfl) (Go.Maps.int_keyed Try.underlying3) Try.underlying29 zero_ints (by rfl) HI9.out (j : Int) (by rfl) HK.out.1 HK.out.2 fun v hvv => ?_
                       have hv2 : v = qv m (j : Int) := by
                         rw [hvv]; unfold qv; cases m (j : Int) <;> rfl
                       rw [HV7.out] at hv2
                       clear hvv
                       subst hv2)
                    | fail)
                  go_roundg (N - (i + 1))
                  case measure => omega
                  case rel => exact ⟨i + 1, by omega, Nat.le_refl _, by rw [show wrap64 ((i : Int) + 1) = ((i + 1 : Nat) : Int) by have := HNL.out; unfold wrap64; omega], HZ⟩
              · obtain rfl : i = N := by omega
                have hiz : ¬ ((i : Nat) : Int) < (i : Int) := by omega
                go_wp2
                go_roundg (4 - (j + 1))
                case measure => omega
                case rel => exact ⟨j + 1, by omega, Nat.le_refl _, by go_num, HY⟩
          · obtain rfl : j = 4 := by omega
            have hjz : ¬ (((4 : Nat) : Int) < 4) := by omega
            go_wp2
            go_ret
            exact ⟨rfl, HX.out.lb.h⟩
end Go.Proofs.Ytcpenjbgiecgnaa
