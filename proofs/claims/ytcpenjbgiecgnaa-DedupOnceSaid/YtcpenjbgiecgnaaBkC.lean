import Derived.Test.YtcpenjbgiecgnaaBkB
namespace Go.Proofs.Ytcpenjbgiecgnaa
open Go Go.RowKit
open Go.Proofs.YtcpenjbgiecgnaaW.PrintLast
set_option linter.unusedVariables false
set_option linter.unusedSimpArgs false

theorem zr_eq : Value.agg #[.int .i64 0, .int .i64 0, .slice none 0 0, .int .i64 0, .int .i64 0] = .agg #[.int .i64 0, .int .i64 0, .slice none 0 0, .int .i64 0, .int .i64 0] := rfl
/-- The error of a request that is not noted. -/
def askE (l : List Int) (n : Int) : Int := if n ≤ lastN l then 230 else 0
def askMiss (l : List Int) (n : Int) : Ending := .returned (.tuple #[.agg #[.int .i64 0, .int .i64 0, .slice none 0 0, .int .i64 0, .int .i64 0], .bool false, .int .i64 (askE l n)])
def askHit (c n : Int) (rv : Value) : Ending := .returned (.tuple #[.agg #[.int .i64 c, .int .i64 n, rv, .int .i64 0, .int .i64 0], .bool true, .int .i64 0])
set_option maxRecDepth 100000 in
set_option maxHeartbeats 8000000 in
theorem bk_ask (F : Nat → Prop) (g d nb : Nat) (S : Int → List Int) (c n : Int) (w : World) (h : BkAt w F g d nb S) (hc : 0 ≤ c) (hc2 : c ≤ 1000) (hn : 1 ≤ n) (hn2 : n ≤ 1048576) :
    Calls Try.prog 12 #[.pointer (some ⟨g, 0, none⟩), .int .i64 c, .int .i64 n] w fun e w' => Below w.heap.size w w' ∧ ((n ∈ S c ∧ ∃ rv, e = askHit c n rv ∧ One w' rv n ∧ ∀ k, rv.ownBlock = some k → w.heap.size ≤ k) ∨ (n ∉ S c ∧ e = askMiss (S c) n)) := by
  have hA := Lib.hid h
  obtain ⟨mb, m, L, h, hl⟩ := h
  have hlt := h.blk.lt
  have hw0 : (w.alloc (.cells #[.int .i64 0, .int .i64 0, .slice none 0 0, .int .i64 0, .int .i64 0] 38)).heap.size = w.heap.size + 1 := World.size_alloc ..
  have hb0 := (Below.refl w.heap.size w).alloc (Nat.le_refl _) (.cells #[.int .i64 0, .int .i64 0, .slice none 0 0, .int .i64 0, .int .i64 0] 38)
  have HA := Lib.hid (hA.out.below hb0)
  have HH := Lib.hid (h.below hb0)
  have HX := Lib.hid (Blk.new w 38 #[.int .i64 0, .int .i64 0, .slice none 0 0, .int .i64 0, .int .i64 0])
  have HB0 := Lib.hid hb0
  have HK := Lib.hid (keyI (n := c) ⟨hc, by omega⟩)
  have HL := Lib.hid (hl c)
  have a1 : ¬ c < 0 := by omega
  have a2 : ¬ 1000 < c := by omega
  have a3 : ¬ n < 1 := by omega
  have a4 : ¬ 1048576 < n := by omega
  clear hl h hA hb0
  go_enter Try.func12, Try.ntmps12
  generalize hwa : w.alloc (.cells #[.int .i64 0, .int .i64 0, .slice none 0 0, .int .i64 0, .int .i64 0] 38) = wa at *
  have c1 := HH.out.blk.cell 1
  have HI := Lib.hid HH.out.im
  obtain ⟨A, cp, hv, hle, hmx⟩ := (HH.out.row c).shape
  have hmx9 : cp ≤ 9223372036854775807 := hmx
  go_wp2_with (first
    | (refine IMap.look (by rfl) (.tmp 29) (.tmp 30) 51 54 (by rfl) (Go.Maps.int_keyed Try.underlying3) Try.underlying51 zero_reps (by rfl) HI.out c (by rfl) HK.out.1 HK.out.2 fun v hvv => ?_
       have hv2 : v = qv m c := by
         rw [hvv]; unfold qv; cases m c <;> rfl
       rw [hv] at hv2
       clear hvv
       subst hv2)
    | fail)
  clear c1 HI
  go_loopg [7, 8, 10, 33] (L c).length (fun gg _ _ _ s33 wr => ∃ k : Nat, k ≤ (L c).length ∧ (L c).length - k ≤ gg ∧ s33 = .int .i64 k ∧ Hid (Below wa.heap.size wa wr) ∧ Hid (∀ x ∈ (L c).take k, x.2 ≠ n))
  case atStart => exact ⟨0, Nat.zero_le _, by omega, by go_num, Lib.hid (Below.refl _ _), Lib.hid (fun x hx => by simp at hx)⟩
  case round =>
    obtain ⟨k, hk, hgg, rfl, HW, HN⟩ := hrel
    by_cases hlk : k < (L c).length
    · obtain ⟨gq, o, c', hv', hgq, hle', hmx'⟩ := (HH.out.row c).form (by omega)
      rw [hv] at hv'
      injection hv' with hA' _ hcc
      subst hA' hcc
      have hrr : QRow wa 38 5 (enR c) (.slice (some ⟨gq, o * 5, none⟩) (L c).length cp) (L c) := by have := HH.out.row c; rwa [hv] at this
      have hrr := hrr.kept (Kept.of_below HW.out fun _ => False) (fun _ _ h => h)
      have d0 := hrr.cell (fun _ => rfl) (by omega) k 0 hlk (by omega)
      have d1 := hrr.cell (fun _ => rfl) (by omega) k 1 hlk (by omega)
      have d2 := hrr.cell (fun _ => rfl) (by omega) k 2 hlk (by omega)
      have d3 := hrr.cell (fun _ => rfl) (by omega) k 3 hlk (by omega)
      have d4 := hrr.cell (fun _ => rfl) (by omega) k 4 hlk (by omega)
      rw [Nat.add_zero] at d0
      rw [← Nat.add_assoc] at d1 d2 d3 d4
      have HM := Lib.hid (List.getElem_mem hlk)
      have HO := Lib.hid ((HH.out.below HW.out).one c _ HM.out)
      have HT := Lib.hid (List.take_succ_eq_append_getElem hlk)
      have HS := Lib.hid (show ((L c)[k]).2 ∈ S c from HL.out ▸ List.mem_map_of_mem HM.out)
      generalize (L c)[k] = x9 at d0 d1 d2 d3 d4 HM HO HT HS
      obtain ⟨⟨gr, cr⟩, sq⟩ := x9
      have HO : Hid (One wr (.slice (some ⟨gr, 0, none⟩) 1 cr) sq) := HO
      obtain ⟨_, _, hrv, hgr, hcr⟩ := One.form HO.out
      simp only [Value.slice.injEq, Option.some.injEq, Addr.mk.injEq, and_true, true_and] at hrv
      obtain ⟨rfl, rfl⟩ := hrv
      simp only [enR, RX.v, List.getElem?_cons_zero, List.getElem?_cons_succ] at d0 d1 d2 d3 d4
      have hlkz : (k : Int) < ((L c).length : Int) := by omega
      have hsz : wa.heap.size ≤ wr.heap.size := HW.out.size
      have HXr := Lib.hid (HX.out.kept (Kept.of_below HW.out fun _ => False) (fun h => h))
      have HY := Lib.hid (Blk.new wr 38 #[.int .i64 c, .int .i64 sq, .slice (some ⟨gr, 0, none⟩) 1 cr, .int .i64 0, .int .i64 0])
      have HW1 := Lib.hid (HW.out.alloc (by omega) (.cells #[.int .i64 c, .int .i64 sq, .slice (some ⟨gr, 0, none⟩) 1 cr, .int .i64 0, .int .i64 0] 38))
      have HO1 := Lib.hid (HO.out.kept ((Kept.refl wr fun _ => False).alloc (.cells #[.int .i64 c, .int .i64 sq, .slice (some ⟨gr, 0, none⟩) 1 cr, .int .i64 0, .int .i64 0] 38)) (fun _ _ h => h))
      have HX1 := Lib.hid (HXr.out.alloc (.cells #[.int .i64 c, .int .i64 sq, .slice (some ⟨gr, 0, none⟩) 1 cr, .int .i64 0, .int .i64 0] 38))
      have hz9 : (wr.alloc (.cells #[.int .i64 c, .int .i64 sq, .slice (some ⟨gr, 0, none⟩) 1 cr, .int .i64 0, .int .i64 0] 38)).heap.size = wr.heap.size + 1 := World.size_alloc ..
      have y0 := HY.out.cell 0
      have y1 := HY.out.cell 1
      have y2 := HY.out.cell 2
      have y3 := HY.out.cell 3
      have y4 := HY.out.cell 4
      clear hrr
      by_cases hs : sq = n
      · subst hs
        have hcc := copied_calls c sq _ _ HO1.out
        clear HK HL HA HH
        go_wp2_with (fail)
        refine hcc.mono ?_
        rintro e w2 ⟨v2, rfl, h2, hb2, hf2⟩
        obtain ⟨g2, c2, rfl, hg2l, hc2⟩ := One.form h2
        have hg2 : wr.heap.size + 1 ≤ g2 := hz9 ▸ hf2 g2 (by simp [Value.ownBlock])
        have HX2 := Lib.hid (HX1.out.kept (Kept.of_below hb2 fun _ => False) (fun h => h))
        have HW2 := Lib.hid (HW1.out.trans (hb2.mono HW1.out.size))
        have H2 := Lib.hid h2
        clear hcc h2 hb2 hf2 HX1 HW1 HXr HO1 HO y0 y1 y2 y3 y4 d0 d1 d2 d3 d4
        have p0 := HX2.out.frozen 0
        have p1 := HX2.out.frozen 1
        have p2 := HX2.out.frozen 2
        have p3 := HX2.out.frozen 3
        have p4 := HX2.out.frozen 4
        have r0 := HX2.out.cell 0
        have r1 := HX2.out.cell 1
        have r2 := HX2.out.cell 2
        have r3 := HX2.out.cell 3
        have r4 := HX2.out.cell 4
        have hxl := HX2.out.lt
        go_wp2
        have h5 := set5 HX2.out (.int .i64 c) (.int .i64 sq) (.slice (some ⟨g2, 0, none⟩) 1 c2) (.int .i64 0) (.int .i64 0)
        have HO5 := Lib.hid (H2.out.kept h5.2 (fun k e => by simp [Value.ownBlock] at e; omega))
        generalize (((((w2.setCell ⟨w.heap.size, 0, none⟩ (.int .i64 c)).setCell ⟨w.heap.size, 1, none⟩ (.int .i64 sq)).setCell ⟨w.heap.size, 2, none⟩ (.slice (some ⟨g2, 0, none⟩) 1 c2)).setCell ⟨w.heap.size, 3, none⟩ (.int .i64 0)).setCell ⟨w.heap.size, 4, none⟩ (.int .i64 0)) = W5 at h5 HO5 ⊢
        have g0 := h5.1.cell 0
        have g1 := h5.1.cell 1
        have g3 := h5.1.cell 2
        have g4 := h5.1.cell 3
        have g5 := h5.1.cell 4
        refine bodyPost_ret (v := .tuple #[.agg #[.int .i64 c, .int .i64 sq, .slice (some ⟨g2, 0, none⟩) 1 c2, .int .i64 0, .int .i64 0], .bool true, .int .i64 0]) ?_ rfl ⟨(HB0.out.trans (HW2.out.mono (by omega))).trans (h5.2.below (by omega) (fun k hk => by omega)), .inl ⟨HS.out, _, rfl, HO5.out, fun k e => by simp [Value.ownBlock] at e; omega⟩⟩
        simp [results, Try.results12, go_sem, g0, g1, g3, g4, g5]
      · go_wp2
        go_roundg ((L c).length - (k + 1))
        case measure => omega
        case rel => exact ⟨k + 1, hlk, Nat.le_refl _, by go_num, HW1, Lib.hid (by
          rw [HT.out]
          intro x hx
          rcases List.mem_append.1 hx with hx | hx
          · exact HN.out x hx
          · rw [List.mem_singleton.1 hx]; exact hs)⟩
    · obtain rfl : k = (L c).length := by omega
      have hlkz : ¬ (((L c).length : Nat) : Int) < ((L c).length : Int) := by omega
      have hcl := bk_last F g d nb S c wr (HA.out.below HW.out) hc (by omega)
      have HXr := Lib.hid (HX.out.kept (Kept.of_below HW.out fun _ => False) (fun h => h))
      have hni : n ∉ S c := by
        rw [← HL.out]
        intro hx
        obtain ⟨x, hx, he⟩ := List.mem_map.1 hx
        exact HN.out x (by rw [List.take_length]; exact hx) he
      have HNI := Lib.hid hni
      clear HK HL HA HH HN hni
      go_wp2_with (fail)
      refine hcl.mono ?_
      rintro e w2 ⟨rfl, rfl⟩
      clear hcl
      have p0 := HXr.out.frozen 0
      have p1 := HXr.out.frozen 1
      have p2 := HXr.out.frozen 2
      have p3 := HXr.out.frozen 3
      have p4 := HXr.out.frozen 4
      have r0 := HXr.out.cell 0
      have r1 := HXr.out.cell 1
      have r2 := HXr.out.cell 2
      have r3 := HXr.out.cell 3
      have r4 := HXr.out.cell 4
      have hxl := HXr.out.lt
      by_cases hnl : n ≤ lastN (S c)
      · go_wp2
        have h5 := set5 HXr.out (.int .i64 0) (.int .i64 0) (.slice none 0 0) (.int .i64 0) (.int .i64 0)
        generalize (((((w2.setCell ⟨w.heap.size, 0, none⟩ (.int .i64 0)).setCell ⟨w.heap.size, 1, none⟩ (.int .i64 0)).setCell ⟨w.heap.size, 2, none⟩ (.slice none 0 0)).setCell ⟨w.heap.size, 3, none⟩ (.int .i64 0)).setCell ⟨w.heap.size, 4, none⟩ (.int .i64 0)) = W5 at h5 ⊢
        have g0 := h5.1.cell 0
        have g1 := h5.1.cell 1
        have g3 := h5.1.cell 2
        have g4 := h5.1.cell 3
        have g5 := h5.1.cell 4
        refine bodyPost_ret (v := .tuple #[.agg #[.int .i64 0, .int .i64 0, .slice none 0 0, .int .i64 0, .int .i64 0], .bool false, .int .i64 230]) ?_ rfl ⟨(HB0.out.trans (HW.out.mono (by omega))).trans (h5.2.below (by omega) (fun k hk => by omega)), .inr ⟨HNI.out, by unfold askMiss askE; rw [if_pos hnl]⟩⟩
        simp [results, Try.results12, go_sem, g0, g1, g3, g4, g5]
      · go_wp2
        have h5 := set5 HXr.out (.int .i64 0) (.int .i64 0) (.slice none 0 0) (.int .i64 0) (.int .i64 0)
        generalize (((((w2.setCell ⟨w.heap.size, 0, none⟩ (.int .i64 0)).setCell ⟨w.heap.size, 1, none⟩ (.int .i64 0)).setCell ⟨w.heap.size, 2, none⟩ (.slice none 0 0)).setCell ⟨w.heap.size, 3, none⟩ (.int .i64 0)).setCell ⟨w.heap.size, 4, none⟩ (.int .i64 0)) = W5 at h5 ⊢
        have g0 := h5.1.cell 0
        have g1 := h5.1.cell 1
        have g3 := h5.1.cell 2
        have g4 := h5.1.cell 3
        have g5 := h5.1.cell 4
        refine bodyPost_ret (v := .tuple #[.agg #[.int .i64 0, .int .i64 0, .slice none 0 0, .int .i64 0, .int .i64 0], .bool false, .int .i64 0]) ?_ rfl ⟨(HB0.out.trans (HW.out.mono (by omega))).trans (h5.2.below (by omega) (fun k hk => by omega)), .inr ⟨HNI.out, by unfold askMiss askE; rw [if_neg (show ¬ n ≤ lastN (S c) by omega)]⟩⟩
        simp [results, Try.results12, go_sem, g0, g1, g3, g4, g5]
end Go.Proofs.Ytcpenjbgiecgnaa
