-- written by a program of ours (a template of wip/pure, filled for this seat)
import Derived.Test.YtafmdlegelbfpaaHCheck
import Derived.Test.YtafmdlegelbfpaaHWriter
import Derived.Test.YtafmdlegelbfpaaPAllx0
import Derived.Test.YtafmdlegelbfpaaPAllx1010
import Derived.Test.YtafmdlegelbfpaaPAllx1013
import Derived.Test.YtafmdlegelbfpaaPStamps
import Derived.Test.YtafmdlegelbfpaaPOpen2
/-! OpFields: the walk. -/
namespace Go.Proofs.Ytafmdlegelbfpaa.Pure
set_option linter.unusedVariables false
set_option linter.unusedSimpArgs false
open Go Go.RowKit Go.Proofs.Ytafmdlegelbfpaa.PAll Go.Proofs.YtafmdlegelbfpaaW.PrintWords Go.Proofs.YtafmdlegelbfpaaW.PrintLast Go.Proofs.Ytafmdlegelbfpaa.Bytes Go.Proofs.Ytafmdlegelbfpaa.Fn Go.Proofs.Ytafmdlegelbfpaa.Shape

theorem check_calls (x : S27) (w : World) : Calls Try.prog 11 #[.agg #[.int .i64 x.f0, .string x.f1, .string x.f2, .int .i64 x.f3, .int .i64 x.f4, .int .i64 x.f5]] w fun e w' => e = .returned (.int .i64 (if opOk x = true then 0 else 80)) ∧ Below w.heap.size w w' :=
  op_Check.calls 0 x.f0 x.f1 x.f2 x.f3 x.f4 x.f5 _ w (check_f 0 x)
theorem bcell {W w1 : World} (hb : Below W.heap.size W w1) : (∀ b o, b < W.heap.size → w1.cell? ⟨b, o, none⟩ = W.cell? ⟨b, o, none⟩) ∧ (∀ b o, b < W.heap.size → w1.frozen? ⟨b, o, none⟩ = W.frozen? ⟨b, o, none⟩) :=
  ⟨fun b o h => hb.cell (p := ⟨b, o, none⟩) h, fun b o h => hb.frozen (p := ⟨b, o, none⟩) h⟩
theorem fields_num (a1 : Int) : 1 ≤ wrap64 (1 + wrap64 ((IntKind.u64.wrap a1).tmod 1000)) ∧ wrap64 (1 + wrap64 ((IntKind.u64.wrap a1).tmod 1000)) ≤ 1000 := by
  have h := u64_range a1
  generalize IntKind.u64.wrap a1 = u at *
  have e : Int.tmod u 1000 = u % 1000 := Int.tmod_eq_emod_of_nonneg h.1
  rw [e, wrap64_id (n := u % 1000) (by omega) (by omega), wrap64_id (by omega) (by omega)]
  omega
theorem fields_z {k : Int} {f1 f2 : ByteArray} {f3 f4 f5 : Int} (h : 6 < k) : op_Check.f 0 k f1 f2 f3 f4 f5 = some 80 := by
  unfold op_Check.f op_Check.ok
  rw [decide_eq_false (by omega)]
  rfl
theorem fields_y1 {n : Int} {f1 f2 : ByteArray} {f3 f4 f5 : Int} (h0 : 1 ≤ n) (h1 : n ≤ 1000) (h : opOk ⟨1, f1, f2, f3, f4, f5⟩ = true) : op_Check.f 0 1 f1 f2 f3 n f5 = some 80 := by
  unfold opOk op_Check.ok at h
  have h := of_decide_eq_true h
  dsimp only at h
  unfold op_Check.f op_Check.ok
  rw [decide_eq_false (by omega)]
  rfl
theorem fields_y2 {n : Int} {f1 f2 : ByteArray} {f3 f4 f5 : Int} (h0 : 1 ≤ n) (h1 : n ≤ 1000) (h : opOk ⟨2, f1, f2, f3, f4, f5⟩ = true) : op_Check.f 0 2 f1 f2 f3 f4 n = some 80 := by
  unfold opOk op_Check.ok at h
  have h := of_decide_eq_true h
  dsimp only at h
  unfold op_Check.f op_Check.ok
  rw [decide_eq_false (by omega)]
  rfl
theorem fields_y3 {n : Int} {f1 f2 : ByteArray} {f3 f4 f5 : Int} (h0 : 1 ≤ n) (h1 : n ≤ 1000) (h : opOk ⟨3, f1, f2, f3, f4, f5⟩ = true) : op_Check.f 0 3 f1 f2 f3 f4 n = some 80 := by
  unfold opOk op_Check.ok at h
  have h := of_decide_eq_true h
  dsimp only at h
  unfold op_Check.f op_Check.ok
  rw [decide_eq_false (by omega)]
  rfl
theorem fields_y4 {n : Int} {f1 f2 : ByteArray} {f3 f4 f5 : Int} (h0 : 1 ≤ n) (h1 : n ≤ 1000) (h : opOk ⟨4, f1, f2, f3, f4, f5⟩ = true) : op_Check.f 0 4 f1 f2 n f4 f5 = some 80 := by
  unfold opOk op_Check.ok at h
  have h := of_decide_eq_true h
  dsimp only at h
  unfold op_Check.f op_Check.ok
  rw [decide_eq_false (by omega)]
  rfl
theorem fields_y5 {n : Int} {f1 f2 : ByteArray} {f3 f4 f5 : Int} (h0 : 1 ≤ n) (h1 : n ≤ 1000) (h : opOk ⟨5, f1, f2, f3, f4, f5⟩ = true) : op_Check.f 0 5 f1 f2 n f4 f5 = some 80 := by
  unfold opOk op_Check.ok at h
  have h := of_decide_eq_true h
  dsimp only at h
  unfold op_Check.f op_Check.ok
  rw [decide_eq_false (by omega)]
  rfl
theorem fields_y6 {n : Int} {f1 f2 : ByteArray} {f3 f4 f5 : Int} (h0 : 1 ≤ n) (h1 : n ≤ 1000) (h : opOk ⟨6, f1, f2, f3, f4, f5⟩ = true) : op_Check.f 0 6 f1 f2 f3 n f5 = some 80 := by
  unfold opOk op_Check.ok at h
  have h := of_decide_eq_true h
  dsimp only at h
  unfold op_Check.f op_Check.ok
  rw [decide_eq_false (by omega)]
  rfl
set_option maxHeartbeats 4000000 in
set_option maxRecDepth 100000 in
theorem fields_walk (cs0 : Array Value) (a1 : Int) (w : World) (s0 : SK.oks Try.prog w opSK cs0.toList) (w1 : (Lit.int .i64 a1).wf = true) :
    Calls Try.prog 4 #[.agg cs0, .int .i64 a1] w fun e w' => e = .returned (.bool true) ∧ Below w.heap.size w w' := by
  obtain ⟨x, hcs, hw⟩ := open_op s0
  obtain rfl : cs0 = #[.int .i64 x.f0, .string x.f1, .string x.f2, .int .i64 x.f3, .int .i64 x.f4, .int .i64 x.f5] := Array.toList_inj.1 hcs
  have hu := Try.underlying27
  obtain ⟨K, hK⟩ := works_op
  have HW := Aside0.mk (hK K (Nat.le_refl _))
  clear hcs s0 hK
  have HB := Aside0.mk ((Below.refl w.heap.size w).alloc (Nat.le_refl _) (.cells #[.int .i64 x.f0, .string x.f1, .string x.f2, .int .i64 x.f3, .int .i64 x.f4, .int .i64 x.f5] 27))
  go_enter Try.func4, Try.ntmps4
  go_wp2_with (fail)
  refine (skylarklaw08_works.calls K true _ HW.out).mono ?_
  rintro e wa ⟨rfl, hB⟩
  have hblk : wa.heap[w.heap.size]? = some (.cells #[.int .i64 x.f0, .string x.f1, .string x.f2, .int .i64 x.f3, .int .i64 x.f4, .int .i64 x.f5] 27 (0, 0)) := (hB.block _ (by simp)).trans (alloc_at rfl)
  have HBa := Aside0.mk (Below.trans HB.out (hB.mono (by simp)))
  have c0 : wa.cell? ⟨w.heap.size, 0, none⟩ = some (.int .i64 x.f0) := PAll.blk_cell hblk 0
  have c1 : wa.cell? ⟨w.heap.size, 1, none⟩ = some (.string x.f1) := PAll.blk_cell hblk 1
  have c2 : wa.cell? ⟨w.heap.size, 2, none⟩ = some (.string x.f2) := PAll.blk_cell hblk 2
  have c3 : wa.cell? ⟨w.heap.size, 3, none⟩ = some (.int .i64 x.f3) := PAll.blk_cell hblk 3
  have c4 : wa.cell? ⟨w.heap.size, 4, none⟩ = some (.int .i64 x.f4) := PAll.blk_cell hblk 4
  have c5 : wa.cell? ⟨w.heap.size, 5, none⟩ = some (.int .i64 x.f5) := PAll.blk_cell hblk 5
  clear hB HB HW
  go_wp2_with (fail)
  refine (check_calls x _).mono ?_
  rintro e wb ⟨rfl, hB⟩
  have hblk2 := (hB.block _ (blk_lt hblk)).trans hblk
  have HBb := Aside0.mk (Below.trans HBa.out (hB.mono HBa.out.size))
  have HK := Aside0.mk hblk2
  have hlt : w.heap.size < wb.heap.size := blk_lt hblk2
  clear hB HBa c0 c1 c2 c3 c4 c5 hblk
  by_cases ho : opOk x = true
  · rw [if_pos ho]
    have hf : x.f0 = 1 ∨ x.f0 = 2 ∨ x.f0 = 3 ∨ x.f0 = 4 ∨ x.f0 = 5 ∨ x.f0 = 6 := by
      unfold opOk op_Check.ok at ho
      have := of_decide_eq_true ho
      omega
    have HO := Aside0.mk ho
    clear ho hw
    obtain ⟨f0, f1, f2, f3, f4, f5⟩ := x
    dsimp only at *
    have c0 : wb.cell? ⟨w.heap.size, 0, none⟩ = some (.int .i64 f0) := PAll.blk_cell hblk2 0
    have c1 : wb.cell? ⟨w.heap.size, 1, none⟩ = some (.string f1) := PAll.blk_cell hblk2 1
    have c2 : wb.cell? ⟨w.heap.size, 2, none⟩ = some (.string f2) := PAll.blk_cell hblk2 2
    have c3 : wb.cell? ⟨w.heap.size, 3, none⟩ = some (.int .i64 f3) := PAll.blk_cell hblk2 3
    have c4 : wb.cell? ⟨w.heap.size, 4, none⟩ = some (.int .i64 f4) := PAll.blk_cell hblk2 4
    have c5 : wb.cell? ⟨w.heap.size, 5, none⟩ = some (.int .i64 f5) := PAll.blk_cell hblk2 5
    clear hblk2
    obtain ⟨hn0, hn1⟩ := fields_num a1
    rcases hf with rfl | rfl | rfl | rfl | rfl | rfl
    · have hy : op_Check.f 0 1 f1 f2 f3 (wrap64 (1 + wrap64 ((IntKind.u64.wrap a1).tmod 1000))) f5 = some 80 := fields_y1 hn0 hn1 HO.out
      have hz : op_Check.f 0 7 f1 f2 f3 f4 f5 = some 80 := fields_z (by omega)
      have hv : op_Writes.f 1 f1 f2 f3 f4 f5 = some true := by rfl
      have HY := Aside0.mk hy
      have HZ := Aside0.mk hz
      have HV := Aside0.mk hv
      clear hy hz hv
      have hl1 : w.heap.size < wb.heap.size + 1 := by omega
      have hl2 : w.heap.size < wb.heap.size + 1 + 1 := by omega
      have hl3 : w.heap.size < wb.heap.size + 2 := by omega
      go_wp2_with (fail)
      go_region_with
        (first | (go_at_call 11; ((with_reducible refine (op_Check.calls 0 _ _ _ _ _ _ _ _ HY.out).mono ?_); rintro e w2 ⟨rfl, hB2⟩; obtain ⟨hc_, hf_⟩ := bcell hB2; have hz_ : wb.heap.size + 1 < w2.heap.size := (by have hq_ := hB2.size; (try simp at hq_); omega); have hy_ : w.heap.size < w2.heap.size := (by omega))) | (go_at_call 11; ((with_reducible refine (op_Check.calls 0 _ _ _ _ _ _ _ _ HZ.out).mono ?_); rintro e w2 ⟨rfl, hB2⟩; obtain ⟨hc_, hf_⟩ := bcell hB2; have hz_ : wb.heap.size + 1 < w2.heap.size := (by have hq_ := hB2.size; (try simp at hq_); omega); have hy_ : w.heap.size < w2.heap.size := (by omega))) | (go_at_call 13; ((with_reducible refine (op_Writes.calls _ _ _ _ _ _ _ _ HV.out).mono ?_); rintro e w2 ⟨rfl, hB2⟩; obtain ⟨hc_, hf_⟩ := bcell hB2; have hz_ : wb.heap.size + 1 < w2.heap.size := (by have hq_ := hB2.size; (try simp at hq_); omega); have hy_ : w.heap.size < w2.heap.size := (by omega))))
      all_goals
        go_wp2
        go_ret
        exact ⟨rfl, by repeat (first | exact HBb.out | apply below_drew1 | apply below_alloc | refine below_step ?_ (by assumption))⟩
    · have hy : op_Check.f 0 2 f1 f2 f3 f4 (wrap64 (1 + wrap64 ((IntKind.u64.wrap a1).tmod 1000))) = some 80 := fields_y2 hn0 hn1 HO.out
      have hz : op_Check.f 0 8 f1 f2 f3 f4 f5 = some 80 := fields_z (by omega)
      have hv : op_Writes.f 2 f1 f2 f3 f4 f5 = some true := by rfl
      have HY := Aside0.mk hy
      have HZ := Aside0.mk hz
      have HV := Aside0.mk hv
      clear hy hz hv
      have hl1 : w.heap.size < wb.heap.size + 1 := by omega
      have hl2 : w.heap.size < wb.heap.size + 1 + 1 := by omega
      have hl3 : w.heap.size < wb.heap.size + 2 := by omega
      go_wp2_with (fail)
      go_region_with
        (first | (go_at_call 11; ((with_reducible refine (op_Check.calls 0 _ _ _ _ _ _ _ _ HY.out).mono ?_); rintro e w2 ⟨rfl, hB2⟩; obtain ⟨hc_, hf_⟩ := bcell hB2; have hz_ : wb.heap.size + 1 < w2.heap.size := (by have hq_ := hB2.size; (try simp at hq_); omega); have hy_ : w.heap.size < w2.heap.size := (by omega))) | (go_at_call 11; ((with_reducible refine (op_Check.calls 0 _ _ _ _ _ _ _ _ HZ.out).mono ?_); rintro e w2 ⟨rfl, hB2⟩; obtain ⟨hc_, hf_⟩ := bcell hB2; have hz_ : wb.heap.size + 1 < w2.heap.size := (by have hq_ := hB2.size; (try simp at hq_); omega); have hy_ : w.heap.size < w2.heap.size := (by omega))) | (go_at_call 13; ((with_reducible refine (op_Writes.calls _ _ _ _ _ _ _ _ HV.out).mono ?_); rintro e w2 ⟨rfl, hB2⟩; obtain ⟨hc_, hf_⟩ := bcell hB2; have hz_ : wb.heap.size + 1 < w2.heap.size := (by have hq_ := hB2.size; (try simp at hq_); omega); have hy_ : w.heap.size < w2.heap.size := (by omega))))
      all_goals
        go_wp2
        go_ret
        exact ⟨rfl, by repeat (first | exact HBb.out | apply below_drew1 | apply below_alloc | refine below_step ?_ (by assumption))⟩
    · have hy : op_Check.f 0 3 f1 f2 f3 f4 (wrap64 (1 + wrap64 ((IntKind.u64.wrap a1).tmod 1000))) = some 80 := fields_y3 hn0 hn1 HO.out
      have hz : op_Check.f 0 9 f1 f2 f3 f4 f5 = some 80 := fields_z (by omega)
      have hv : op_Writes.f 3 f1 f2 f3 f4 f5 = some true := by rfl
      have HY := Aside0.mk hy
      have HZ := Aside0.mk hz
      have HV := Aside0.mk hv
      clear hy hz hv
      have hl1 : w.heap.size < wb.heap.size + 1 := by omega
      have hl2 : w.heap.size < wb.heap.size + 1 + 1 := by omega
      have hl3 : w.heap.size < wb.heap.size + 2 := by omega
      go_wp2_with (fail)
      go_region_with
        (first | (go_at_call 11; ((with_reducible refine (op_Check.calls 0 _ _ _ _ _ _ _ _ HY.out).mono ?_); rintro e w2 ⟨rfl, hB2⟩; obtain ⟨hc_, hf_⟩ := bcell hB2; have hz_ : wb.heap.size + 1 < w2.heap.size := (by have hq_ := hB2.size; (try simp at hq_); omega); have hy_ : w.heap.size < w2.heap.size := (by omega))) | (go_at_call 11; ((with_reducible refine (op_Check.calls 0 _ _ _ _ _ _ _ _ HZ.out).mono ?_); rintro e w2 ⟨rfl, hB2⟩; obtain ⟨hc_, hf_⟩ := bcell hB2; have hz_ : wb.heap.size + 1 < w2.heap.size := (by have hq_ := hB2.size; (try simp at hq_); omega); have hy_ : w.heap.size < w2.heap.size := (by omega))) | (go_at_call 13; ((with_reducible refine (op_Writes.calls _ _ _ _ _ _ _ _ HV.out).mono ?_); rintro e w2 ⟨rfl, hB2⟩; obtain ⟨hc_, hf_⟩ := bcell hB2; have hz_ : wb.heap.size + 1 < w2.heap.size := (by have hq_ := hB2.size; (try simp at hq_); omega); have hy_ : w.heap.size < w2.heap.size := (by omega))))
      all_goals
        go_wp2
        go_ret
        exact ⟨rfl, by repeat (first | exact HBb.out | apply below_drew1 | apply below_alloc | refine below_step ?_ (by assumption))⟩
    · have hy : op_Check.f 0 4 f1 f2 (wrap64 (1 + wrap64 ((IntKind.u64.wrap a1).tmod 1000))) f4 f5 = some 80 := fields_y4 hn0 hn1 HO.out
      have hz : op_Check.f 0 10 f1 f2 f3 f4 f5 = some 80 := fields_z (by omega)
      have hv : op_Writes.f 4 f1 f2 f3 f4 f5 = some true := by rfl
      have HY := Aside0.mk hy
      have HZ := Aside0.mk hz
      have HV := Aside0.mk hv
      clear hy hz hv
      have hl1 : w.heap.size < wb.heap.size + 1 := by omega
      have hl2 : w.heap.size < wb.heap.size + 1 + 1 := by omega
      have hl3 : w.heap.size < wb.heap.size + 2 := by omega
      go_wp2_with (fail)
      go_region_with
        (first | (go_at_call 11; ((with_reducible refine (op_Check.calls 0 _ _ _ _ _ _ _ _ HY.out).mono ?_); rintro e w2 ⟨rfl, hB2⟩; obtain ⟨hc_, hf_⟩ := bcell hB2; have hz_ : wb.heap.size + 1 < w2.heap.size := (by have hq_ := hB2.size; (try simp at hq_); omega); have hy_ : w.heap.size < w2.heap.size := (by omega))) | (go_at_call 11; ((with_reducible refine (op_Check.calls 0 _ _ _ _ _ _ _ _ HZ.out).mono ?_); rintro e w2 ⟨rfl, hB2⟩; obtain ⟨hc_, hf_⟩ := bcell hB2; have hz_ : wb.heap.size + 1 < w2.heap.size := (by have hq_ := hB2.size; (try simp at hq_); omega); have hy_ : w.heap.size < w2.heap.size := (by omega))) | (go_at_call 13; ((with_reducible refine (op_Writes.calls _ _ _ _ _ _ _ _ HV.out).mono ?_); rintro e w2 ⟨rfl, hB2⟩; obtain ⟨hc_, hf_⟩ := bcell hB2; have hz_ : wb.heap.size + 1 < w2.heap.size := (by have hq_ := hB2.size; (try simp at hq_); omega); have hy_ : w.heap.size < w2.heap.size := (by omega))))
      all_goals
        go_wp2
        go_ret
        exact ⟨rfl, by repeat (first | exact HBb.out | apply below_drew1 | apply below_alloc | refine below_step ?_ (by assumption))⟩
    · have hy : op_Check.f 0 5 f1 f2 (wrap64 (1 + wrap64 ((IntKind.u64.wrap a1).tmod 1000))) f4 f5 = some 80 := fields_y5 hn0 hn1 HO.out
      have hz : op_Check.f 0 11 f1 f2 f3 f4 f5 = some 80 := fields_z (by omega)
      have hv : op_Writes.f 5 f1 f2 f3 f4 f5 = some false := by rfl
      have HY := Aside0.mk hy
      have HZ := Aside0.mk hz
      have HV := Aside0.mk hv
      clear hy hz hv
      have hl1 : w.heap.size < wb.heap.size + 1 := by omega
      have hl2 : w.heap.size < wb.heap.size + 1 + 1 := by omega
      have hl3 : w.heap.size < wb.heap.size + 2 := by omega
      go_wp2_with (fail)
      go_region_with
        (first | (go_at_call 11; ((with_reducible refine (op_Check.calls 0 _ _ _ _ _ _ _ _ HY.out).mono ?_); rintro e w2 ⟨rfl, hB2⟩; obtain ⟨hc_, hf_⟩ := bcell hB2; have hz_ : wb.heap.size + 1 < w2.heap.size := (by have hq_ := hB2.size; (try simp at hq_); omega); have hy_ : w.heap.size < w2.heap.size := (by omega))) | (go_at_call 11; ((with_reducible refine (op_Check.calls 0 _ _ _ _ _ _ _ _ HZ.out).mono ?_); rintro e w2 ⟨rfl, hB2⟩; obtain ⟨hc_, hf_⟩ := bcell hB2; have hz_ : wb.heap.size + 1 < w2.heap.size := (by have hq_ := hB2.size; (try simp at hq_); omega); have hy_ : w.heap.size < w2.heap.size := (by omega))) | (go_at_call 13; ((with_reducible refine (op_Writes.calls _ _ _ _ _ _ _ _ HV.out).mono ?_); rintro e w2 ⟨rfl, hB2⟩; obtain ⟨hc_, hf_⟩ := bcell hB2; have hz_ : wb.heap.size + 1 < w2.heap.size := (by have hq_ := hB2.size; (try simp at hq_); omega); have hy_ : w.heap.size < w2.heap.size := (by omega))))
      all_goals
        go_wp2
        go_ret
        exact ⟨rfl, by repeat (first | exact HBb.out | apply below_drew1 | apply below_alloc | refine below_step ?_ (by assumption))⟩
    · have hy : op_Check.f 0 6 f1 f2 f3 (wrap64 (1 + wrap64 ((IntKind.u64.wrap a1).tmod 1000))) f5 = some 80 := fields_y6 hn0 hn1 HO.out
      have hz : op_Check.f 0 12 f1 f2 f3 f4 f5 = some 80 := fields_z (by omega)
      have hv : op_Writes.f 6 f1 f2 f3 f4 f5 = some false := by rfl
      have HY := Aside0.mk hy
      have HZ := Aside0.mk hz
      have HV := Aside0.mk hv
      clear hy hz hv
      have hl1 : w.heap.size < wb.heap.size + 1 := by omega
      have hl2 : w.heap.size < wb.heap.size + 1 + 1 := by omega
      have hl3 : w.heap.size < wb.heap.size + 2 := by omega
      go_wp2_with (fail)
      go_region_with
        (first | (go_at_call 11; ((with_reducible refine (op_Check.calls 0 _ _ _ _ _ _ _ _ HY.out).mono ?_); rintro e w2 ⟨rfl, hB2⟩; obtain ⟨hc_, hf_⟩ := bcell hB2; have hz_ : wb.heap.size + 1 < w2.heap.size := (by have hq_ := hB2.size; (try simp at hq_); omega); have hy_ : w.heap.size < w2.heap.size := (by omega))) | (go_at_call 11; ((with_reducible refine (op_Check.calls 0 _ _ _ _ _ _ _ _ HZ.out).mono ?_); rintro e w2 ⟨rfl, hB2⟩; obtain ⟨hc_, hf_⟩ := bcell hB2; have hz_ : wb.heap.size + 1 < w2.heap.size := (by have hq_ := hB2.size; (try simp at hq_); omega); have hy_ : w.heap.size < w2.heap.size := (by omega))) | (go_at_call 13; ((with_reducible refine (op_Writes.calls _ _ _ _ _ _ _ _ HV.out).mono ?_); rintro e w2 ⟨rfl, hB2⟩; obtain ⟨hc_, hf_⟩ := bcell hB2; have hz_ : wb.heap.size + 1 < w2.heap.size := (by have hq_ := hB2.size; (try simp at hq_); omega); have hy_ : w.heap.size < w2.heap.size := (by omega))))
      all_goals
        go_wp2
        go_ret
        exact ⟨rfl, by repeat (first | exact HBb.out | apply below_drew1 | apply below_alloc | refine below_step ?_ (by assumption))⟩
  · rw [if_neg ho]
    go_wp2
    go_ret
    exact ⟨rfl, HBb.out⟩
end Go.Proofs.Ytafmdlegelbfpaa.Pure
