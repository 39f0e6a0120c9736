import Derived.Test.YtodplpjoonkniaaW10
import Derived.Test.YtodplpjoonkniaaOpen
namespace Go.Proofs.Ytodplpjoonkniaa
open Go Go.RowKit
set_option linter.unusedVariables false
set_option linter.unusedSimpArgs false

theorem good_new (n : Nat) (h1 : 1 ≤ n) (h2 : n ≤ 16) : Good (List.replicate n 0) where
  pos := by simp; omega
  len := by simp; omega
  lo := fun x hx => by obtain ⟨_, rfl⟩ := List.mem_replicate.1 hx; omega
  hi := fun x hx => by obtain ⟨_, rfl⟩ := List.mem_replicate.1 hx; omega

set_option maxHeartbeats 4000000 in
set_option maxRecDepth 100000 in
theorem plays_walk (a0 a1 : Int) (A2 : Option Addr) (len2 cap2 : Nat) (rows2 : List (List Value)) (w : World) (w0 : (Lit.int .i64 a0).wf = true) (w1 : (Lit.int .u64 a1).wf = true)
    (w2 : Open.Rows w [.int .i64, .int .i64, .int .i64] A2 len2 cap2 rows2) (y2 : len2 * Try.prog.bytesOf 39 ≤ 140737488351232) :
    Calls Try.prog 6 #[.int .i64 a0, .int .u64 a1, .slice A2 len2 cap2] w fun e w' => e = .returned (.bool true) ∧ Below w.heap.size w w' := by
  obtain ⟨f, hF⟩ := act3_of w2
  have hlen : len2 ≤ 9223372036854775807 := by have h1 := w2.2.1; have h2 := w2.2.2.1; unfold maxLen at h2; omega
  clear w2 y2 w0 w1
  have HF := Lib.hid hF
  clear hF
  by_cases hn : a0 < 1 ∨ 16 < a0
  · have HN := Lib.hid (new_bad a0 a1 w hn)
    have HR := Lib.hid (rnew_bad a0 a1 w hn)
    clear hn
    go_enter Try.func6, Try.ntmps6
    go_wp2_with (fail)
    refine HN.out.mono ?_
    rintro e w' ⟨rfl, rfl⟩
    go_wp2_with (fail)
    refine HR.out.mono ?_
    rintro e w' ⟨rfl, rfl⟩
    go_wp2
    go_loop [7] (fun v => v = .pointer none) (fun _ => 0)
    case atStart => rfl
    case round =>
      obtain rfl := hrel
      go_wp2_with (fail)
      refine (works_calls _).mono ?_
      rintro e w' ⟨rfl, hB⟩
      go_wp2
      go_ret
      exact ⟨rfl, hB⟩
  obtain ⟨n, rfl⟩ : ∃ n : Nat, a0 = (n : Int) := ⟨a0.toNat, by omega⟩
  have hn1 : 1 ≤ n := by omega
  have hn2 : n ≤ 16 := by omega
  have HG0 := Lib.hid (good_new n hn1 hn2)
  clear hn
  go_enter Try.func6, Try.ntmps6
  go_wp2_with (fail)
  refine (new_ok n a1 w hn1 hn2).mono ?_
  rintro e wa ⟨gc, bc, rfl, hC, hg, hb, hBa⟩
  have HC := Lib.hid hC
  have HBa := Lib.hid hBa
  have hgc : w.heap.size ≤ gc := hg
  have hbc : w.heap.size ≤ bc := hb
  clear hC hBa hg hb
  go_wp2_with (fail)
  refine (rnew_ok n a1 wa hn1 hn2).mono ?_
  rintro e wb ⟨gr, br, rfl, hR, hg, hb, hBb⟩
  have HC1 := Lib.hid (HC.out.kept (Kept.of_below hBb (fun _ => False)) (fun h => h) (fun h => h))
  have HR1 := Lib.hid hR
  have HB1 := Lib.hid (below_below HBa.out hBb)
  have hltc := HC.out.lt
  have n1 : bc ≠ br := by omega
  have n2 : w.heap.size ≤ gr := by have := HBa.out.size; omega
  have n3 : w.heap.size ≤ br := by have := HBa.out.size; omega
  clear hR hBb hg hb hltc HC HBa
  go_wp2
  go_loopw [7, 9, 11] (fun v u i wr => ∃ (gc bc gr br k : Nat) (ts : List Int) (wd : Int), k ≤ len2 ∧ k ≤ 300 ∧ v = .pointer (some ⟨gc, 0, none⟩) ∧ u = .pointer (some ⟨gr, 0, none⟩) ∧ i = .int .i64 k ∧ Hid (Clk wr gc bc ts wd) ∧ Hid (Rlk wr gr br ts wd) ∧ Hid (Good ts) ∧ bc ≠ br ∧ w.heap.size ≤ gc ∧ w.heap.size ≤ bc ∧ w.heap.size ≤ gr ∧ w.heap.size ≤ br ∧ Hid (Below w.heap.size w wr)) (fun _ _ i _ => 300 - (intOf i).toNat)
  case atStart => exact ⟨gc, bc, gr, br, 0, _, _, by omega, by omega, rfl, rfl, rfl, HC1.out, HR1.out, HG0, n1, hgc, hbc, n2, n3, HB1.out⟩
  clear HC1 HR1 HB1 n1 n2 n3 hgc hbc
  case round =>
    obtain ⟨gc, bc, gr, br, k, ts, wd, hk1, hk2, rfl, rfl, rfl, HC, HR, HG, hbb, hgc, hbc, hgr, hbr, HB⟩ := hrel
    by_cases hstop : k < len2 ∧ k < 300
    rotate_left
    · by_cases hq : k < len2
      · have q1 : 300 ≤ k := by omega
        clear hstop
        go_wp2_with (fail)
        refine (works_calls _).mono ?_
        rintro e w' ⟨rfl, hB⟩
        go_wp2
        go_ret
        exact ⟨rfl, below_below HB.out hB⟩
      · have q1 : len2 ≤ k := by omega
        clear hstop
        go_wp2_with (fail)
        refine (works_calls _).mono ?_
        rintro e w' ⟨rfl, hB⟩
        go_wp2
        go_ret
        exact ⟨rfl, below_below HB.out hB⟩
    obtain ⟨q1, q2⟩ := hstop
    obtain ⟨ad, hA, hcell⟩ := (HF.out.below HB.out) (by omega)
    obtain rfl := hA
    have hc0 := (hcell k q1).1
    have hc1 := (hcell k q1).2.1
    have hc2 := (hcell k q1).2.2
    clear hcell
    obtain ⟨⟨fk, fn, fx⟩, hfk⟩ : ∃ p, f k = p := ⟨_, rfl⟩
    rw [hfk] at hc0 hc1 hc2
    dsimp only at hc0 hc1 hc2
    have HC1 := Lib.hid (HC.out.kept (Kept.of_below ((Below.refl wr.heap.size wr).alloc (Nat.le_refl _) (.cells #[.int .i64 fk, .int .i64 fn, .int .i64 fx] 39)) (fun _ => False)) (fun h => h) (fun h => h))
    have HR1 := Lib.hid (HR.out.kept (Kept.of_below ((Below.refl wr.heap.size wr).alloc (Nat.le_refl _) (.cells #[.int .i64 fk, .int .i64 fn, .int .i64 fx] 39)) (fun _ => False)) (fun h => h) (fun h => h))
    have HX1 := Lib.hid (Blk.new wr 39 #[.int .i64 fk, .int .i64 fn, .int .i64 fx])
    have HB1 := Lib.hid (below_below HB.out ((Below.refl wr.heap.size wr).alloc (Nat.le_refl _) (.cells #[.int .i64 fk, .int .i64 fn, .int .i64 fx] 39)))
    have l1 : gc < wr.heap.size := HC.out.lt.1
    have l2 : bc < wr.heap.size := HC.out.lt.2
    have l3 : gr < wr.heap.size := HR.out.lt.1
    have l4 : br < wr.heap.size := HR.out.lt.2
    have m1 : gc ≠ bc := HC.out.ne
    have m2 : gr ≠ br := HR.out.ne
    have m3 : gc ≠ gr := by obtain ⟨⟨_, hh⟩, _⟩ := HC.out; obtain ⟨⟨_, hh'⟩, _⟩ := HR.out; exact hh.ne_ hh' (by decide)
    have m4 : gc ≠ br := by obtain ⟨⟨_, hh⟩, _⟩ := HC.out; obtain ⟨_, ⟨_, hh', _⟩⟩ := HR.out; exact hh.ne_ hh' (by decide)
    have m5 : gr ≠ bc := by obtain ⟨⟨_, hh⟩, _⟩ := HR.out; obtain ⟨_, ⟨_, hh', _⟩⟩ := HC.out; exact hh.ne_ hh' (by decide)
    have hw0 : w.heap.size ≤ wr.heap.size := HB.out.size
    go_wp2_with (fail)
    have hx0 := HX1.out.cell 0
    have hx1 := HX1.out.cell 1
    have hx2 := HX1.out.cell 2
    simp only [List.getElem?_toArray, List.getElem?_cons_zero, List.getElem?_cons_succ] at hx0 hx1 hx2
    generalize wr.alloc (.cells #[.int .i64 fk, .int .i64 fn, .int .i64 fx] 39) = W at *
    clear hc0 hc1 hc2 hfk HC HR HB
    obtain ⟨K, hK⟩ : ∃ K, amg fk 5 = K := ⟨_, rfl⟩
    have hKb := amg_bounds fk 5 (by omega) (by omega)
    rw [hK] at hKb
    refine (among_calls fk 5 _ (by omega)).mono ?_
    rintro e w' ⟨rfl, rfl⟩
    rw [hK]
    clear hK
    obtain rfl | rfl | rfl | rfl | rfl : K = 0 ∨ K = 1 ∨ K = 2 ∨ K = 3 ∨ K = 4 := by omega
    · -- step_any
      clear hx0
      go_wp2_with (fail)
      clear hx1 hx2
      refine (step_any gc bc ts wd fn fx _ HC1.out HG.out).mono ?_
      rintro e w2 ⟨rfl, hC, hK⟩
      have HC2 := Lib.hid hC
      have HR2 := Lib.hid (HR1.out.kept hK (by omega) (by omega))
      have HX2 := Lib.hid (HX1.out.kept hK (by omega))
      have HB2 := Lib.hid (below_kept HB1.out hK (fun j hj e => by subst e; omega))
      clear hC hK
      have hx1 := HX2.out.cell 1
      have hx2 := HX2.out.cell 2
      simp only [List.getElem?_toArray, List.getElem?_cons_zero, List.getElem?_cons_succ] at hx1 hx2
      go_wp2_with (fail)
      clear hx1 hx2
      refine (rstep_any gr br ts wd fn fx _ HR2.out HG.out).mono ?_
      rintro e w3 ⟨rfl, hR, hK⟩
      have HC3 := Lib.hid (HC2.out.kept hK (by omega) (by omega))
      have HR3 := Lib.hid hR
      have HB3 := Lib.hid (below_kept HB2.out hK (fun j hj e => by subst e; omega))
      clear hR hK
      have HG3 : Hid (Good (stT ts fn fx)) := HG.out.st fn fx
      generalize stV ts fn fx = X
      generalize stE ts fn fx = E
      go_wp2_with (fail)
      refine (apart_clk gc bc (stT ts fn fx) (wd) _ HC3.out HG3.out.pos HG3.out.len).mono ?_
      rintro e w4 ⟨rfl, N4, rfl⟩
      go_wp2_with (fail)
      refine (rapart_any gr br (stT ts fn fx) (wd) _ (HR3.out.drewN N4) HG3.out).mono ?_
      rintro e w5 ⟨rfl, N5, rfl⟩
      go_wp2
      go_roundw
      case rel => exact ⟨gc, bc, gr, br, k + 1, (stT ts fn fx), (wd), by omega, by omega, rfl, rfl, by go_num, HC3.out.drewN (N4 + N5), HR3.out.drewN (N4 + N5), HG3, hbb, hgc, hbc, hgr, hbr, below_drewN HB3.out (N4 + N5)⟩
      case measure => simp [intOf]; omega
    · -- all_any
      clear hx0
      go_wp2_with (fail)
      clear hx1 hx2
      refine (all_any gc bc ts wd fx _ HC1.out HG.out).mono ?_
      rintro e w2 ⟨rfl, hC, hK⟩
      have HC2 := Lib.hid hC
      have HR2 := Lib.hid (HR1.out.kept hK (by omega) (by omega))
      have HX2 := Lib.hid (HX1.out.kept hK (by omega))
      have HB2 := Lib.hid (below_kept HB1.out hK (fun j hj e => by subst e; omega))
      clear hC hK
      have hx1 := HX2.out.cell 1
      have hx2 := HX2.out.cell 2
      simp only [List.getElem?_toArray, List.getElem?_cons_zero, List.getElem?_cons_succ] at hx1 hx2
      go_wp2_with (fail)
      clear hx1 hx2
      refine (rall_any gr br ts wd fx _ HR2.out HG.out).mono ?_
      rintro e w3 ⟨rfl, hR, hK⟩
      have HC3 := Lib.hid (HC2.out.kept hK (by omega) (by omega))
      have HR3 := Lib.hid hR
      have HB3 := Lib.hid (below_kept HB2.out hK (fun j hj e => by subst e; omega))
      clear hR hK
      have HG3 : Hid (Good (alT ts fx)) := HG.out.al fx
      generalize alE ts fx = E
      go_wp2_with (fail)
      refine (apart_clk gc bc (alT ts fx) (wd) _ HC3.out HG3.out.pos HG3.out.len).mono ?_
      rintro e w4 ⟨rfl, N4, rfl⟩
      go_wp2_with (fail)
      refine (rapart_any gr br (alT ts fx) (wd) _ (HR3.out.drewN N4) HG3.out).mono ?_
      rintro e w5 ⟨rfl, N5, rfl⟩
      go_wp2
      go_roundw
      case rel => exact ⟨gc, bc, gr, br, k + 1, (alT ts fx), (wd), by omega, by omega, rfl, rfl, by go_num, HC3.out.drewN (N4 + N5), HR3.out.drewN (N4 + N5), HG3, hbb, hgc, hbc, hgr, hbr, below_drewN HB3.out (N4 + N5)⟩
      case measure => simp [intOf]; omega
    · -- draw_any
      clear hx0
      go_wp2_with (fail)
      clear hx1 hx2
      refine (draw_any gc bc ts wd fx _ HC1.out).mono ?_
      rintro e w2 ⟨rfl, hC, hK⟩
      have HC2 := Lib.hid hC
      have HR2 := Lib.hid (HR1.out.kept hK (by omega) (by omega))
      have HX2 := Lib.hid (HX1.out.kept hK (by omega))
      have HB2 := Lib.hid (below_kept HB1.out hK (fun j hj e => by subst e; omega))
      clear hC hK
      have hx1 := HX2.out.cell 1
      have hx2 := HX2.out.cell 2
      simp only [List.getElem?_toArray, List.getElem?_cons_zero, List.getElem?_cons_succ] at hx1 hx2
      go_wp2_with (fail)
      clear hx1 hx2
      refine (rdraw_any gr br ts wd fx _ HR2.out).mono ?_
      rintro e w3 ⟨rfl, hR, hK⟩
      have HC3 := Lib.hid (HC2.out.kept hK (by omega) (by omega))
      have HR3 := Lib.hid hR
      have HB3 := Lib.hid (below_kept HB2.out hK (fun j hj e => by subst e; omega))
      clear hR hK
      have HG3 : Hid (Good (ts)) := HG
      generalize drV wd fx = X
      generalize drE fx = E
      go_wp2_with (fail)
      refine (apart_clk gc bc (ts) (drW wd fx) _ HC3.out HG3.out.pos HG3.out.len).mono ?_
      rintro e w4 ⟨rfl, N4, rfl⟩
      go_wp2_with (fail)
      refine (rapart_any gr br (ts) (drW wd fx) _ (HR3.out.drewN N4) HG3.out).mono ?_
      rintro e w5 ⟨rfl, N5, rfl⟩
      go_wp2
      go_roundw
      case rel => exact ⟨gc, bc, gr, br, k + 1, (ts), (drW wd fx), by omega, by omega, rfl, rfl, by go_num, HC3.out.drewN (N4 + N5), HR3.out.drewN (N4 + N5), HG3, hbb, hgc, hbc, hgr, hbr, below_drewN HB3.out (N4 + N5)⟩
      case measure => simp [intOf]; omega
    · -- now_any
      clear hx0
      go_wp2_with (fail)
      clear hx1 hx2
      refine (now_any gc bc ts wd fn _ HC1.out HG.out).mono ?_
      rintro e w2 ⟨rfl, rfl⟩
      have HC2 := HC1
      have HR2 := HR1
      have HX2 := HX1
      have HB2 := HB1
      have hx1 := HX2.out.cell 1
      have hx2 := HX2.out.cell 2
      simp only [List.getElem?_toArray, List.getElem?_cons_zero, List.getElem?_cons_succ] at hx1 hx2
      go_wp2_with (fail)
      clear hx1 hx2
      refine (rnow_any gr br ts wd fn _ HR2.out HG.out).mono ?_
      rintro e w3 ⟨rfl, rfl⟩
      have HC3 := HC2
      have HR3 := HR2
      have HB3 := HB2
      have HG3 : Hid (Good (ts)) := HG
      generalize nwV ts fn = X
      generalize nwE ts fn = E
      go_wp2_with (fail)
      refine (apart_clk gc bc (ts) (wd) _ HC3.out HG3.out.pos HG3.out.len).mono ?_
      rintro e w4 ⟨rfl, N4, rfl⟩
      go_wp2_with (fail)
      refine (rapart_any gr br (ts) (wd) _ (HR3.out.drewN N4) HG3.out).mono ?_
      rintro e w5 ⟨rfl, N5, rfl⟩
      go_wp2
      go_roundw
      case rel => exact ⟨gc, bc, gr, br, k + 1, (ts), (wd), by omega, by omega, rfl, rfl, by go_num, HC3.out.drewN (N4 + N5), HR3.out.drewN (N4 + N5), HG3, hbb, hgc, hbc, hgr, hbr, below_drewN HB3.out (N4 + N5)⟩
      case measure => simp [intOf]; omega
    · clear hx0 hx1 hx2 HX1
      go_wp2_with (fail)
      refine (fork_calls gc bc ts wd _ HC1.out HG.out.pos HG.out.len).mono ?_
      rintro e w2 ⟨g', b', rfl, hC, hg, hb, hBf⟩
      have HC2 := Lib.hid hC
      have HO2 := Lib.hid (HC1.out.kept (Kept.of_below hBf (fun _ => False)) (fun h => h) (fun h => h))
      have HR2 := Lib.hid (HR1.out.kept (Kept.of_below hBf (fun _ => False)) (fun h => h) (fun h => h))
      have HB2 := Lib.hid (below_below HB1.out hBf)
      have k1 : gc < g' := by have := HC1.out.lt; omega
      have k2 : bc < g' := by have := HC1.out.lt; omega
      have k3 : gc < b' := by have := HC1.out.lt; omega
      have k4 : bc < b' := by have := HC1.out.lt; omega
      clear hC hg hb hBf
      go_wp2_with (fail)
      refine (rfork_any gr br ts wd _ HR2.out HG.out).mono ?_
      rintro e w3 ⟨gr', br', rfl, hR, hg, hb, hBf⟩
      have HC3 := Lib.hid (HC2.out.kept (Kept.of_below hBf (fun _ => False)) (fun h => h) (fun h => h))
      have HO3 := Lib.hid (HO2.out.kept (Kept.of_below hBf (fun _ => False)) (fun h => h) (fun h => h))
      have HR3 := Lib.hid hR
      have HB3 := Lib.hid (below_below HB2.out hBf)
      have k5 : gc < gr' := by have := HO2.out.lt; omega
      have k6 : bc < gr' := by have := HO2.out.lt; omega
      have k7 : gc < br' := by have := HO2.out.lt; omega
      have k8 : bc < br' := by have := HO2.out.lt; omega
      have k9 : b' < br' := by have := HC2.out.lt; omega
      clear hR hg hb hBf
      go_wp2_with (fail)
      refine (draw_any gc bc ts wd 5 _ HO3.out).mono ?_
      rintro e w4 ⟨rfl, hC, hK⟩
      have HO4 := Lib.hid hC
      have HC4 := Lib.hid (HC3.out.kept hK (by omega) (by omega))
      have HR4 := Lib.hid (HR3.out.kept hK (by omega) (by omega))
      have HB4 := Lib.hid (below_kept HB3.out hK (fun j hj e => by subst e; omega))
      clear hC hK
      go_wp2_with (fail)
      refine (step_any gc bc ts _ 0 1 _ HO4.out HG.out).mono ?_
      rintro e w5 ⟨rfl, hC, hK⟩
      have HC5 := Lib.hid (HC4.out.kept hK (by omega) (by omega))
      have HR5 := Lib.hid (HR4.out.kept hK (by omega) (by omega))
      have HB5 := Lib.hid (below_kept HB4.out hK (fun j hj e => by subst e; omega))
      clear hC hK
      go_wp2_with (fail)
      refine (apart_clk g' b' ts wd _ HC5.out HG.out.pos HG.out.len).mono ?_
      rintro e w4 ⟨rfl, N4, rfl⟩
      go_wp2_with (fail)
      refine (rapart_any gr' br' ts wd _ (HR5.out.drewN N4) HG.out).mono ?_
      rintro e w5 ⟨rfl, N5, rfl⟩
      go_wp2
      go_roundw
      case rel => exact ⟨g', b', gr', br', k + 1, ts, wd, by omega, by omega, rfl, rfl, by go_num, HC5.out.drewN (N4 + N5), HR5.out.drewN (N4 + N5), HG, by omega, by omega, by omega, by omega, by omega, below_drewN HB5.out (N4 + N5)⟩
      case measure => simp [intOf]; omega
end Go.Proofs.Ytodplpjoonkniaa
