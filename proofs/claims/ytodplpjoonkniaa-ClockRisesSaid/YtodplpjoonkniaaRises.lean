import Derived.Test.YtodplpjoonkniaaPlays
import Derived.BigQuiet
namespace Go.Proofs.Ytodplpjoonkniaa
open Go Go.RowKit
set_option linter.unusedVariables false
set_option linter.unusedSimpArgs false

def mxI (a b : Int) : Int := if a < b then b else a
theorem max_rule (ats : Array TypeId) (ty : TypeId) (k k' : IntKind) (x y : Int) : Builtin.max_ ats ty #[.int k x, .int k' y] = pure (.int k (mxI x y)) := by
  simp only [Builtin.max_, List.foldlM_cons, List.foldlM_nil, Builtin.max2, mxI]
  rfl
theorem maxL_zero {ts : List Int} (h : 0 < ts.length) (hp : ∀ x ∈ ts, 0 ≤ x) : maxL 0 ts = hiL ts := by
  cases ts with
  | nil => simp at h
  | cons x l =>
    have hx := hp x (by simp)
    simp only [maxL, hiL]
    by_cases h0 : 0 < x
    · rw [if_pos h0]
    · have : x = 0 := by omega
      subst this
      simp
theorem ints_zero (w : World) (n : Nat) : Ints (w.alloc (.cells (madeCells #[Value.int .i64 0] n) 3)) w.heap.size (List.replicate n 0) := by
  refine ⟨_, Blk.new w 3 (madeCells #[Value.int .i64 0] n), fun i x hx => ?_⟩
  obtain ⟨hi, hx⟩ := List.getElem?_eq_some_iff.1 hx
  simp only [List.length_replicate] at hi
  simp only [List.getElem_replicate] at hx
  subst hx
  exact zeros_get n i hi
theorem run_make3 (n : Nat) (h1 : 1 ≤ n) (h2 : n ≤ 16) (w : World) : (Instr.makeSlice 31 (.int .i64 (n : Int)) (.int .i64 (n : Int))).run Try.prog w = .ok (.slice (some ⟨w.heap.size, 0, none⟩) n n) (w.alloc (.cells (madeCells #[Value.int .i64 0] n) 3)) := by
  obtain ⟨i0, hi, hz0, hz1, hz2⟩ := info_parts info3
  have hr := run_make (P := Try.prog) w 31 3 i0 (.int .i64 0) Try.underlying31 hi hz0 .i64 .i64 n n (by omega) (by omega) (by rw [hz2]; omega) (by omega)
  simp only [Int.toNat_natCast, hz1, Nat.mul_one] at hr
  exact hr

attribute [local go_sem ↓] max_rule
set_option maxHeartbeats 8000000 in
set_option maxRecDepth 100000 in
theorem rises_walk (a0 : Int) (A1 : Option Addr) (len1 cap1 : Nat) (rows1 : List (List Value)) (w : World) (w0 : (Lit.int .i64 a0).wf = true)
    (w1 : Open.Rows w [.int .i64, .int .i64, .int .i64] A1 len1 cap1 rows1) (y1 : len1 * Try.prog.bytesOf 39 ≤ 140737488351232) :
    Calls Try.prog 4 #[.int .i64 a0, .slice A1 len1 cap1] w fun e w' => e = .returned (.bool true) ∧ Below w.heap.size w w' := by
  obtain ⟨f, hF⟩ := act3_of w1
  have hlen : len1 ≤ 9223372036854775807 := by have h1 := w1.2.1; have h2 := w1.2.2.1; unfold maxLen at h2; omega
  clear w1 y1 w0
  have HF := Lib.hid hF
  clear hF
  go_enter Try.func4, Try.ntmps4
  go_wp2_with (fail)
  refine (works_calls w).mono ?_
  rintro e wa ⟨rfl, hBa⟩
  have HBa := Lib.hid hBa
  clear hBa
  go_wp2_with (fail)
  obtain ⟨n, hn⟩ : ∃ n : Nat, wrap64 (1 + amg a0 16) = (n : Int) := ⟨(wrap64 (1 + amg a0 16)).toNat, by have := amg_bounds a0 16 (by omega) (by omega); unfold wrap64; omega⟩
  have hn1 : 1 ≤ n := by have := amg_bounds a0 16 (by omega) (by omega); unfold wrap64 at hn; omega
  have hn2 : n ≤ 16 := by have := amg_bounds a0 16 (by omega) (by omega); unfold wrap64 at hn; omega
  have HN := Lib.hid hn
  clear hn
  refine (among_calls a0 16 _ (by omega)).mono ?_
  rintro e wb ⟨rfl, rfl⟩
  go_wp2_with (fail)
  rw [HN.out]
  refine (new_ok n 1 wa hn1 hn2).mono ?_
  rintro e wb ⟨gc, bc, rfl, hC, hg, hb, hBb⟩
  have HC := Lib.hid hC
  have HB := Lib.hid (below_below HBa.out hBb)
  have hgc : w.heap.size ≤ gc := by have := HBa.out.size; omega
  have hbc : w.heap.size ≤ bc := by have := HBa.out.size; omega
  have HG := Lib.hid (good_new n hn1 hn2)
  clear hC hBb hg hb HBa
  have hmk := run_make3 n hn1 hn2
  go_wp2
  clear hmk
  have HC1 := Lib.hid (HC.out.kept (Kept.of_below ((Below.refl wb.heap.size wb).alloc (Nat.le_refl _) (.cells (madeCells #[Value.int .i64 0] n) 3)) (fun _ => False)) (fun h => h) (fun h => h))
  have HI1 := Lib.hid (ints_zero wb n)
  have HB1 := Lib.hid (below_below HB.out ((Below.refl wb.heap.size wb).alloc (Nat.le_refl _) (.cells (madeCells #[Value.int .i64 0] n) 3)))
  have n0 : w.heap.size ≤ wb.heap.size := HB.out.size
  have n1 : gc ≠ wb.heap.size := by have := HC.out.lt; omega
  have n2 : bc ≠ wb.heap.size := by have := HC.out.lt; omega
  clear HC HB
  generalize wb.alloc (.cells (madeCells #[Value.int .i64 0] n) 3) = wc at *
  generalize wb.heap.size = bw at *
  go_loopw [8] (fun i wr => ∃ (k : Nat) (ts : List Int), k ≤ len1 ∧ k ≤ 100 ∧ i = .int .i64 k ∧ ts.length = n ∧ Hid (Clk wr gc bc ts 1) ∧ Hid (Ints wr bw ts) ∧ Hid (Good ts) ∧ Hid (Below w.heap.size w wr)) (fun i _ => 100 - (intOf i).toNat)
  case atStart => exact ⟨0, _, by omega, by omega, rfl, by simp, HC1.out, HI1.out, HG.out, HB1.out⟩
  clear HC1 HI1 HB1 HG
  case round =>
    obtain ⟨k, ts, hk1, hk2, rfl, hts, HC, HI, HG, HB⟩ := hrel
    by_cases hstop : k < len1 ∧ k < 100
    rotate_left
    · by_cases hq : k < len1
      · have q1 : 100 ≤ k := by omega
        clear hstop
        go_wp2
        go_ret
        exact ⟨rfl, HB.out⟩
      · have q1 : len1 ≤ k := by omega
        clear hstop
        go_wp2
        go_ret
        exact ⟨rfl, HB.out⟩
    obtain ⟨q1, q2⟩ := hstop
    obtain ⟨ad, hA, hcell⟩ := (HF.out.below HB.out) (by omega)
    obtain rfl := hA
    have hc0 := (hcell k q1).1
    have hc1 := (hcell k q1).2.1
    have hc2 := (hcell k q1).2.2
    clear hcell
    obtain ⟨⟨fk, fn, fx⟩, hfk⟩ : ∃ p, f k = p := ⟨_, rfl⟩
    rw [hfk] at hc0 hc1 hc2
    dsimp only at hc0 hc1 hc2
    have HC1 := Lib.hid (HC.out.kept (Kept.of_below ((Below.refl wr.heap.size wr).alloc (Nat.le_refl _) (.cells #[.int .i64 fk, .int .i64 fn, .int .i64 fx] 39)) (fun _ => False)) (fun h => h) (fun h => h))
    have HI1 := Lib.hid (HI.out.alloc (.cells #[.int .i64 fk, .int .i64 fn, .int .i64 fx] 39))
    have HX1 := Lib.hid (Blk.new wr 39 #[.int .i64 fk, .int .i64 fn, .int .i64 fx])
    have HB1 := Lib.hid (below_below HB.out ((Below.refl wr.heap.size wr).alloc (Nat.le_refl _) (.cells #[.int .i64 fk, .int .i64 fn, .int .i64 fx] 39)))
    have l1 : gc < wr.heap.size := HC.out.lt.1
    have l2 : bc < wr.heap.size := HC.out.lt.2
    have l3 : bw < wr.heap.size := HI.out.lt
    have m1 : gc ≠ bc := HC.out.ne
    have hw0 : w.heap.size ≤ wr.heap.size := HB.out.size
    go_wp2_with (fail)
    have hx0 := HX1.out.cell 0
    have hx1 := HX1.out.cell 1
    have hx2 := HX1.out.cell 2
    simp only [List.getElem?_toArray, List.getElem?_cons_zero, List.getElem?_cons_succ] at hx0 hx1 hx2
    generalize wr.alloc (.cells #[.int .i64 fk, .int .i64 fn, .int .i64 fx] 39) = W at *
    clear hc0 hc1 hc2 hfk HC HI HB
    refine (among_calls fn n _ (by omega)).mono ?_
    rintro e w' ⟨rfl, rfl⟩
    obtain ⟨nd, hnd⟩ : ∃ nd : Nat, amg fn n = (nd : Int) := ⟨(amg fn n).toNat, by have := amg_bounds fn n (by omega) (by omega); omega⟩
    have hnd1 : nd < n := by have := amg_bounds fn n (by omega) (by omega); omega
    rw [hnd]
    clear hnd
    go_wp2_with (fail)
    refine (among_calls fk 2 _ (by omega)).mono ?_
    rintro e w' ⟨rfl, rfl⟩
    obtain ⟨K, hK⟩ : ∃ K, amg fk 2 = K := ⟨_, rfl⟩
    have hKb := amg_bounds fk 2 (by omega) (by omega)
    rw [hK] at hKb
    rw [hK]
    clear hK
    obtain rfl | rfl : K = 0 ∨ K = 1 := by omega
    · -- one
      have hin : isIn ts (nd : Int) := by unfold isIn; omega
      have hx := tm_get hin
      rw [Int.toNat_natCast] at hx
      have hxm := List.mem_of_getElem? hx
      have hx00 := HG.out.lo _ hxm
      have hx01 := HG.out.hi _ hxm
      obtain ⟨x, hxe⟩ : ∃ x, tm ts (nd : Int) = x := ⟨_, rfl⟩
      have HST := Lib.hid (step_any gc bc ts 1 nd fx W HC1.out HG.out)
      simp only [stV, stE, stT, if_pos hin, Int.toNat_natCast, hxe] at HST
      rw [hxe] at hx hx00 hx01
      have HXE := Lib.hid hxe
      have HXS := Lib.hid hx
      have HHIN := Lib.hid hin
      have hts' := Lib.hid hts
      clear hxe hin hxm hx hx0 hx1
      by_cases h0 : fx < 0
      · simp only [if_pos h0] at HST
        have p0 : decide (0 ≤ fx) = false := by simp; omega
        go_wp2_with (fail)
        clear hx2
        refine HST.out.mono ?_
        rintro e w2 ⟨rfl, hC, hK⟩
        have HC2 := Lib.hid hC
        have HI2 := Lib.hid (HI1.out.kept hK (by omega))
        have HX2 := Lib.hid (HX1.out.kept hK (by omega))
        have HB2 := Lib.hid (below_kept HB1.out hK (fun j hj e => by subst e; omega))
        clear hC hK HST
        have hx2 := HX2.out.cell 2
        simp only [List.getElem?_toArray, List.getElem?_cons_zero, List.getElem?_cons_succ] at hx2
        have hcw := HI2.out.cell HXS.out
        go_wp2_with (fail)

        go_quiet (fail)
        have HC2 := Lib.hid (HC2.out.drewN nq)
        have HI2 := Lib.hid (HI2.out.drewN nq)
        have HX2 := Lib.hid (HX2.out.drewN nq)
        have HB2 := Lib.hid (below_drewN HB2.out nq)
        clear hx2
        clear hcw
        generalize w2.drewN nq = w3 at *

        go_wp2

        go_wp2
        go_loop [147] (fun j => ∃ m : Nat, m ≤ n ∧ j = .int .i64 m) (fun j => n - (intOf j).toNat)
        case atStart => exact ⟨0, by omega, rfl⟩
        case round =>
          obtain ⟨m, hm, rfl⟩ := hrel
          by_cases hlt : m < n
          · have hml : m < (ts).length := by rw [hts'.out]; exact hlt
            have hmx := List.getElem?_eq_getElem hml
            obtain ⟨y, hy⟩ : ∃ y, (ts)[m] = y := ⟨_, rfl⟩
            rw [hy] at hmx
            have hcm := HI2.out.cell hmx
            have hinm : isIn (ts) (m : Int) := by unfold isIn; omega
            have ev : nwV (ts) (m : Int) = y := by
              unfold nwV
              rw [if_pos hinm]
              unfold tm
              rw [Int.toNat_natCast, List.getD_eq_getElem?_getD, hmx]
              rfl
            have ee : nwE (ts) (m : Int) = 0 := by
              unfold nwE
              rw [if_pos hinm]
            have EV := Lib.hid ev
            have EE := Lib.hid ee
            clear ev ee hmx hy hml hinm
            go_wp2_with (fail)
            refine (now_any gc bc (ts) 1 m _ HC2.out HG.out).mono ?_
            rintro e w' ⟨rfl, rfl⟩
            rw [EV.out, EE.out]
            go_wp2
            go_round
            case rel => exact ⟨m + 1, by omega, by go_num⟩
            case measure => simp [intOf]; omega
          · have q3 : n ≤ m := by omega
            go_wp2
            go_roundw
            case rel => exact ⟨k + 1, ts, by omega, by omega, by go_num, hts'.out, HC2.out, HI2.out, HG.out, HB2.out⟩
            case measure => simp [intOf]; omega
      by_cases h1 : fx > 1073741824 - x
      · simp only [if_neg h0, if_pos h1] at HST
        have p0 : decide (0 ≤ fx) = true := by simp; omega
        have p1 : decide (fx ≤ 1073741824 - x) = false := by simp; omega
        have p2 : 0 ≤ fx := by omega
        clear h0
        go_wp2_with (fail)
        clear hx2
        refine HST.out.mono ?_
        rintro e w2 ⟨rfl, hC, hK⟩
        have HC2 := Lib.hid hC
        have HI2 := Lib.hid (HI1.out.kept hK (by omega))
        have HX2 := Lib.hid (HX1.out.kept hK (by omega))
        have HB2 := Lib.hid (below_kept HB1.out hK (fun j hj e => by subst e; omega))
        clear hC hK HST
        have hx2 := HX2.out.cell 2
        simp only [List.getElem?_toArray, List.getElem?_cons_zero, List.getElem?_cons_succ] at hx2
        have hcw := HI2.out.cell HXS.out
        go_wp2_with (fail)

        go_quiet (fail)
        have HC2 := Lib.hid (HC2.out.drewN nq)
        have HI2 := Lib.hid (HI2.out.drewN nq)
        have HX2 := Lib.hid (HX2.out.drewN nq)
        have HB2 := Lib.hid (below_drewN HB2.out nq)
        clear hx2
        clear hcw
        generalize w2.drewN nq = w3 at *

        go_wp2

        go_wp2
        go_loop [147] (fun j => ∃ m : Nat, m ≤ n ∧ j = .int .i64 m) (fun j => n - (intOf j).toNat)
        case atStart => exact ⟨0, by omega, rfl⟩
        case round =>
          obtain ⟨m, hm, rfl⟩ := hrel
          by_cases hlt : m < n
          · have hml : m < (ts).length := by rw [hts'.out]; exact hlt
            have hmx := List.getElem?_eq_getElem hml
            obtain ⟨y, hy⟩ : ∃ y, (ts)[m] = y := ⟨_, rfl⟩
            rw [hy] at hmx
            have hcm := HI2.out.cell hmx
            have hinm : isIn (ts) (m : Int) := by unfold isIn; omega
            have ev : nwV (ts) (m : Int) = y := by
              unfold nwV
              rw [if_pos hinm]
              unfold tm
              rw [Int.toNat_natCast, List.getD_eq_getElem?_getD, hmx]
              rfl
            have ee : nwE (ts) (m : Int) = 0 := by
              unfold nwE
              rw [if_pos hinm]
            have EV := Lib.hid ev
            have EE := Lib.hid ee
            clear ev ee hmx hy hml hinm
            go_wp2_with (fail)
            refine (now_any gc bc (ts) 1 m _ HC2.out HG.out).mono ?_
            rintro e w' ⟨rfl, rfl⟩
            rw [EV.out, EE.out]
            go_wp2
            go_round
            case rel => exact ⟨m + 1, by omega, by go_num⟩
            case measure => simp [intOf]; omega
          · have q3 : n ≤ m := by omega
            go_wp2
            go_roundw
            case rel => exact ⟨k + 1, ts, by omega, by omega, by go_num, hts'.out, HC2.out, HI2.out, HG.out, HB2.out⟩
            case measure => simp [intOf]; omega
      · have HGS := Lib.hid (HG.out.st (nd : Int) fx)
        simp only [stT, if_pos HHIN.out, Int.toNat_natCast, HXE.out, if_neg h0, if_neg h1] at HGS

        simp only [if_neg h0, if_neg h1] at HST
        have p0 : decide (0 ≤ fx) = true := by simp; omega
        have p1 : decide (fx ≤ 1073741824 - x) = true := by simp; omega
        have p2 : 0 ≤ fx := by omega
        have p3 : fx ≤ 1073741824 - x := by omega
        clear h0 h1
        go_wp2_with (fail)
        clear hx2
        refine HST.out.mono ?_
        rintro e w2 ⟨rfl, hC, hK⟩
        have HC2 := Lib.hid hC
        have HI2 := Lib.hid (HI1.out.kept hK (by omega))
        have HX2 := Lib.hid (HX1.out.kept hK (by omega))
        have HB2 := Lib.hid (below_kept HB1.out hK (fun j hj e => by subst e; omega))
        clear hC hK HST
        have hx2 := HX2.out.cell 2
        simp only [List.getElem?_toArray, List.getElem?_cons_zero, List.getElem?_cons_succ] at hx2
        have hcw := HI2.out.cell HXS.out
        go_wp2_with (fail)

        go_quiet (fail)
        have HC2 := Lib.hid (HC2.out.drewN nq)
        have HI2 := Lib.hid (HI2.out.drewN nq)
        have HX2 := Lib.hid (HX2.out.drewN nq)
        have HB2 := Lib.hid (below_drewN HB2.out nq)
        clear hx2
        clear hcw
        generalize w2.drewN nq = w3 at *
        have hx2 := HX2.out.cell 2
        simp only [List.getElem?_toArray, List.getElem?_cons_zero, List.getElem?_cons_succ] at hx2

        have hcw := HI2.out.cell HXS.out
        have hfw := HI2.out.frozen nd
        have hc3 : (w3.setCell ⟨bw, nd, none⟩ (.int .i64 (x + fx))).cell? ⟨bw, nd, none⟩ = some (.int .i64 (x + fx)) := (HI2.out.set_ nd (by rw [hts'.out]; exact hnd1) (x + fx)).cell (by simp [hts'.out, hnd1])
        have HC3 := Lib.hid (HC2.out.kept ((Kept.refl w3 (fun j => j = bw)).setCell (p := ⟨bw, nd, none⟩) (.inl rfl) (.int .i64 (x + fx))) (by omega) (by omega))
        have HI3 := Lib.hid (HI2.out.set_ nd (by rw [hts'.out]; exact hnd1) (x + fx))
        have HB3 := Lib.hid (below_kept HB2.out ((Kept.refl w3 (fun j => j = bw)).setCell (p := ⟨bw, nd, none⟩) (.inl rfl) (.int .i64 (x + fx))) (fun j hj e => by subst e; omega))
        go_wp2
        go_region
        clear hfw hcw hx2
        have HC3 : Hid (Clk (w3.setCell ⟨bw, nd, none⟩ (.int .i64 (x + fx))).drew gc bc (ts.set nd (x + fx)) 1) := HC3
        have HI3 : Hid (Ints (w3.setCell ⟨bw, nd, none⟩ (.int .i64 (x + fx))).drew bw (ts.set nd (x + fx))) := HI3
        have HB3 := Lib.hid HB3.out.drew
        have htl : Hid ((ts.set nd (x + fx)).length = n) := by refine Lib.hid ?_; simp [hts'.out]
        go_wp2

        go_wp2
        go_loop [147] (fun j => ∃ m : Nat, m ≤ n ∧ j = .int .i64 m) (fun j => n - (intOf j).toNat)
        case atStart => exact ⟨0, by omega, rfl⟩
        case round =>
          obtain ⟨m, hm, rfl⟩ := hrel
          by_cases hlt : m < n
          · have hml : m < (ts.set nd (x + fx)).length := by rw [htl.out]; exact hlt
            have hmx := List.getElem?_eq_getElem hml
            obtain ⟨y, hy⟩ : ∃ y, (ts.set nd (x + fx))[m] = y := ⟨_, rfl⟩
            rw [hy] at hmx
            have hcm := HI3.out.cell hmx
            have hinm : isIn (ts.set nd (x + fx)) (m : Int) := by unfold isIn; omega
            have ev : nwV (ts.set nd (x + fx)) (m : Int) = y := by
              unfold nwV
              rw [if_pos hinm]
              unfold tm
              rw [Int.toNat_natCast, List.getD_eq_getElem?_getD, hmx]
              rfl
            have ee : nwE (ts.set nd (x + fx)) (m : Int) = 0 := by
              unfold nwE
              rw [if_pos hinm]
            have EV := Lib.hid ev
            have EE := Lib.hid ee
            clear ev ee hmx hy hml hinm
            go_wp2_with (fail)
            refine (now_any gc bc (ts.set nd (x + fx)) 1 m _ HC3.out HGS.out).mono ?_
            rintro e w' ⟨rfl, rfl⟩
            rw [EV.out, EE.out]
            go_wp2
            go_round
            case rel => exact ⟨m + 1, by omega, by go_num⟩
            case measure => simp [intOf]; omega
          · have q3 : n ≤ m := by omega
            go_wp2
            go_roundw
            case rel => exact ⟨k + 1, ts.set nd (x + fx), by omega, by omega, by go_num, htl.out, HC3.out, HI3.out, HGS.out, HB3.out⟩
            case measure => simp [intOf]; omega
    · -- all
      have hsp := hiL_spec HG.out.pos
      have HS := Lib.hid hsp
      have hh0 := HG.out.hiL.1
      have hh1 := HG.out.hiL.2
      have HZ := Lib.hid (maxL_zero HG.out.pos HG.out.lo)
      have HAL := Lib.hid (all_any gc bc ts 1 fx W HC1.out HG.out)
      have HGA := Lib.hid (HG.out.al fx)
      simp only [alE, alT] at HAL HGA
      have hts' := Lib.hid hts
      clear hsp
      obtain ⟨mx, hmx⟩ : ∃ mx, hiL ts = mx := ⟨_, rfl⟩
      rw [hmx] at HAL HGA hh0 hh1 HZ HS
      clear hmx hx0 hx1
      by_cases h0 : fx < 0
      · simp only [if_pos h0] at HAL
        have p0 : decide (0 ≤ fx) = false := by simp; omega
        go_wp2_with (fail)
        clear hx2
        refine HAL.out.mono ?_
        rintro e w2 ⟨rfl, hC, hK⟩
        have HC2 := Lib.hid hC
        have HI2 := Lib.hid (HI1.out.kept hK (by omega))
        have HX2 := Lib.hid (HX1.out.kept hK (by omega))
        have HB2 := Lib.hid (below_kept HB1.out hK (fun j hj e => by subst e; omega))
        clear hC hK HAL
        go_wp2
        go_loop [108, 14] (fun j v => ∃ m : Nat, m ≤ n ∧ j = .int .i64 m ∧ v = .int .i64 (maxL 0 (ts.take m))) (fun j _ => n - (intOf j).toNat)
        case atStart => exact ⟨0, by omega, rfl, rfl⟩
        case round =>
          obtain ⟨m, hm, rfl, rfl⟩ := hrel
          by_cases hlt : m < n
          · have hml : m < ts.length := by rw [hts'.out]; exact hlt
            have hmx := List.getElem?_eq_getElem hml
            have HM := Lib.hid (hiL_snoc 0 ts m hml)
            obtain ⟨y, hy⟩ : ∃ y, ts[m] = y := ⟨_, rfl⟩
            rw [hy] at hmx HM
            have hcm := HI2.out.cell hmx
            clear hy hmx hml
            go_wp2
            go_round
            case rel => exact ⟨m + 1, by omega, by go_num, by rw [HM.out]; rfl⟩
            case measure => simp [intOf]; omega
          · have q3 : n ≤ m := by omega
            have e1 : ts.take m = ts := List.take_of_length_le (by rw [hts'.out]; exact q3)
            rw [e1, HZ.out]
            clear e1
            have hx2 := HX2.out.cell 2
            simp only [List.getElem?_toArray, List.getElem?_cons_zero, List.getElem?_cons_succ] at hx2
            go_wp2
            clear hx2
            go_loop [131] (fun j => ∃ m : Nat, m ≤ n ∧ j = .int .i64 m) (fun j => n - (intOf j).toNat)
            case atStart => exact ⟨0, by omega, rfl⟩
            case round =>
              obtain ⟨m, hm, rfl⟩ := hrel
              by_cases hlt : m < n
              · go_wp2
                go_round
                case rel => exact ⟨m + 1, by omega, by go_num⟩
                case measure => simp [intOf]; omega
              · have q3 : n ≤ m := by omega
                go_wp2
                go_loop [147] (fun j => ∃ m : Nat, m ≤ n ∧ j = .int .i64 m) (fun j => n - (intOf j).toNat)
                case atStart => exact ⟨0, by omega, rfl⟩
                case round =>
                  obtain ⟨m, hm, rfl⟩ := hrel
                  by_cases hlt : m < n
                  · have hml : m < (ts).length := by rw [hts'.out]; exact hlt
                    have hmx := List.getElem?_eq_getElem hml
                    obtain ⟨y, hy⟩ : ∃ y, (ts)[m] = y := ⟨_, rfl⟩
                    rw [hy] at hmx
                    have hcm := HI2.out.cell hmx
                    have hinm : isIn (ts) (m : Int) := by unfold isIn; omega
                    have ev : nwV (ts) (m : Int) = y := by
                      unfold nwV
                      rw [if_pos hinm]
                      unfold tm
                      rw [Int.toNat_natCast, List.getD_eq_getElem?_getD, hmx]
                      rfl
                    have ee : nwE (ts) (m : Int) = 0 := by
                      unfold nwE
                      rw [if_pos hinm]
                    have EV := Lib.hid ev
                    have EE := Lib.hid ee
                    clear ev ee hmx hy hml hinm
                    go_wp2_with (fail)
                    refine (now_any gc bc (ts) 1 m _ HC2.out HG.out).mono ?_
                    rintro e w' ⟨rfl, rfl⟩
                    rw [EV.out, EE.out]
                    go_wp2
                    go_round
                    case rel => exact ⟨m + 1, by omega, by go_num⟩
                    case measure => simp [intOf]; omega
                  · have q3 : n ≤ m := by omega
                    go_wp2
                    go_roundw
                    case rel => exact ⟨k + 1, ts, by omega, by omega, by go_num, hts'.out, HC2.out, HI2.out, HG.out, HB2.out⟩
                    case measure => simp [intOf]; omega
      by_cases h1 : fx > 1073741824 - mx
      · simp only [if_neg h0, if_pos h1] at HAL
        have p0 : decide (0 ≤ fx) = true := by simp; omega
        have p1 : decide (fx ≤ 1073741824 - mx) = false := by simp; omega
        have p2 : 0 ≤ fx := by omega
        clear h0
        go_wp2_with (fail)
        clear hx2
        refine HAL.out.mono ?_
        rintro e w2 ⟨rfl, hC, hK⟩
        have HC2 := Lib.hid hC
        have HI2 := Lib.hid (HI1.out.kept hK (by omega))
        have HX2 := Lib.hid (HX1.out.kept hK (by omega))
        have HB2 := Lib.hid (below_kept HB1.out hK (fun j hj e => by subst e; omega))
        clear hC hK HAL
        go_wp2
        go_loop [108, 14] (fun j v => ∃ m : Nat, m ≤ n ∧ j = .int .i64 m ∧ v = .int .i64 (maxL 0 (ts.take m))) (fun j _ => n - (intOf j).toNat)
        case atStart => exact ⟨0, by omega, rfl, rfl⟩
        case round =>
          obtain ⟨m, hm, rfl, rfl⟩ := hrel
          by_cases hlt : m < n
          · have hml : m < ts.length := by rw [hts'.out]; exact hlt
            have hmx := List.getElem?_eq_getElem hml
            have HM := Lib.hid (hiL_snoc 0 ts m hml)
            obtain ⟨y, hy⟩ : ∃ y, ts[m] = y := ⟨_, rfl⟩
            rw [hy] at hmx HM
            have hcm := HI2.out.cell hmx
            clear hy hmx hml
            go_wp2
            go_round
            case rel => exact ⟨m + 1, by omega, by go_num, by rw [HM.out]; rfl⟩
            case measure => simp [intOf]; omega
          · have q3 : n ≤ m := by omega
            have e1 : ts.take m = ts := List.take_of_length_le (by rw [hts'.out]; exact q3)
            rw [e1, HZ.out]
            clear e1
            have hx2 := HX2.out.cell 2
            simp only [List.getElem?_toArray, List.getElem?_cons_zero, List.getElem?_cons_succ] at hx2
            go_wp2
            clear hx2
            go_loop [131] (fun j => ∃ m : Nat, m ≤ n ∧ j = .int .i64 m) (fun j => n - (intOf j).toNat)
            case atStart => exact ⟨0, by omega, rfl⟩
            case round =>
              obtain ⟨m, hm, rfl⟩ := hrel
              by_cases hlt : m < n
              · go_wp2
                go_round
                case rel => exact ⟨m + 1, by omega, by go_num⟩
                case measure => simp [intOf]; omega
              · have q3 : n ≤ m := by omega
                go_wp2
                go_loop [147] (fun j => ∃ m : Nat, m ≤ n ∧ j = .int .i64 m) (fun j => n - (intOf j).toNat)
                case atStart => exact ⟨0, by omega, rfl⟩
                case round =>
                  obtain ⟨m, hm, rfl⟩ := hrel
                  by_cases hlt : m < n
                  · have hml : m < (ts).length := by rw [hts'.out]; exact hlt
                    have hmx := List.getElem?_eq_getElem hml
                    obtain ⟨y, hy⟩ : ∃ y, (ts)[m] = y := ⟨_, rfl⟩
                    rw [hy] at hmx
                    have hcm := HI2.out.cell hmx
                    have hinm : isIn (ts) (m : Int) := by unfold isIn; omega
                    have ev : nwV (ts) (m : Int) = y := by
                      unfold nwV
                      rw [if_pos hinm]
                      unfold tm
                      rw [Int.toNat_natCast, List.getD_eq_getElem?_getD, hmx]
                      rfl
                    have ee : nwE (ts) (m : Int) = 0 := by
                      unfold nwE
                      rw [if_pos hinm]
                    have EV := Lib.hid ev
                    have EE := Lib.hid ee
                    clear ev ee hmx hy hml hinm
                    go_wp2_with (fail)
                    refine (now_any gc bc (ts) 1 m _ HC2.out HG.out).mono ?_
                    rintro e w' ⟨rfl, rfl⟩
                    rw [EV.out, EE.out]
                    go_wp2
                    go_round
                    case rel => exact ⟨m + 1, by omega, by go_num⟩
                    case measure => simp [intOf]; omega
                  · have q3 : n ≤ m := by omega
                    go_wp2
                    go_roundw
                    case rel => exact ⟨k + 1, ts, by omega, by omega, by go_num, hts'.out, HC2.out, HI2.out, HG.out, HB2.out⟩
                    case measure => simp [intOf]; omega
      · simp only [if_neg h0, if_neg h1] at HAL HGA
        have p0 : decide (0 ≤ fx) = true := by simp; omega
        have p1 : decide (fx ≤ 1073741824 - mx) = true := by simp; omega
        have p2 : 0 ≤ fx := by omega
        have p3 : fx ≤ 1073741824 - mx := by omega
        clear h0 h1
        go_wp2_with (fail)
        clear hx2
        refine HAL.out.mono ?_
        rintro e w2 ⟨rfl, hC, hK⟩
        have HC2 := Lib.hid hC
        have HI2 := Lib.hid (HI1.out.kept hK (by omega))
        have HX2 := Lib.hid (HX1.out.kept hK (by omega))
        have HB2 := Lib.hid (below_kept HB1.out hK (fun j hj e => by subst e; omega))
        clear hC hK HAL
        go_wp2
        go_loop [108, 14] (fun j v => ∃ m : Nat, m ≤ n ∧ j = .int .i64 m ∧ v = .int .i64 (maxL 0 (ts.take m))) (fun j _ => n - (intOf j).toNat)
        case atStart => exact ⟨0, by omega, rfl, rfl⟩
        case round =>
          obtain ⟨m, hm, rfl, rfl⟩ := hrel
          by_cases hlt : m < n
          · have hml : m < ts.length := by rw [hts'.out]; exact hlt
            have hmx := List.getElem?_eq_getElem hml
            have HM := Lib.hid (hiL_snoc 0 ts m hml)
            obtain ⟨y, hy⟩ : ∃ y, ts[m] = y := ⟨_, rfl⟩
            rw [hy] at hmx HM
            have hcm := HI2.out.cell hmx
            clear hy hmx hml
            go_wp2
            go_round
            case rel => exact ⟨m + 1, by omega, by go_num, by rw [HM.out]; rfl⟩
            case measure => simp [intOf]; omega
          · have q3 : n ≤ m := by omega
            have e1 : ts.take m = ts := List.take_of_length_le (by rw [hts'.out]; exact q3)
            rw [e1, HZ.out]
            clear e1
            have hx2 := HX2.out.cell 2
            simp only [List.getElem?_toArray, List.getElem?_cons_zero, List.getElem?_cons_succ] at hx2
            go_wp2
            clear hx2
            go_loopw [131] (fun j wx => ∃ m : Nat, m ≤ n ∧ j = .int .i64 m ∧ Hid (Clk wx gc bc (ts.map (· + fx)) 1) ∧ Hid (Ints wx bw (addK fx m ts)) ∧ Hid (Blk wx wr.heap.size 39 #[Value.int .i64 fk, Value.int .i64 fn, Value.int .i64 fx]) ∧ Hid (Below w.heap.size w wx)) (fun j _ => n - (intOf j).toNat)
            case atStart => exact ⟨0, by omega, rfl, HC2.out, by simpa [addK] using HI2, HX2.out, HB2.out⟩
            clear HC2 HI2 HX2 HB2
            case round =>
              obtain ⟨m, hm, rfl, HC2, HI2, HX2, HB2⟩ := hrel
              by_cases hlt : m < n
              · have hml : m < ts.length := by rw [hts'.out]; exact hlt
                have hmx := List.getElem?_eq_getElem hml
                obtain ⟨y, hy⟩ : ∃ y, ts[m] = y := ⟨_, rfl⟩
                rw [hy] at hmx
                have hym := List.mem_of_getElem? hmx
                have hy0 := HG.out.lo _ hym
                have hy1 := HS.out.2 _ hym
                have HMX := Lib.hid hmx
                have hcm := HI2.out.cell (addK_get fx m ts y hmx)
                have hfm := HI2.out.frozen m
                have hx2 := HX2.out.cell 2
                simp only [List.getElem?_toArray, List.getElem?_cons_zero, List.getElem?_cons_succ] at hx2
                clear hy hmx hml hym
                go_wp2
                go_region
                clear hcm hfm hx2
                go_wp2
                go_roundw
                case rel =>
                  have HKP : Kept wr (wr.setCell ⟨bw, m, none⟩ (.int .i64 (y + fx))).drew (fun j => j = bw) := ((Kept.refl wr (fun j => j = bw)).setCell (.inl rfl) _).drew
                  refine ⟨m + 1, by omega, by go_num, HC2.out.kept HKP (by omega) (by omega), ?_, HX2.out.kept HKP (by omega), below_kept HB2.out HKP (fun j hj e => by subst e; omega)⟩
                  rw [← addK_set fx m ts y HMX.out]
                  exact HI2.out.set_ m (by rw [addK_length, hts'.out]; exact hlt) (y + fx)
                case measure => simp [intOf]; omega
              · have q3 : n ≤ m := by omega
                have hme : m = ts.length := by rw [hts'.out]; omega
                have HI3 := Lib.hid (show Ints _ bw (ts.map (· + fx)) by rw [← addK_all, ← hme]; exact HI2.out)
                have htl : Hid ((ts.map (· + fx)).length = n) := by refine Lib.hid ?_; simp [hts'.out]
                clear hme
                go_wp2
                go_loop [147] (fun j => ∃ m : Nat, m ≤ n ∧ j = .int .i64 m) (fun j => n - (intOf j).toNat)
                case atStart => exact ⟨0, by omega, rfl⟩
                case round =>
                  obtain ⟨m, hm, rfl⟩ := hrel
                  by_cases hlt : m < n
                  · have hml : m < (ts.map (· + fx)).length := by rw [htl.out]; exact hlt
                    have hmx := List.getElem?_eq_getElem hml
                    obtain ⟨y, hy⟩ : ∃ y, (ts.map (· + fx))[m] = y := ⟨_, rfl⟩
                    rw [hy] at hmx
                    have hcm := HI3.out.cell hmx
                    have hinm : isIn (ts.map (· + fx)) (m : Int) := by unfold isIn; omega
                    have ev : nwV (ts.map (· + fx)) (m : Int) = y := by
                      unfold nwV
                      rw [if_pos hinm]
                      unfold tm
                      rw [Int.toNat_natCast, List.getD_eq_getElem?_getD, hmx]
                      rfl
                    have ee : nwE (ts.map (· + fx)) (m : Int) = 0 := by
                      unfold nwE
                      rw [if_pos hinm]
                    have EV := Lib.hid ev
                    have EE := Lib.hid ee
                    clear ev ee hmx hy hml hinm
                    go_wp2_with (fail)
                    refine (now_any gc bc (ts.map (· + fx)) 1 m _ HC2.out HGA.out).mono ?_
                    rintro e w' ⟨rfl, rfl⟩
                    rw [EV.out, EE.out]
                    go_wp2
                    go_round
                    case rel => exact ⟨m + 1, by omega, by go_num⟩
                    case measure => simp [intOf]; omega
                  · have q3 : n ≤ m := by omega
                    go_wp2
                    go_roundw
                    case rel => exact ⟨k + 1, ts.map (· + fx), by omega, by omega, by go_num, htl.out, HC2.out, HI3.out, HGA.out, HB2.out⟩
                    case measure => simp [intOf]; omega
end Go.Proofs.Ytodplpjoonkniaa
