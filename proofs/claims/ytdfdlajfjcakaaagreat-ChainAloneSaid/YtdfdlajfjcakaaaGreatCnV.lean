import Derived.Test.YtdfdlajfjcakaaaGreatCnS
import Derived.Test.YtdfdlajfjcakaaaGreatCnU
namespace Go.Proofs.YtdfdlajfjcakaaaGreat
open Go Go.RowKit
open Go.Proofs.YtdfdlajfjcakaaaGreatW.PrintLast
set_option linter.unusedVariables false
set_option linter.unusedSimpArgs false
set_option maxRecDepth 100000

/-! ChainAlone. -/
set_option maxHeartbeats 8000000 in
theorem alone_walk (A : Option Addr) (len cap : Nat) (w : World) (hS : Shape.SK.oks Tryz.prog w [.row 39 reqSK] [.slice A len cap]) :
    Calls Tryz.prog 3 #[.slice A len cap] w fun e w' => e = .returned (.bool true) ∧ Below w.heap.size w w' := by
  obtain ⟨xs, hxl, hX, hfit⟩ := open_reqs hS
  have HX := Lib.hid hX
  have HFIT := Lib.hid hfit
  have HXL := Lib.hid hxl
  clear hS hX hfit hxl
  have hnew := new_calls 3 (by decide) w
  go_enter Tryz.func3, Tryz.ntmps3
  go_wp2_with (fail)
  refine hnew.mono ?_
  rintro e w1 ⟨g, F0, rfl, hm1, hb1, hf1⟩
  have hwk := works_calls w1
  go_wp2_with (fail)
  refine hwk.mono ?_
  rintro e w2 ⟨rfl, hb2⟩
  have HM2 := Lib.hid (hm1.below hb2)
  have HB2 := Lib.hid (hb1.trans (hb2.mono hb1.size))
  have HF2 := Lib.hid hf1
  have hBA := (Below.refl w2.heap.size w2).alloc (Nat.le_refl _) (.cells #[.int .i64 3] 3)
  have HBA := Lib.hid hBA
  have hcf := config_calls (HM2.out.below hBA) (fresh_ok 3) 1 (.slice (some ⟨w2.heap.size, 0, none⟩) 1 1) [3] (Row.lit1 icell w2 3 1 3 #[.int .i64 3] rfl rfl) ⟨by decide, by decide, by decide⟩ (by decide)
  rw [sole_start] at hcf
  clear hnew hwk hm1 hb1 hf1 hb2 hBA
  go_wp2_with (fail)
  refine hcf.mono ?_
  rintro e w3 ⟨rfl, F3, hm3, hk3, hf3⟩
  have HM3 := Lib.hid hm3
  have HF3 := Lib.hid (show ∀ k, F3 k → w.heap.size ≤ k from fun k h => (hf3 k h).elim (HF2.out k) (fun h => Nat.le_trans HB2.out.size (Nat.le_trans HBA.out.size h)))
  have HB3 := Lib.hid (HB2.out.trans ((HBA.out.mono HB2.out.size).trans (hk3.below (Nat.le_trans HB2.out.size HBA.out.size) (fun k hk hf => by have := HF2.out k hf; omega))))
  clear hcf hm3 hk3 hf3 HM2 HF2 HB2 HBA
  go_wp2_with (fail)
  go_loopg [5, 6, 7, 8, 9, 10, 11, 12, 13, 14, 15] 60 (fun gg s5 s6 _ _ _ _ _ _ _ _ _ wr => ∃ (i k : Nat) (rows : List RowT) (F : Nat → Prop), i ≤ 60 ∧ k ≤ i ∧ 60 - i ≤ gg ∧ s5 = .int .i64 k ∧ s6 = .int .i64 i ∧ Hid (MemAt wr F g (soleM k rows)) ∧ Hid (RowsOk rows) ∧ Hid (∀ k, F k → w.heap.size ≤ k) ∧ Hid (Below w.heap.size w wr))
  case atStart => exact ⟨0, 0, [], F3, by omega, by omega, by omega, by go_num, by go_num, HM3, Lib.hid RowsOk.nil, HF3, HB3⟩
  case round =>
    obtain ⟨i, k, rows, F, hi, hki, hgg, rfl, rfl, HM, HR, HF, HB⟩ := hrel
    by_cases hlen : i < len
    · have ql1 : decide ((i : Int) < (len : Int)) = true := decide_eq_true (by omega)
      by_cases h60 : i < 60
      · have ql2 : decide ((i : Int) < 60) = true := decide_eq_true (by omega)
        have hi0 : (0 : Int) ≤ (i : Int) := by omega
        have hilz : (i : Int) < (len : Int) := by omega
        have hil : i < xs.length := by have := HXL.out; omega
        have hw5 : IntKind.i64.wrap ((i : Int) + 1) = ((i + 1 : Nat) : Int) := by rw [IntKind.wrap_i64]; omega
        have hw6 : IntKind.i64.wrap ((k : Int) + 1) = ((k + 1 : Nat) : Int) := by rw [IntKind.wrap_i64]; omega
        obtain ⟨ad, rfl, x0, x1, x2⟩ := reqW_at (HX.out.below HB.out) hil
        have hfx := (HFIT.out _ (List.getElem_mem hil)).below HB.out
        have hARG : ∀ W, Below w.heap.size w W → W.cell? (ad.add (i * 3)) = some (.int .i64 xs[i].client) ∧ W.cell? ⟨(ad.add (i * 3)).block, (ad.add (i * 3)).off + 1, none⟩ = some (.int .i64 xs[i].seq) ∧ W.cell? ⟨(ad.add (i * 3)).block, (ad.add (i * 3)).off + 2, none⟩ = some (.slice xs[i].A xs[i].ops.length xs[i].c) ∧ xs[i].fits W := fun W hb => by
          obtain ⟨ad', hA, y0, y1, y2⟩ := reqW_at (HX.out.below hb) hil
          injection hA with hA
          subst hA
          exact ⟨y0, y1, y2, (HFIT.out _ (List.getElem_mem hil)).below hb⟩
        have HARG := Lib.hid hARG
        generalize xs[i] = x at x0 x1 x2 hfx HARG
        have hok := Lib.hid (sole_ok (k := k) (by omega) HR.out)
        have hq := query_calls HM.out hok.out x.req (.slice x.A x.ops.length x.c) hfx.s (by have := hfx.l; show x.ops.length ≤ _; omega)
        unfold ReqT.v at hq
        rw [show x.req.client = x.client from rfl, show x.req.seq = x.seq from rfl] at hq
        obtain ⟨r, HRQ⟩ : ∃ r, Hid (x.req = r) := ⟨_, Lib.hid rfl⟩
        rw [HRQ.out] at hq
        clear hfx hlen hARG
        obtain ⟨qc, HQC⟩ : ∃ c, Hid ((soleM k rows).qcode r = c) := ⟨_, Lib.hid rfl⟩
        rw [HQC.out] at hq
        go_wp2_with (fail)
        refine hq.mono ?_
        rintro e w2 ⟨q, rfl, hqi, F2, hm2, hk2, hf2⟩
        have HQI := Lib.hid hqi
        have HM2 := Lib.hid hm2
        have HF2 := Lib.hid (show ∀ k, F2 k → w.heap.size ≤ k from fun k h => (hf2 k h).elim (HF.out k) (fun h => Nat.le_trans HB.out.size h))
        have HB2 := Lib.hid (HB.out.trans (hk2.below HB.out.size (fun k hk hf => by have := HF.out k hf; omega)))
        have HA2 := Lib.hid ((Below.refl w2.heap.size w2).alloc (Nat.le_refl _) (.cells #[.int .i64 q.client, .int .i64 q.seq, .slice q.A q.n q.c, .int .i64 q.at_, .int .i64 q.code] 34))
        have HQB := Lib.hid (Blk.new w2 34 #[.int .i64 q.client, .int .i64 q.seq, .slice q.A q.n q.c, .int .i64 q.at_, .int .i64 q.code])
        have hB2a := HB2.out.trans (HA2.out.mono HB2.out.size)
        obtain ⟨y0, y1, y2, hfit2⟩ := HARG.out _ hB2a
        have hsub := submit_calls (HM2.out.below HA2.out) hok.out x.req (.slice x.A x.ops.length x.c) hfit2.s
        unfold ReqT.v at hsub
        rw [show x.req.client = x.client from rfl, show x.req.seq = x.seq from rfl, HRQ.out] at hsub
        have HQI2 := Lib.hid (show qc = 0 → RepIs (w2.alloc (.cells #[.int .i64 q.client, .int .i64 q.seq, .slice q.A q.n q.c, .int .i64 q.at_, .int .i64 q.code] 34)) q (repOf rows r) from fun e => (HQI.out e).kept (Kept.of_below HA2.out fun _ => False) Frz.none)
        have HB2a := Lib.hid hB2a
        have hnq : ¬ F2 w2.heap.size := fun hf => Nat.lt_irrefl _ (HM2.out.flt _ hf)
        have HNQ := Lib.hid hnq
        have HFL2 := Lib.hid HM2.out.flt
        unfold RepW.v
        clear hq hqi hm2 hk2 hf2 x0 x1 x2 hB2a hfit2 hnq
        go_wp2_with (fail)
        generalize hwa : (w2.alloc (.cells #[.int .i64 q.client, .int .i64 q.seq, .slice q.A q.n q.c, .int .i64 q.at_, .int .i64 q.code] 34)) = wa at *
        have HSZ := Lib.hid (show wa.heap.size = w2.heap.size + 1 from by rw [← hwa]; exact World.size_alloc ..)
        clear hwa
        refine hsub.mono ?_
        rintro e w3 ⟨rfl, hp3⟩
        clear hsub y0 y1 y2
        by_cases hmay : reqMay r = true
        · cases hlong : longM r with
          | true =>
            rw [sole_long hmay hlong] at hp3 ⊢
            obtain ⟨F3, hm3, hk3, hf3⟩ := hp3
            have HF3 := Lib.hid (show ∀ k, F3 k → w.heap.size ≤ k from fun k h => (hf3 k h).elim (HF2.out k) (fun h => Nat.le_trans HB2a.out.size h))
            have HB3 := Lib.hid (HB2a.out.trans (hk3.below HB2a.out.size (fun k hk hf => by have := HF2.out k hf; omega)))
            have hrp := replies_calls hm3
            clear hm3 hk3 hf3 HQB HQI2 HQI HM2 HM
            go_wp2_with (fail)
            refine hrp.mono ?_
            rintro e w4 ⟨rv, F4, rt, rfl, hr4, hi4, hm4, hk4, hf4, ho4⟩
            have hrt : rt.length = 0 := hi4.1
            obtain rfl : rt = [] := List.eq_nil_of_length_eq_zero hrt
            obtain ⟨rA, rc, rfl⟩ := hr4.shape
            have HM4 := Lib.hid (show MemAt w4 F4 g (soleM k rows) from hm4)
            have HF4 := Lib.hid (show ∀ k, F4 k → w.heap.size ≤ k from fun k h => HF3.out k (hf4 k h))
            have HB4 := Lib.hid (HB3.out.trans (hk4.below HB3.out.size (fun k hk hf => by have := HF3.out k hf; omega)))
            clear hrp hr4 hi4 hm4 hk4 hf4 ho4 hrt
            go_wp2
            go_roundg (60 - (i + 1))
            case measure => omega
            case rel => exact ⟨i + 1, k, rows, F4, by omega, by omega, Nat.le_refl _, rfl, by go_num, HM4, HR, HF4, HB4⟩
          | false =>
            rw [sole_good (by omega) hmay hlong] at hp3 ⊢
            obtain ⟨F3, hm3, hk3, hf3⟩ := hp3
            have hrows : RowsOk (doT rows r.ops).2 := doT_ok HR.out (fun y hy => op_may ((req_may hmay).2.2.2.2.2.2 y hy))
            have HRW := Lib.hid hrows
            have HF3 := Lib.hid (show ∀ k, F3 k → w.heap.size ≤ k from fun k h => (hf3 k h).elim (HF2.out k) (fun h => Nat.le_trans HB2a.out.size h))
            have HB3 := Lib.hid (HB2a.out.trans (hk3.below HB2a.out.size (fun k hk hf => by have := HF2.out k hf; omega)))
            have hz2 : Frz wa F2 := (HM2.out.below HA2.out).frz
            have HQI3 := Lib.hid (show qc = 0 → RepIs w3 q (repOf rows r) from fun e => (HQI2.out e).kept hk3 hz2)
            have HQB3 := Lib.hid (show Blk w3 w2.heap.size _ _ from Blk.kept HQB.out hk3 HNQ.out)
            have hnq3 : ¬ F3 w2.heap.size := fun hf => (hf3 _ hf).elim HNQ.out (fun h => by have := HSZ.out; omega)
            have HNQ3 := Lib.hid hnq3
            have hrp := replies_calls hm3
            have HZ3 := Lib.hid hm3.frz
            clear hm3 hk3 hf3 hz2 hrows hnq3 HQB HQI2 HQI HM2 HM
            go_wp2_with (fail)
            refine hrp.mono ?_
            rintro e w4 ⟨rv, F4, rt, rfl, hr4, hi4, hm4, hk4, hf4, ho4⟩
            have hrt : rt.length = 1 := hi4.1
            obtain ⟨u, rfl⟩ : ∃ u, rt = [u] := by
              match rt, hrt with
              | [u], _ => exact ⟨u, rfl⟩
            obtain ⟨rb, rc, rfl, hrl, hrc⟩ := hr4.form (by simp)
            have HR4 := Lib.hid hr4
            have HI4 := Lib.hid (show RepIs w4 u (repOf rows r) from hi4.at 0 (by simp) (by simp [soleT]))
            have HM4 := Lib.hid (show MemAt w4 F4 g (soleM (k + 1) (doT rows r.ops).2) from hm4)
            have HF4 := Lib.hid (show ∀ k, F4 k → w.heap.size ≤ k from fun k h => HF3.out k (hf4 k h))
            have HB4 := Lib.hid (HB3.out.trans (hk4.below HB3.out.size (fun k hk hf => by have := HF3.out k hf; omega)))
            have hz3 : Frz w3 F3 := HZ3.out
            have HQI4 := Lib.hid (show qc = 0 → RepIs w4 q (repOf rows r) from fun e => (HQI3.out e).kept hk4 hz3)
            have HQB4 := Lib.hid (show Blk w4 w2.heap.size _ _ from Blk.kept HQB3.out hk4 HNQ3.out)
            have p0 := hr4.cell (fun _ => rfl) 0 0 (by simp) (by decide)
            have p1 := hr4.cell (fun _ => rfl) 0 1 (by simp) (by decide)
            have p2 := hr4.cell (fun _ => rfl) 0 2 (by simp) (by decide)
            have p3 := hr4.cell (fun _ => rfl) 0 3 (by simp) (by decide)
            have p4 := hr4.cell (fun _ => rfl) 0 4 (by simp) (by decide)
            replace p0 : w4.cell? ⟨rb, 0, none⟩ = some (.int .i64 u.client) := p0
            replace p1 : w4.cell? ⟨rb, 1, none⟩ = some (.int .i64 u.seq) := p1
            replace p2 : w4.cell? ⟨rb, 2, none⟩ = some (.slice u.A u.n u.c) := p2
            replace p3 : w4.cell? ⟨rb, 3, none⟩ = some (.int .i64 u.at_) := p3
            replace p4 : w4.cell? ⟨rb, 4, none⟩ = some (.int .i64 u.code) := p4
            have q0 := HQB4.out.cell 0
            have q1' := HQB4.out.cell 1
            have q2' := HQB4.out.cell 2
            have q3 := HQB4.out.cell 3
            have q4 := HQB4.out.cell 4
            clear hrp hr4 hi4 hm4 hk4 hf4 ho4 hz3 hrt HQB3 HQI3 HR4
            by_cases hqz : qc = 0
            · have qz : (qc == 0) = true := by simp [hqz]
              have HSR := Lib.hid (fun W (hb : Below w4.heap.size w4 W) => sameReply_true (HI4.out.kept (Kept.of_below hb fun _ => False) Frz.none) ((HQI4.out hqz).kept (Kept.of_below hb fun _ => False) Frz.none))
              unfold RepW.v at HSR
              clear hqz
              have q1 := q1'
              have q2 := q2'
              go_wp2_with (fail)
              refine start_ (n := 20) (S := fun w' => w'.cell? ⟨rb, 0, none⟩ = some (.int .i64 u.client) ∧ w'.cell? ⟨rb, 1, none⟩ = some (.int .i64 u.seq) ∧ w'.cell? ⟨rb, 2, none⟩ = some (.slice u.A u.n u.c) ∧ w'.cell? ⟨rb, 3, none⟩ = some (.int .i64 u.at_) ∧ w'.cell? ⟨rb, 4, none⟩ = some (.int .i64 u.code) ∧ w'.cell? ⟨w2.heap.size, 0, none⟩ = some (.int .i64 q.client) ∧ w'.cell? ⟨w2.heap.size, 1, none⟩ = some (.int .i64 q.seq) ∧ w'.cell? ⟨w2.heap.size, 2, none⟩ = some (.slice q.A q.n q.c) ∧ w'.cell? ⟨w2.heap.size, 3, none⟩ = some (.int .i64 q.at_) ∧ w'.cell? ⟨w2.heap.size, 4, none⟩ = some (.int .i64 q.code)) (ds := []) #[false, false, false, false, false, false, false, false, false, false, false, false, false, false, false, false, false, false, false, false] (by kernel_rfl) rfl rfl ⟨p0, p1, p2, p3, p4, q0, q1, q2, q3, q4⟩ (fun hHeld => ?_)
              refine pure_ (i := 0) (N := some 81) (v := ?_) (a' := ?_) #[true, false, false, false, false, false, false, false, false, false, false, false, false, false, false, false, false, false, false, false] rfl rfl (by kernel_rfl) (fun _ _ _ h => h) (Or.inl ⟨by rfl, ?_⟩) ?_ ?_
              rotate_left
              · intro w'
                go_simp
                with_reducible rfl
              rotate_left
              · simp only [Act.put, List.setIfInBounds_toArray, List.set_cons_zero, List.set_cons_succ, i64_w, i32_w]
                rfl
              refine pure_ (i := 1) (N := some 82) (v := ?_) (a' := ?_) #[true, true, false, false, false, false, false, false, false, false, false, false, false, false, false, false, false, false, false, false] rfl rfl (by kernel_rfl) (fun _ _ _ h => h) (Or.inl ⟨by rfl, ?_⟩) ?_ ?_
              rotate_left
              · intro w'
                go_simp
                with_reducible rfl
              rotate_left
              · simp only [Act.put, List.setIfInBounds_toArray, List.set_cons_zero, List.set_cons_succ, i64_w, i32_w]
                rfl
              refine pure_ (i := 2) (N := some 83) (v := ?_) (a' := ?_) #[true, true, true, false, false, false, false, false, false, false, false, false, false, false, false, false, false, false, false, false] rfl rfl (by kernel_rfl) (fun _ _ _ h => h) (Or.inl ⟨by rfl, ?_⟩) ?_ ?_
              rotate_left
              · intro w'
                go_simp
                with_reducible rfl
              rotate_left
              · simp only [Act.put, List.setIfInBounds_toArray, List.set_cons_zero, List.set_cons_succ, i64_w, i32_w]
                rfl
              refine pure_ (i := 3) (N := some 84) (v := ?_) (a' := ?_) #[true, true, true, true, false, false, false, false, false, false, false, false, false, false, false, false, false, false, false, false] rfl rfl (by kernel_rfl) (fun _ _ _ h => h) (Or.inl ⟨by rfl, ?_⟩) ?_ ?_
              rotate_left
              · intro w'
                go_simp
                with_reducible rfl
              rotate_left
              · simp only [Act.put, List.setIfInBounds_toArray, List.set_cons_zero, List.set_cons_succ, i64_w, i32_w]
                rfl
              refine pure_ (i := 4) (N := some 85) (v := ?_) (a' := ?_) #[true, true, true, true, true, false, false, false, false, false, false, false, false, false, false, false, false, false, false, false] rfl rfl (by kernel_rfl) (fun _ _ _ h => h) (Or.inl ⟨by rfl, ?_⟩) ?_ ?_
              rotate_left
              · intro w'
                go_simp
                with_reducible rfl
              rotate_left
              · simp only [Act.put, List.setIfInBounds_toArray, List.set_cons_zero, List.set_cons_succ, i64_w, i32_w]
                rfl
              refine pure_ (i := 5) (N := some 86) (v := ?_) (a' := ?_) #[true, true, true, true, true, true, false, false, false, false, false, false, false, false, false, false, false, false, false, false] rfl rfl (by kernel_rfl) (fun _ _ _ h => h) (Or.inl ⟨by rfl, ?_⟩) ?_ ?_
              rotate_left
              · intro w'
                go_simp
                with_reducible rfl
              rotate_left
              · simp only [Act.put, List.setIfInBounds_toArray, List.set_cons_zero, List.set_cons_succ, i64_w, i32_w]
                rfl
              refine pure_ (i := 6) (N := some 87) (v := ?_) (a' := ?_) #[true, true, true, true, true, true, true, false, false, false, false, false, false, false, false, false, false, false, false, false] rfl rfl (by kernel_rfl) (fun _ _ _ h => h) (Or.inl ⟨by rfl, ?_⟩) ?_ ?_
              rotate_left
              · intro w'
                go_simp
                with_reducible rfl
              rotate_left
              · simp only [Act.put, List.setIfInBounds_toArray, List.set_cons_zero, List.set_cons_succ, i64_w, i32_w]
                rfl
              refine pure_ (i := 7) (N := some 88) (v := ?_) (a' := ?_) #[true, true, true, true, true, true, true, true, false, false, false, false, false, false, false, false, false, false, false, false] rfl rfl (by kernel_rfl) (fun _ _ _ h => h) (Or.inl ⟨by rfl, ?_⟩) ?_ ?_
              rotate_left
              · intro w'
                go_simp
                with_reducible rfl
              rotate_left
              · simp only [Act.put, List.setIfInBounds_toArray, List.set_cons_zero, List.set_cons_succ, i64_w, i32_w]
                rfl
              refine pure_ (i := 8) (N := some 89) (v := ?_) (a' := ?_) #[true, true, true, true, true, true, true, true, true, false, false, false, false, false, false, false, false, false, false, false] rfl rfl (by kernel_rfl) (fun _ _ _ h => h) (Or.inl ⟨by rfl, ?_⟩) ?_ ?_
              rotate_left
              · intro w'
                go_simp
                with_reducible rfl
              rotate_left
              · simp only [Act.put, List.setIfInBounds_toArray, List.set_cons_zero, List.set_cons_succ, i64_w, i32_w]
                rfl
              refine pure_ (i := 9) (N := some 90) (v := ?_) (a' := ?_) #[true, true, true, true, true, true, true, true, true, true, false, false, false, false, false, false, false, false, false, false] rfl rfl (by kernel_rfl) (fun _ _ _ h => h) (Or.inl ⟨by rfl, ?_⟩) ?_ ?_
              rotate_left
              · intro w'
                go_simp
                with_reducible rfl
              rotate_left
              · simp only [Act.put, List.setIfInBounds_toArray, List.set_cons_zero, List.set_cons_succ, i64_w, i32_w]
                rfl
              refine pure_ (i := 10) (N := some 91) (v := ?_) (a' := ?_) #[true, true, true, true, true, true, true, true, true, true, true, false, false, false, false, false, false, false, false, false] rfl rfl (by kernel_rfl) (fun _ _ _ h => h) (Or.inl ⟨by rfl, ?_⟩) ?_ ?_
              rotate_left
              · intro w'
                go_simp
                with_reducible rfl
              rotate_left
              · simp only [Act.put, List.setIfInBounds_toArray, List.set_cons_zero, List.set_cons_succ, i64_w, i32_w]
                rfl
              refine pure_ (i := 11) (N := some 92) (v := ?_) (a' := ?_) #[true, true, true, true, true, true, true, true, true, true, true, true, false, false, false, false, false, false, false, false] rfl rfl (by kernel_rfl) (fun _ _ _ h => h) (Or.inl ⟨by rfl, ?_⟩) ?_ ?_
              rotate_left
              · intro w'
                go_simp
                with_reducible rfl
              rotate_left
              · simp only [Act.put, List.setIfInBounds_toArray, List.set_cons_zero, List.set_cons_succ, i64_w, i32_w]
                rfl
              refine pure_ (i := 12) (N := some 93) (v := ?_) (a' := ?_) #[true, true, true, true, true, true, true, true, true, true, true, true, true, false, false, false, false, false, false, false] rfl rfl (by kernel_rfl) (fun _ _ _ h => h) (Or.inl ⟨by rfl, ?_⟩) ?_ ?_
              rotate_left
              · intro w'
                go_simp
                with_reducible rfl
              rotate_left
              · simp only [Act.put, List.setIfInBounds_toArray, List.set_cons_zero, List.set_cons_succ, i64_w, i32_w]
                rfl
              refine pure_ (i := 13) (N := some 94) (v := ?_) (a' := ?_) #[true, true, true, true, true, true, true, true, true, true, true, true, true, true, false, false, false, false, false, false] rfl rfl (by kernel_rfl) (fun _ _ _ h => h) (Or.inl ⟨by rfl, ?_⟩) ?_ ?_
              rotate_left
              · intro w'
                go_simp
                with_reducible rfl
              rotate_left
              · simp only [Act.put, List.setIfInBounds_toArray, List.set_cons_zero, List.set_cons_succ, i64_w, i32_w]
                rfl
              refine take_ (i := 14) (N := some 95) (v := ?_) (a' := ?_) #[true, true, true, true, true, true, true, true, true, true, true, true, true, true, true, false, false, false, false, false] rfl rfl (by kernel_rfl) (fun _ _ _ h => h) (Or.inl ⟨by rfl, ?_⟩) hHeld ?_ ?_
              rotate_left
              · rintro w' ⟨s0, s1, s2, s3, s4, s5, s6, s7, s8, s9⟩
                go_simp
                with_reducible rfl
              rotate_left
              · simp only [Act.put, List.setIfInBounds_toArray, List.set_cons_zero, List.set_cons_succ, i64_w, i32_w]
                rfl
              refine take_ (i := 15) (N := some 96) (v := ?_) (a' := ?_) #[true, true, true, true, true, true, true, true, true, true, true, true, true, true, true, true, false, false, false, false] rfl rfl (by kernel_rfl) (fun _ _ _ h => h) (Or.inl ⟨by rfl, ?_⟩) hHeld ?_ ?_
              rotate_left
              · rintro w' ⟨s0, s1, s2, s3, s4, s5, s6, s7, s8, s9⟩
                go_simp
                with_reducible rfl
              rotate_left
              · simp only [Act.put, List.setIfInBounds_toArray, List.set_cons_zero, List.set_cons_succ, i64_w, i32_w]
                rfl
              refine one_ (i := 16) (N := some 97) #[true, true, true, true, true, true, true, true, true, true, true, true, true, true, true, true, true, false, false, false] rfl rfl (by kernel_rfl) (by decide) (fun K hK => ?_)
              refine goes_ Tryz.func12 (by kernel_rfl) rfl #[.agg #[(.int .i64 u.client), (.int .i64 u.seq), (.slice u.A u.n u.c), (.int .i64 u.at_), (.int .i64 u.code)], .agg #[(.int .i64 q.client), (.int .i64 q.seq), (.slice q.A q.n q.c), (.int .i64 q.at_), (.int .i64 q.code)]] (by rfl) rfl rfl (by simp only [List.map_toArray, List.map_cons, List.map_nil]; rfl) ?_
              with_reducible refine (HSR.out _ (Below.refl _ w4).drew).mono ?_
              rintro e w5 ⟨rfl, hb5⟩
              have B5 := Lib.hid (show Below w4.heap.size w4 w5 from (Below.refl _ w4).drew.trans hb5)
              clear hb5
              refine ⟨_, rfl, ?_⟩
              refine hK.out _ _ ⟨(B5.out.cell (p := ⟨rb, 0, none⟩) (World.block_lt_of_cell? _ _ p0)).trans p0, (B5.out.cell (p := ⟨rb, 1, none⟩) (World.block_lt_of_cell? _ _ p1)).trans p1, (B5.out.cell (p := ⟨rb, 2, none⟩) (World.block_lt_of_cell? _ _ p2)).trans p2, (B5.out.cell (p := ⟨rb, 3, none⟩) (World.block_lt_of_cell? _ _ p3)).trans p3, (B5.out.cell (p := ⟨rb, 4, none⟩) (World.block_lt_of_cell? _ _ p4)).trans p4, (B5.out.cell (p := ⟨w2.heap.size, 0, none⟩) (World.block_lt_of_cell? _ _ q0)).trans q0, (B5.out.cell (p := ⟨w2.heap.size, 1, none⟩) (World.block_lt_of_cell? _ _ q1)).trans q1, (B5.out.cell (p := ⟨w2.heap.size, 2, none⟩) (World.block_lt_of_cell? _ _ q2)).trans q2, (B5.out.cell (p := ⟨w2.heap.size, 3, none⟩) (World.block_lt_of_cell? _ _ q3)).trans q3, (B5.out.cell (p := ⟨w2.heap.size, 4, none⟩) (World.block_lt_of_cell? _ _ q4)).trans q4⟩ (fun hHeld => ?_)
              clear hK K
              refine norm_ (a' := ?_) ?_ ?_
              rotate_left
              · show Act.put _ (some 97) _ = _
                simp only [Act.put, List.setIfInBounds_toArray, List.set_cons_zero, List.set_cons_succ, i64_w, i32_w]
                rfl
              refine pure_ (i := 17) (N := some 98) (v := ?_) (a' := ?_) #[true, true, true, true, true, true, true, true, true, true, true, true, true, true, true, true, true, true, false, false] rfl rfl (by kernel_rfl) (fun _ _ _ h => h) (Or.inl ⟨by rfl, ?_⟩) ?_ ?_
              rotate_left
              · intro w'
                go_simp
                with_reducible rfl
              rotate_left
              · simp only [Act.put, List.setIfInBounds_toArray, List.set_cons_zero, List.set_cons_succ, i64_w, i32_w]
                rfl
              refine pure_ (i := 18) (N := some 99) (v := ?_) (a' := ?_) #[true, true, true, true, true, true, true, true, true, true, true, true, true, true, true, true, true, true, true, false] rfl rfl (by kernel_rfl) (fun _ _ _ h => h) (Or.inl ⟨by rfl, ?_⟩) ?_ ?_
              rotate_left
              · intro w'
                go_simp
                with_reducible rfl
              rotate_left
              · simp only [Act.put, List.setIfInBounds_toArray, List.set_cons_zero, List.set_cons_succ, i64_w, i32_w]
                rfl
              refine pure_ (i := 19) (N := some 100) (v := ?_) (a' := ?_) #[true, true, true, true, true, true, true, true, true, true, true, true, true, true, true, true, true, true, true, true] rfl rfl (by kernel_rfl) (fun _ _ _ h => h) (Or.inl ⟨by rfl, ?_⟩) ?_ ?_
              rotate_left
              · intro w'
                go_simp
                with_reducible rfl
              rotate_left
              · simp only [Act.put, List.setIfInBounds_toArray, List.set_cons_zero, List.set_cons_succ, i64_w, i32_w]
                rfl
              refine done_ (by kernel_rfl) ?_
              have B4 := Lib.hid (show Below w4.heap.size w4 w5 from B5.out)
              have hst := state_calls (HM4.out.below B4.out) (sole_ok (k := k + 1) (by omega) HRW.out)
              rw [sole_place, show (soleM (k + 1) (doT rows r.ops).2).done = ((k + 1 : Nat) : Int) from by simp [Mem.done, soleM]] at hst
              replace hst := hst.mono (fun e w' h => (show e = .returned (.tuple #[.int .i64 1, .int .i64 0, .int .i64 ((k + 1 : Nat) : Int), .int .i64 ((k + 1 : Nat) : Int)]) ∧ _ from h))
              go_wp2_with (fail)
              refine hst.mono ?_
              rintro e w6 ⟨rfl, hb6⟩
              have B6 := Lib.hid (B4.out.trans (hb6.mono B4.out.size))
              have hle := letters_calls (HM4.out.below B6.out)
              clear hst hb6
              go_wp2_with (fail)
              refine hle.mono ?_
              rintro e w7 ⟨v7, F7, rfl, hr7, hm7, hk7, hf7, ho7⟩
              obtain ⟨lA, lc, rfl⟩ := (show Row w7 64 2 LetT.cells v7 [] from hr7).shape
              have HM7 := Lib.hid (show MemAt w7 F7 g (soleM (k + 1) (doT rows r.ops).2) from hm7)
              have HF7 := Lib.hid (show ∀ k, F7 k → w.heap.size ≤ k from fun k h => HF4.out k (hf7 k h))
              have HB7 := Lib.hid ((HB4.out.trans (B6.out.mono HB4.out.size)).trans (hk7.below (Nat.le_trans HB4.out.size B6.out.size) (fun k hk hf => by have := HF4.out k hf; omega)))
              clear hle hr7 hm7 hk7 hf7 ho7 HB4 B6 B4 HF4 HM4
              go_wp2
              go_roundg (60 - (i + 1))
              case measure => omega
              case rel => exact ⟨i + 1, k + 1, (doT rows r.ops).2, F7, by omega, by omega, Nat.le_refl _, rfl, by go_num, HM7, HRW, HF7, HB7⟩
            · have qz : (qc == 0) = false := by simp [hqz]
              clear hqz
              have q1 := q1'
              have q2 := q2'
              go_wp2_with (fail)
              refine start_ (n := 20) (S := fun w' => w'.cell? ⟨rb, 0, none⟩ = some (.int .i64 u.client) ∧ w'.cell? ⟨rb, 1, none⟩ = some (.int .i64 u.seq) ∧ w'.cell? ⟨rb, 2, none⟩ = some (.slice u.A u.n u.c) ∧ w'.cell? ⟨rb, 3, none⟩ = some (.int .i64 u.at_) ∧ w'.cell? ⟨rb, 4, none⟩ = some (.int .i64 u.code) ∧ w'.cell? ⟨w2.heap.size, 0, none⟩ = some (.int .i64 q.client) ∧ w'.cell? ⟨w2.heap.size, 1, none⟩ = some (.int .i64 q.seq) ∧ w'.cell? ⟨w2.heap.size, 2, none⟩ = some (.slice q.A q.n q.c) ∧ w'.cell? ⟨w2.heap.size, 3, none⟩ = some (.int .i64 q.at_) ∧ w'.cell? ⟨w2.heap.size, 4, none⟩ = some (.int .i64 q.code)) (ds := []) #[false, false, false, false, false, false, false, false, false, false, false, false, false, false, false, false, false, false, false, false] (by kernel_rfl) rfl rfl ⟨p0, p1, p2, p3, p4, q0, q1, q2, q3, q4⟩ (fun hHeld => ?_)
              refine pure_ (i := 0) (N := some 81) (v := ?_) (a' := ?_) #[true, false, false, false, false, false, false, false, false, false, false, false, false, false, false, false, false, false, false, false] rfl rfl (by kernel_rfl) (fun _ _ _ h => h) (Or.inl ⟨by rfl, ?_⟩) ?_ ?_
              rotate_left
              · intro w'
                go_simp
                with_reducible rfl
              rotate_left
              · simp only [Act.put, List.setIfInBounds_toArray, List.set_cons_zero, List.set_cons_succ, i64_w, i32_w]
                rfl
              refine pure_ (i := 1) (N := some 82) (v := ?_) (a' := ?_) #[true, true, false, false, false, false, false, false, false, false, false, false, false, false, false, false, false, false, false, false] rfl rfl (by kernel_rfl) (fun _ _ _ h => h) (Or.inl ⟨by rfl, ?_⟩) ?_ ?_
              rotate_left
              · intro w'
                go_simp
                with_reducible rfl
              rotate_left
              · simp only [Act.put, List.setIfInBounds_toArray, List.set_cons_zero, List.set_cons_succ, i64_w, i32_w]
                rfl
              refine pure_ (i := 2) (N := some 83) (v := ?_) (a' := ?_) #[true, true, true, false, false, false, false, false, false, false, false, false, false, false, false, false, false, false, false, false] rfl rfl (by kernel_rfl) (fun _ _ _ h => h) (Or.inl ⟨by rfl, ?_⟩) ?_ ?_
              rotate_left
              · intro w'
                go_simp
                with_reducible rfl
              rotate_left
              · simp only [Act.put, List.setIfInBounds_toArray, List.set_cons_zero, List.set_cons_succ, i64_w, i32_w]
                rfl
              refine pure_ (i := 3) (N := some 84) (v := ?_) (a' := ?_) #[true, true, true, true, false, false, false, false, false, false, false, false, false, false, false, false, false, false, false, false] rfl rfl (by kernel_rfl) (fun _ _ _ h => h) (Or.inl ⟨by rfl, ?_⟩) ?_ ?_
              rotate_left
              · intro w'
                go_simp
                with_reducible rfl
              rotate_left
              · simp only [Act.put, List.setIfInBounds_toArray, List.set_cons_zero, List.set_cons_succ, i64_w, i32_w]
                rfl
              refine pure_ (i := 4) (N := some 85) (v := ?_) (a' := ?_) #[true, true, true, true, true, false, false, false, false, false, false, false, false, false, false, false, false, false, false, false] rfl rfl (by kernel_rfl) (fun _ _ _ h => h) (Or.inl ⟨by rfl, ?_⟩) ?_ ?_
              rotate_left
              · intro w'
                go_simp
                with_reducible rfl
              rotate_left
              · simp only [Act.put, List.setIfInBounds_toArray, List.set_cons_zero, List.set_cons_succ, i64_w, i32_w]
                rfl
              refine pure_ (i := 5) (N := some 86) (v := ?_) (a' := ?_) #[true, true, true, true, true, true, false, false, false, false, false, false, false, false, false, false, false, false, false, false] rfl rfl (by kernel_rfl) (fun _ _ _ h => h) (Or.inl ⟨by rfl, ?_⟩) ?_ ?_
              rotate_left
              · intro w'
                go_simp
                with_reducible rfl
              rotate_left
              · simp only [Act.put, List.setIfInBounds_toArray, List.set_cons_zero, List.set_cons_succ, i64_w, i32_w]
                rfl
              refine pure_ (i := 6) (N := some 87) (v := ?_) (a' := ?_) #[true, true, true, true, true, true, true, false, false, false, false, false, false, false, false, false, false, false, false, false] rfl rfl (by kernel_rfl) (fun _ _ _ h => h) (Or.inl ⟨by rfl, ?_⟩) ?_ ?_
              rotate_left
              · intro w'
                go_simp
                with_reducible rfl
              rotate_left
              · simp only [Act.put, List.setIfInBounds_toArray, List.set_cons_zero, List.set_cons_succ, i64_w, i32_w]
                rfl
              refine pure_ (i := 7) (N := some 88) (v := ?_) (a' := ?_) #[true, true, true, true, true, true, true, true, false, false, false, false, false, false, false, false, false, false, false, false] rfl rfl (by kernel_rfl) (fun _ _ _ h => h) (Or.inl ⟨by rfl, ?_⟩) ?_ ?_
              rotate_left
              · intro w'
                go_simp
                with_reducible rfl
              rotate_left
              · simp only [Act.put, List.setIfInBounds_toArray, List.set_cons_zero, List.set_cons_succ, i64_w, i32_w]
                rfl
              refine pure_ (i := 8) (N := some 89) (v := ?_) (a' := ?_) #[true, true, true, true, true, true, true, true, true, false, false, false, false, false, false, false, false, false, false, false] rfl rfl (by kernel_rfl) (fun _ _ _ h => h) (Or.inl ⟨by rfl, ?_⟩) ?_ ?_
              rotate_left
              · intro w'
                go_simp
                with_reducible rfl
              rotate_left
              · simp only [Act.put, List.setIfInBounds_toArray, List.set_cons_zero, List.set_cons_succ, i64_w, i32_w]
                rfl
              refine pure_ (i := 9) (N := some 90) (v := ?_) (a' := ?_) #[true, true, true, true, true, true, true, true, true, true, false, false, false, false, false, false, false, false, false, false] rfl rfl (by kernel_rfl) (fun _ _ _ h => h) (Or.inl ⟨by rfl, ?_⟩) ?_ ?_
              rotate_left
              · intro w'
                go_simp
                with_reducible rfl
              rotate_left
              · simp only [Act.put, List.setIfInBounds_toArray, List.set_cons_zero, List.set_cons_succ, i64_w, i32_w]
                rfl
              refine pure_ (i := 10) (N := some 91) (v := ?_) (a' := ?_) #[true, true, true, true, true, true, true, true, true, true, true, false, false, false, false, false, false, false, false, false] rfl rfl (by kernel_rfl) (fun _ _ _ h => h) (Or.inl ⟨by rfl, ?_⟩) ?_ ?_
              rotate_left
              · intro w'
                go_simp
                with_reducible rfl
              rotate_left
              · simp only [Act.put, List.setIfInBounds_toArray, List.set_cons_zero, List.set_cons_succ, i64_w, i32_w]
                rfl
              refine pure_ (i := 11) (N := some 92) (v := ?_) (a' := ?_) #[true, true, true, true, true, true, true, true, true, true, true, true, false, false, false, false, false, false, false, false] rfl rfl (by kernel_rfl) (fun _ _ _ h => h) (Or.inl ⟨by rfl, ?_⟩) ?_ ?_
              rotate_left
              · intro w'
                go_simp
                with_reducible rfl
              rotate_left
              · simp only [Act.put, List.setIfInBounds_toArray, List.set_cons_zero, List.set_cons_succ, i64_w, i32_w]
                rfl
              refine pure_ (i := 12) (N := some 93) (v := undef) (a' := ?_) #[true, true, true, true, true, true, true, true, true, true, true, true, true, false, false, false, false, false, false, false] rfl rfl (by kernel_rfl) (fun _ _ _ h => h) (Or.inr ⟨by rfl, rfl⟩) ?_ ?_
              rotate_left
              · simp only [Act.put, List.setIfInBounds_toArray, List.set_cons_zero, List.set_cons_succ, i64_w, i32_w]
                rfl
              refine pure_ (i := 13) (N := some 94) (v := undef) (a' := ?_) #[true, true, true, true, true, true, true, true, true, true, true, true, true, true, false, false, false, false, false, false] rfl rfl (by kernel_rfl) (fun _ _ _ h => h) (Or.inr ⟨by rfl, rfl⟩) ?_ ?_
              rotate_left
              · simp only [Act.put, List.setIfInBounds_toArray, List.set_cons_zero, List.set_cons_succ, i64_w, i32_w]
                rfl
              refine pure_ (i := 14) (N := some 95) (v := undef) (a' := ?_) #[true, true, true, true, true, true, true, true, true, true, true, true, true, true, true, false, false, false, false, false] rfl rfl (by kernel_rfl) (fun _ _ _ h => h) (Or.inr ⟨by rfl, rfl⟩) ?_ ?_
              rotate_left
              · simp only [Act.put, List.setIfInBounds_toArray, List.set_cons_zero, List.set_cons_succ, i64_w, i32_w]
                rfl
              refine pure_ (i := 15) (N := some 96) (v := undef) (a' := ?_) #[true, true, true, true, true, true, true, true, true, true, true, true, true, true, true, true, false, false, false, false] rfl rfl (by kernel_rfl) (fun _ _ _ h => h) (Or.inr ⟨by rfl, rfl⟩) ?_ ?_
              rotate_left
              · simp only [Act.put, List.setIfInBounds_toArray, List.set_cons_zero, List.set_cons_succ, i64_w, i32_w]
                rfl
              refine pure_ (i := 16) (N := some 97) (v := undef) (a' := ?_) #[true, true, true, true, true, true, true, true, true, true, true, true, true, true, true, true, true, false, false, false] rfl rfl (by kernel_rfl) (fun _ _ _ h => h) (Or.inr ⟨by rfl, rfl⟩) ?_ ?_
              rotate_left
              · simp only [Act.put, List.setIfInBounds_toArray, List.set_cons_zero, List.set_cons_succ, i64_w, i32_w]
                rfl
              refine pure_ (i := 17) (N := some 98) (v := undef) (a' := ?_) #[true, true, true, true, true, true, true, true, true, true, true, true, true, true, true, true, true, true, false, false] rfl rfl (by kernel_rfl) (fun _ _ _ h => h) (Or.inr ⟨by rfl, rfl⟩) ?_ ?_
              rotate_left
              · simp only [Act.put, List.setIfInBounds_toArray, List.set_cons_zero, List.set_cons_succ, i64_w, i32_w]
                rfl
              refine pure_ (i := 18) (N := some 99) (v := ?_) (a' := ?_) #[true, true, true, true, true, true, true, true, true, true, true, true, true, true, true, true, true, true, true, false] rfl rfl (by kernel_rfl) (fun _ _ _ h => h) (Or.inl ⟨by rfl, ?_⟩) ?_ ?_
              rotate_left
              · intro w'
                go_simp
                with_reducible rfl
              rotate_left
              · simp only [Act.put, List.setIfInBounds_toArray, List.set_cons_zero, List.set_cons_succ, i64_w, i32_w]
                rfl
              refine pure_ (i := 19) (N := some 100) (v := ?_) (a' := ?_) #[true, true, true, true, true, true, true, true, true, true, true, true, true, true, true, true, true, true, true, true] rfl rfl (by kernel_rfl) (fun _ _ _ h => h) (Or.inl ⟨by rfl, ?_⟩) ?_ ?_
              rotate_left
              · intro w'
                go_simp
                with_reducible rfl
              rotate_left
              · simp only [Act.put, List.setIfInBounds_toArray, List.set_cons_zero, List.set_cons_succ, i64_w, i32_w]
                rfl
              refine done_ (by kernel_rfl) ?_
              have B4 := Lib.hid ((Below.refl w4.heap.size w4).drew)
              have hst := state_calls (HM4.out.below B4.out) (sole_ok (k := k + 1) (by omega) HRW.out)
              rw [sole_place, show (soleM (k + 1) (doT rows r.ops).2).done = ((k + 1 : Nat) : Int) from by simp [Mem.done, soleM]] at hst
              replace hst := hst.mono (fun e w' h => (show e = .returned (.tuple #[.int .i64 1, .int .i64 0, .int .i64 ((k + 1 : Nat) : Int), .int .i64 ((k + 1 : Nat) : Int)]) ∧ _ from h))
              go_wp2_with (fail)
              refine hst.mono ?_
              rintro e w6 ⟨rfl, hb6⟩
              have B6 := Lib.hid (B4.out.trans (hb6.mono B4.out.size))
              have hle := letters_calls (HM4.out.below B6.out)
              clear hst hb6
              go_wp2_with (fail)
              refine hle.mono ?_
              rintro e w7 ⟨v7, F7, rfl, hr7, hm7, hk7, hf7, ho7⟩
              obtain ⟨lA, lc, rfl⟩ := (show Row w7 64 2 LetT.cells v7 [] from hr7).shape
              have HM7 := Lib.hid (show MemAt w7 F7 g (soleM (k + 1) (doT rows r.ops).2) from hm7)
              have HF7 := Lib.hid (show ∀ k, F7 k → w.heap.size ≤ k from fun k h => HF4.out k (hf7 k h))
              have HB7 := Lib.hid ((HB4.out.trans (B6.out.mono HB4.out.size)).trans (hk7.below (Nat.le_trans HB4.out.size B6.out.size) (fun k hk hf => by have := HF4.out k hf; omega)))
              clear hle hr7 hm7 hk7 hf7 ho7 HB4 B6 B4 HF4 HM4
              go_wp2
              go_roundg (60 - (i + 1))
              case measure => omega
              case rel => exact ⟨i + 1, k + 1, (doT rows r.ops).2, F7, by omega, by omega, Nat.le_refl _, rfl, by go_num, HM7, HRW, HF7, HB7⟩
        · rw [sole_bad (by simpa using hmay)] at hp3 ⊢
          obtain ⟨F3, hm3, hk3, hf3⟩ := hp3
          have HF3 := Lib.hid (show ∀ k, F3 k → w.heap.size ≤ k from fun k h => (hf3 k h).elim (HF2.out k) (fun h => Nat.le_trans HB2a.out.size h))
          have HB3 := Lib.hid (HB2a.out.trans (hk3.below HB2a.out.size (fun k hk hf => by have := HF2.out k hf; omega)))
          have hrp := replies_calls hm3
          clear hm3 hk3 hf3 HQB HQI2 HQI HM2 HM
          go_wp2_with (fail)
          refine hrp.mono ?_
          rintro e w4 ⟨rv, F4, rt, rfl, hr4, hi4, hm4, hk4, hf4, ho4⟩
          have hrt : rt.length = 0 := hi4.1
          obtain rfl : rt = [] := List.eq_nil_of_length_eq_zero hrt
          obtain ⟨rA, rc, rfl⟩ := hr4.shape
          have HM4 := Lib.hid (show MemAt w4 F4 g (soleM k rows) from hm4)
          have HF4 := Lib.hid (show ∀ k, F4 k → w.heap.size ≤ k from fun k h => HF3.out k (hf4 k h))
          have HB4 := Lib.hid (HB3.out.trans (hk4.below HB3.out.size (fun k hk hf => by have := HF3.out k hf; omega)))
          clear hrp hr4 hi4 hm4 hk4 hf4 ho4 hrt
          go_wp2
          go_roundg (60 - (i + 1))
          case measure => omega
          case rel => exact ⟨i + 1, k, rows, F4, by omega, by omega, Nat.le_refl _, rfl, by go_num, HM4, HR, HF4, HB4⟩
      · have ql2 : decide ((i : Int) < 60) = false := decide_eq_false (by omega)
        go_wp2
        go_ret
        exact ⟨rfl, HB.out⟩
    · have ql1 : decide ((i : Int) < (len : Int)) = false := decide_eq_false (by omega)
      go_wp2
      go_ret
      exact ⟨rfl, HB.out⟩
end Go.Proofs.YtdfdlajfjcakaaaGreat
