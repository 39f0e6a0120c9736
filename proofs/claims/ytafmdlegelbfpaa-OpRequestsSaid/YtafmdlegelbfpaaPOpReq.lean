-- written by a program of ours (a template of wip/pure, filled for this seat)
import Derived.Test.YtafmdlegelbfpaaHCheck
import Derived.Test.YtafmdlegelbfpaaHCheckAll
import Derived.Test.YtafmdlegelbfpaaHDecode
import Derived.Test.YtafmdlegelbfpaaHEncode
import Derived.Test.YtafmdlegelbfpaaHLend
import Derived.Test.YtafmdlegelbfpaaHWriter
import Derived.Test.YtafmdlegelbfpaaPAllx0
import Derived.Test.YtafmdlegelbfpaaPAllx1010
import Derived.Test.YtafmdlegelbfpaaPAllx1013
import Derived.Test.YtafmdlegelbfpaaPAllx1014
import Derived.Test.YtafmdlegelbfpaaPAllx1015
import Derived.Test.YtafmdlegelbfpaaPAllx1018
import Derived.Test.YtafmdlegelbfpaaPAllx1021
import Derived.Test.YtafmdlegelbfpaaPAllx1022
import Derived.Test.YtafmdlegelbfpaaPAllx1023
import Derived.Test.YtafmdlegelbfpaaKB
import Derived.Test.YtafmdlegelbfpaaKA
/-! OpRequests: the walk. -/
namespace Go.Proofs.Ytafmdlegelbfpaa.Pure
set_option linter.unusedVariables false
set_option linter.unusedSimpArgs false
abbrev SqPOpReq.t_ : Bool := true
abbrev SqPOpReq.f_ : Bool := false
open SqPOpReq
-- abbrev Sq.t_
open Go Go.RowKit Go.Proofs.Ytafmdlegelbfpaa.PAll Go.Proofs.YtafmdlegelbfpaaW.PrintWords Go.Proofs.YtafmdlegelbfpaaW.PrintLast Go.Proofs.Ytafmdlegelbfpaa.Bytes Go.Proofs.Ytafmdlegelbfpaa.Fn Go.Proofs.Ytafmdlegelbfpaa.Shape

theorem cell_home {w : World} {p : Addr} {v : Value} (h : w.cell? p = some v) : p.block < w.heap.size := by
  refine Decidable.byContradiction fun hn => ?_
  have h0 : w.heap[p.block]? = none := Array.getElem?_eq_none (by omega)
  unfold World.cell? at h
  rw [h0] at h
  cases h
theorem lend_f (l : List S27) (hl : l.length + 1 < 2199023255552) : skylarkbook_LendOps.f l = some l := by
  unfold skylarkbook_LendOps.f
  simp only [Option.bind_some, List.nil_append, List.length_nil]
  rw [if_pos (by omega), if_pos (by omega), if_pos (by omega), if_pos (by rw [List.length_append]; simp only [List.length_cons, List.length_nil]; omega), Int.toNat_natCast, List.take_left]
theorem decode_few {k : Nat} {b : ByteArray} {r1 r2 : Int} {r3 : List S27} {r4 : Int} (h : op_Decode.f k b = some (r1, r2, r3, r4)) : r3.length ≤ 32 := by
  unfold op_Decode.f at h
  obtain ⟨d, _, h⟩ := Option.bind_eq_some_iff.1 h
  split at h
  · injection h with h; injection h with _ h; injection h with _ h; injection h with h _; rw [← h]; exact Nat.zero_le _
  · split at h
    · injection h with h; injection h with _ h; injection h with _ h; injection h with h _; rw [← h]; exact Nat.zero_le _
    · obtain ⟨r, _, h⟩ := Option.bind_eq_some_iff.1 h
      have h := dec_end h
      unfold reqOut at h
      split at h
      · rename_i hq
        injection h with _ h; injection h with _ h; injection h with h _
        rw [h]
        exact (reqOk_R hq.2).2.2.2.1
      · injection h with _ h; injection h with _ h; injection h with h _; rw [h]; exact Nat.zero_le _
theorem decode_form (b : ByteArray) : ∃ (l : List S110) (fa fc : Int), Fn.decode b = (l, fa, fc) ∧ (fc = 0 → fa = 0) ∧ Canon l ∧ l.length ≤ 4096 := by
  refine ⟨(Fn.decode b).1, (Fn.decode b).2.1, (Fn.decode b).2.2, rfl, decode_at, ?_⟩
  by_cases he : (Fn.decode b).2.2 = 0
  · obtain ⟨x, hx⟩ : ∃ x, Fn.decode b = (x, 0, 0) := ⟨(Fn.decode b).1, Prod.ext rfl (Prod.ext (decode_at he) he)⟩
    obtain ⟨_, _, hf, h, _⟩ := decode_back hx
    rw [hx]
    exact ⟨canon_fit hf, h⟩
  · rw [decode_err he]
    exact ⟨fun x hx => (by cases hx), Nat.zero_le _⟩
set_option maxHeartbeats 32000000 in
set_option maxRecDepth 100000 in
theorem reqs_walk (cs0 : Array Value) (a1 : ByteArray) (w : World) (s0 : SK.oks Try.prog w reqSK cs0.toList) (w1 : a1.size ≤ 140737488351232) :
    Calls Try.prog 5 #[.agg cs0, .string a1] w fun e w' => e = .returned (.bool true) ∧ Below w.heap.size w w' := by
  obtain ⟨a, b, A, c, l, hcs, _, _, hc, hC, hby, _⟩ := open_req s0
  obtain rfl : cs0 = #[.int .i64 a, .int .i64 b, .slice A l.length c] := Array.toList_inj.1 hcs
  have hb : Try.prog.bytesOf 27 = 64 := by kernel_rfl
  rw [hb] at hby
  have hl : l.length + 1 < 2199023255552 := by omega
  clear hb hby hcs s0
  have hu31 := Try.underlying31
  have hu27 := Try.underlying27
  obtain ⟨K1, h1⟩ := encodeReq_f a b l
  obtain ⟨K2, h2⟩ := rencReq_f a b l
  obtain ⟨⟨r1, r2, r3, r4⟩, ⟨K3, h3⟩, _⟩ := req_back a1
  obtain ⟨K4, h4⟩ := decode_f a1
  obtain ⟨K5, h5⟩ := rdecode_f a1
  obtain ⟨KR, h6⟩ := rcheckAll_f a b l
  obtain ⟨KW, h7⟩ := works_op
  obtain ⟨d, fa, fc, hd, hfz, hcn, hdl⟩ := decode_form a1
  dsimp only at h1 h2 h3 h4 h5 h6 h7
  have hfew := decode_few (h3 K3 (Nat.le_refl _))
  obtain ⟨KS, h8⟩ := sameReq_f r1 r2 r3 (by omega)
  dsimp only at h8
  rw [hd] at h4 h5
  obtain ⟨⟨s, e⟩, hse⟩ : ∃ p, encReq a b l = p := ⟨_, rfl⟩
  rw [hse] at h1 h2
  obtain ⟨ce, hce⟩ : ∃ p : Int, (if reqOk a b l = true then (0 : Int) else 80) = p := ⟨_, rfl⟩
  rw [hce] at h6
  have QC : Aside0 (op_CheckAll.f 0 a b l = some ce) := Aside0.mk (by rw [checkAll_f, hce])
  have QR := Aside0.mk (h6 KR (Nat.le_refl _))
  have QS := Aside0.mk (h8 KS (Nat.le_refl _))
  have QW := Aside0.mk (h7 KW (Nat.le_refl _))
  have Q1 := Aside0.mk (h1 K1 (Nat.le_refl _))
  have Q2 := Aside0.mk (h2 K2 (Nat.le_refl _))
  have Q3 := Aside0.mk (h3 K3 (Nat.le_refl _))
  have Q4 := Aside0.mk (fun W => ref_decode.calls (max K3 (max K4 K5)) a1 d fa fc r1 r2 r3 r4 W (h5 _ (by omega)) (h4 _ (by omega)) hfz hcn hdl (h3 _ (by omega)))
  have HC := Aside0.mk hC
  have HL := Aside0.mk (lend_f l hl)
  clear h1 h2 h3 h4 h5 h6 h7 h8 hce hse hd hfz hcn hdl hC
  have HA := Aside0.mk (((Below.refl w.heap.size w).alloc (Nat.le_refl _) (.cells #[.int .i64 a, .int .i64 b, .slice A l.length c] 31)).alloc (by simp) (.cells #[.int .i64 a, .int .i64 b, .slice A l.length c] 31))
  go_enter Try.func5, Try.ntmps5
  go_wp2_with (fail)
  refine (lend_calls A c l l _ (Kd.C_below HC.out HA.out) hc HL.out).mono ?_
  rintro e1 wa ⟨Ao, co, rfl, _, hR, hBa⟩
  have BR0 : Aside0 (wa.heap[w.heap.size]? = some (.cells #[.int .i64 a, .int .i64 b, .slice A l.length c] 31 (0, 0))) := Aside0.mk ((hBa.block _ (by simp; omega)).trans (blk_alloc (alloc_at rfl) _))
  have BO0 : Aside0 (wa.heap[w.heap.size + 1]? = some (.cells #[.int .i64 a, .int .i64 b, .slice A l.length c] 31 (0, 0))) := Aside0.mk ((hBa.block _ (by simp)).trans (alloc_at (by simp)))
  have HBa := Aside0.mk (Below.trans HA.out (hBa.mono HA.out.size))
  have f2 := PAll.blk_frozen BO0.out 2
  have x2 : wa.cell? ⟨w.heap.size + 1, 2, none⟩ = some (.slice A l.length c) := PAll.blk_cell BO0.out 2
  have hR2 := Kd.R_set hR BO0.out (by intro q hq; rw [op_E q hq]; decide) 2 (.slice Ao l.length co)
  have hco : l.length + 1 ≤ co := (Kd.R_reads' hR2).2.1
  have HOw : Aside0 (Kd.C k27 (wa.setCell ⟨w.heap.size + 1, 2, none⟩ (.slice Ao l.length co)) Ao (l.length + 1) (l ++ [mark])) := Aside0.mk (by have h := (Kd.R_reads' hR2); rw [h.1]; exact h.2.2)
  have HBw := Aside0.mk (HBa.out.setCell (p := ⟨w.heap.size + 1, 2, none⟩) (by simp) (.slice Ao l.length co))
  have BOw : Aside0 ((wa.setCell ⟨w.heap.size + 1, 2, none⟩ (.slice Ao l.length co)).heap[w.heap.size + 1]? = some (.cells #[.int .i64 a, .int .i64 b, .slice Ao l.length co] 31 (0, 0))) := Aside0.mk (blk_put BO0.out 2 (.slice Ao l.length co) (by simp))
  have BRw : Aside0 ((wa.setCell ⟨w.heap.size + 1, 2, none⟩ (.slice Ao l.length co)).heap[w.heap.size]? = some (.cells #[.int .i64 a, .int .i64 b, .slice A l.length c] 31 (0, 0))) := Aside0.mk ((Below.heap_setCell wa ⟨w.heap.size + 1, 2, none⟩ (.slice Ao l.length co) w.heap.size (by simp)).trans BR0.out)
  clear hR hR2 hBa HA BR0 HL HBa
  go_wp2_with (fail)
  clear f2 x2 BO0
  generalize wa.setCell ⟨w.heap.size + 1, 2, none⟩ (.slice Ao l.length co) = wb at *
  have x2 : wb.cell? ⟨w.heap.size, 2, none⟩ = some (.slice A l.length c) := PAll.blk_cell BRw.out 2
  go_loopw [6] (fun v wr => ∃ i : Nat, i ≤ l.length ∧ v = .int .i64 i ∧ Aside0 (Below wb.heap.size wb wr)) (fun v _ => l.length - (intOf v).toNat)
  case atStart => exact ⟨0, by omega, rfl, Aside0.mk (Below.refl _ _)⟩
  case round =>
    obtain ⟨i, hi, rfl, KB⟩ := hrel
    clear x2
    have HB := Aside0.mk (Below.trans HBw.out (KB.out.mono HBw.out.size))
    have s0 : wr.cell? ⟨w.heap.size, 2, none⟩ = some (.slice A l.length c) := PAll.blk_cell ((KB.out.block _ (blk_lt BRw.out)).trans BRw.out) 2
    have hbr : w.heap.size < wr.heap.size := Nat.lt_of_lt_of_le (blk_lt BRw.out) KB.out.size
    by_cases hlt : i < l.length
    · obtain ⟨ad, hA', c0, c1, c2, c3, c4, c5⟩ := at_T27 (Kd.C_below HC.out HB.out) (i : Int) (by omega) (by omega)
      subst hA'
      rw [rd_at l i hlt] at c0 c1 c2 c3 c4 c5
      simp only [Int.toNat_natCast] at c0 c1 c2 c3 c4 c5
      obtain ⟨x, hx⟩ : ∃ x, l[i] = x := ⟨_, rfl⟩
      rw [hx] at c0 c1 c2 c3 c4 c5
      clear hx
      obtain ⟨ck, hck⟩ : ∃ p : Int, (if opOk x = true then (0 : Int) else 80) = p := ⟨_, rfl⟩
      obtain ⟨wv, hwv⟩ : ∃ p : Bool, decide (1 ≤ x.f0 ∧ x.f0 ≤ 4) = p := ⟨_, rfl⟩
      have CK1 := Aside0.mk (fun W => op_Check.calls 0 x.f0 x.f1 x.f2 x.f3 x.f4 x.f5 ck W (by rw [check_f, hck]))
      have CK2 := Aside0.mk (fun W => skylarkref08_Check.calls 2 x.f0 x.f1 x.f2 x.f3 x.f4 x.f5 ck W (by rw [rcheck_f x 0, hck]))
      have CK3 := Aside0.mk (fun W => op_Writes.calls x.f0 x.f1 x.f2 x.f3 x.f4 x.f5 wv W (by unfold op_Writes.f; rw [op_Check.in_f, hwv]; rfl))
      have CK4 := Aside0.mk (fun W => skylarkref08_Writes.calls x.f0 x.f1 x.f2 x.f3 x.f4 x.f5 wv W (by unfold skylarkref08_Writes.f; rw [rin_f, hwv]; rfl))
      have q1 : (ck != ck) = false := by simp
      have q2 : (wv != wv) = false := by simp
      have hbl : (ad.add (i * 6)).block < wr.heap.size := cell_home c0
      clear hck hwv
      go_wp2_with (fail)
      have F0_0 : wr.drew.cell? ⟨w.heap.size, 2, none⟩ = some (.slice (some ad) l.length c) := s0
      have F0_1 : wr.drew.cell? (ad.add (i * 6)) = some (.int .i64 x.f0) := c0
      have F0_2 : wr.drew.cell? ⟨(ad.add (i * 6)).block, (ad.add (i * 6)).off + 1, none⟩ = some (.string x.f1) := c1
      have F0_3 : wr.drew.cell? ⟨(ad.add (i * 6)).block, (ad.add (i * 6)).off + 2, none⟩ = some (.string x.f2) := c2
      have F0_4 : wr.drew.cell? ⟨(ad.add (i * 6)).block, (ad.add (i * 6)).off + 3, none⟩ = some (.int .i64 x.f3) := c3
      have F0_5 : wr.drew.cell? ⟨(ad.add (i * 6)).block, (ad.add (i * 6)).off + 4, none⟩ = some (.int .i64 x.f4) := c4
      have F0_6 : wr.drew.cell? ⟨(ad.add (i * 6)).block, (ad.add (i * 6)).off + 5, none⟩ = some (.int .i64 x.f5) := c5
      have L0 : w.heap.size < wr.drew.heap.size ∧ (ad.add (i * 6)).block < wr.drew.heap.size := ⟨hbr, hbl⟩
      have HB0 := Aside0.mk (below_drew1 HB.out)
      have KB0 := Aside0.mk (below_drew1 KB.out)
      clear s0 c0 c1 c2 c3 c4 c5 hbr hbl HB KB
      refine start_ (n := 28) (S := fun w' => w'.cell? ⟨w.heap.size, 2, none⟩ = some (.slice (some ad) l.length c) ∧ w'.cell? (ad.add (i * 6)) = some (.int .i64 x.f0) ∧ w'.cell? ⟨(ad.add (i * 6)).block, (ad.add (i * 6)).off + 1, none⟩ = some (.string x.f1) ∧ w'.cell? ⟨(ad.add (i * 6)).block, (ad.add (i * 6)).off + 2, none⟩ = some (.string x.f2) ∧ w'.cell? ⟨(ad.add (i * 6)).block, (ad.add (i * 6)).off + 3, none⟩ = some (.int .i64 x.f3) ∧ w'.cell? ⟨(ad.add (i * 6)).block, (ad.add (i * 6)).off + 4, none⟩ = some (.int .i64 x.f4) ∧ w'.cell? ⟨(ad.add (i * 6)).block, (ad.add (i * 6)).off + 5, none⟩ = some (.int .i64 x.f5)) (ds := []) #[f_,f_,f_,f_,f_,f_,f_,f_,f_,f_,f_,f_,f_,f_,f_,f_,f_,f_,f_,f_,f_,f_,f_,f_,f_,f_,f_,f_] (by kernel_rfl) rfl rfl ⟨F0_0, F0_1, F0_2, F0_3, F0_4, F0_5, F0_6⟩ (fun hHeld => ?_)
      generalize wr.drew = wB at *
      refine pure_ (i := 0) (N := some 27) (v := ?_) (a' := ?_) #[t_,f_,f_,f_,f_,f_,f_,f_,f_,f_,f_,f_,f_,f_,f_,f_,f_,f_,f_,f_,f_,f_,f_,f_,f_,f_,f_,f_] rfl rfl (by kernel_rfl) (fun _ _ _ h => h) (Or.inl ⟨by rfl, ?_⟩) ?_ ?_
      rotate_left
      · intro w'
        go_simp
        with_reducible rfl
      rotate_left
      · simp only [Act.put, List.setIfInBounds_toArray, List.set_cons_zero, List.set_cons_succ, i64_w, i32_w]
        rfl
      refine pure_ (i := 2) (N := some 29) (v := ?_) (a' := ?_) #[t_,f_,t_,f_,f_,f_,f_,f_,f_,f_,f_,f_,f_,f_,f_,f_,f_,f_,f_,f_,f_,f_,f_,f_,f_,f_,f_,f_] rfl rfl (by kernel_rfl) (fun _ _ _ h => h) (Or.inl ⟨by rfl, ?_⟩) ?_ ?_
      rotate_left
      · intro w'
        go_simp
        with_reducible rfl
      rotate_left
      · simp only [Act.put, List.setIfInBounds_toArray, List.set_cons_zero, List.set_cons_succ, i64_w, i32_w]
        rfl
      refine pure_ (i := 6) (N := some 33) (v := ?_) (a' := ?_) #[t_,f_,t_,f_,f_,f_,t_,f_,f_,f_,f_,f_,f_,f_,f_,f_,f_,f_,f_,f_,f_,f_,f_,f_,f_,f_,f_,f_] rfl rfl (by kernel_rfl) (fun _ _ _ h => h) (Or.inl ⟨by rfl, ?_⟩) ?_ ?_
      rotate_left
      · intro w'
        go_simp
        with_reducible rfl
      rotate_left
      · simp only [Act.put, List.setIfInBounds_toArray, List.set_cons_zero, List.set_cons_succ, i64_w, i32_w]
        rfl
      refine pure_ (i := 8) (N := some 35) (v := ?_) (a' := ?_) #[t_,f_,t_,f_,f_,f_,t_,f_,t_,f_,f_,f_,f_,f_,f_,f_,f_,f_,f_,f_,f_,f_,f_,f_,f_,f_,f_,f_] rfl rfl (by kernel_rfl) (fun _ _ _ h => h) (Or.inl ⟨by rfl, ?_⟩) ?_ ?_
      rotate_left
      · intro w'
        go_simp
        with_reducible rfl
      rotate_left
      · simp only [Act.put, List.setIfInBounds_toArray, List.set_cons_zero, List.set_cons_succ, i64_w, i32_w]
        rfl
      refine take_ (i := 1) (N := some 28) (v := ?_) (a' := ?_) #[t_,t_,t_,f_,f_,f_,t_,f_,t_,f_,f_,f_,f_,f_,f_,f_,f_,f_,f_,f_,f_,f_,f_,f_,f_,f_,f_,f_] rfl rfl (by kernel_rfl) (fun _ _ _ h => h) (Or.inl ⟨by rfl, ?_⟩) hHeld ?_ ?_
      rotate_left
      · rintro w' ⟨s0, s1, s2, s3, s4, s5, s6⟩
        go_simp
        with_reducible rfl
      rotate_left
      · simp only [Act.put, List.setIfInBounds_toArray, List.set_cons_zero, List.set_cons_succ, i64_w, i32_w]
        rfl
      refine pure_ (i := 3) (N := some 30) (v := ?_) (a' := ?_) #[t_,t_,t_,t_,f_,f_,t_,f_,t_,f_,f_,f_,f_,f_,f_,f_,f_,f_,f_,f_,f_,f_,f_,f_,f_,f_,f_,f_] rfl rfl (by kernel_rfl) (fun _ _ _ h => h) (Or.inl ⟨by rfl, ?_⟩) ?_ ?_
      rotate_left
      · intro w'
        go_simp
        with_reducible rfl
      rotate_left
      · simp only [Act.put, List.setIfInBounds_toArray, List.set_cons_zero, List.set_cons_succ, i64_w, i32_w]
        rfl
      refine take_ (i := 4) (N := some 31) (v := ?_) (a' := ?_) #[t_,t_,t_,t_,t_,f_,t_,f_,t_,f_,f_,f_,f_,f_,f_,f_,f_,f_,f_,f_,f_,f_,f_,f_,f_,f_,f_,f_] rfl rfl (by kernel_rfl) (fun _ _ _ h => h) (Or.inl ⟨by rfl, ?_⟩) hHeld ?_ ?_
      rotate_left
      · rintro w' ⟨s0, s1, s2, s3, s4, s5, s6⟩
        go_simp
        with_reducible rfl
      rotate_left
      · simp only [Act.put, List.setIfInBounds_toArray, List.set_cons_zero, List.set_cons_succ, i64_w, i32_w]
        rfl
      refine take_ (i := 7) (N := some 34) (v := ?_) (a' := ?_) #[t_,t_,t_,t_,t_,f_,t_,t_,t_,f_,f_,f_,f_,f_,f_,f_,f_,f_,f_,f_,f_,f_,f_,f_,f_,f_,f_,f_] rfl rfl (by kernel_rfl) (fun _ _ _ h => h) (Or.inl ⟨by rfl, ?_⟩) hHeld ?_ ?_
      rotate_left
      · rintro w' ⟨s0, s1, s2, s3, s4, s5, s6⟩
        go_simp
        with_reducible rfl
      rotate_left
      · simp only [Act.put, List.setIfInBounds_toArray, List.set_cons_zero, List.set_cons_succ, i64_w, i32_w]
        rfl
      refine pure_ (i := 9) (N := some 36) (v := ?_) (a' := ?_) #[t_,t_,t_,t_,t_,f_,t_,t_,t_,t_,f_,f_,f_,f_,f_,f_,f_,f_,f_,f_,f_,f_,f_,f_,f_,f_,f_,f_] rfl rfl (by kernel_rfl) (fun _ _ _ h => h) (Or.inl ⟨by rfl, ?_⟩) ?_ ?_
      rotate_left
      · intro w'
        go_simp
        with_reducible rfl
      rotate_left
      · simp only [Act.put, List.setIfInBounds_toArray, List.set_cons_zero, List.set_cons_succ, i64_w, i32_w]
        rfl
      refine take_ (i := 10) (N := some 37) (v := ?_) (a' := ?_) #[t_,t_,t_,t_,t_,f_,t_,t_,t_,t_,t_,f_,f_,f_,f_,f_,f_,f_,f_,f_,f_,f_,f_,f_,f_,f_,f_,f_] rfl rfl (by kernel_rfl) (fun _ _ _ h => h) (Or.inl ⟨by rfl, ?_⟩) hHeld ?_ ?_
      rotate_left
      · rintro w' ⟨s0, s1, s2, s3, s4, s5, s6⟩
        go_simp
        with_reducible rfl
      rotate_left
      · simp only [Act.put, List.setIfInBounds_toArray, List.set_cons_zero, List.set_cons_succ, i64_w, i32_w]
        rfl
      refine one_ (i := 5) (N := some 32) #[t_,t_,t_,t_,t_,t_,t_,t_,t_,t_,t_,f_,f_,f_,f_,f_,f_,f_,f_,f_,f_,f_,f_,f_,f_,f_,f_,f_] rfl rfl (by kernel_rfl) (by decide) (fun K hK => ?_)
      refine goes_ Try.func11 (by kernel_rfl) rfl #[.agg #[.int .i64 x.f0, .string x.f1, .string x.f2, .int .i64 x.f3, .int .i64 x.f4, .int .i64 x.f5]] (by rfl) rfl rfl (by simp only [List.map_toArray, List.map_cons, List.map_nil]; rfl) ?_
      with_reducible refine (CK1.out _).mono ?_
      rintro e wq1 ⟨rfl, hB⟩
      refine ⟨_, rfl, ?_⟩
      have F1_0 := (hB.cell (p := ⟨w.heap.size, 2, none⟩) L0.1).trans F0_0
      have F1_1 := (hB.cell (p := ad.add (i * 6)) L0.2).trans F0_1
      have F1_2 := (hB.cell (p := ⟨(ad.add (i * 6)).block, (ad.add (i * 6)).off + 1, none⟩) L0.2).trans F0_2
      have F1_3 := (hB.cell (p := ⟨(ad.add (i * 6)).block, (ad.add (i * 6)).off + 2, none⟩) L0.2).trans F0_3
      have F1_4 := (hB.cell (p := ⟨(ad.add (i * 6)).block, (ad.add (i * 6)).off + 3, none⟩) L0.2).trans F0_4
      have F1_5 := (hB.cell (p := ⟨(ad.add (i * 6)).block, (ad.add (i * 6)).off + 4, none⟩) L0.2).trans F0_5
      have F1_6 := (hB.cell (p := ⟨(ad.add (i * 6)).block, (ad.add (i * 6)).off + 5, none⟩) L0.2).trans F0_6
      have L1 : w.heap.size < wq1.heap.size ∧ (ad.add (i * 6)).block < wq1.heap.size := ⟨Nat.lt_of_lt_of_le L0.1 hB.size, Nat.lt_of_lt_of_le L0.2 hB.size⟩
      have HB1 := Aside0.mk (Below.trans HB0.out (hB.mono HB0.out.size))
      have KB1 := Aside0.mk (Below.trans KB0.out (hB.mono KB0.out.size))
      clear hB HB0 KB0 F0_0 F0_1 F0_2 F0_3 F0_4 F0_5 F0_6 L0
      refine hK.out _ _ ⟨F1_0, F1_1, F1_2, F1_3, F1_4, F1_5, F1_6⟩ (fun hHeld => ?_)
      clear hK K
      refine norm_ (a' := ?_) ?_ ?_
      rotate_left
      · show Act.put _ (some 32) _ = _
        simp only [Act.put, List.setIfInBounds_toArray, List.set_cons_zero, List.set_cons_succ, i64_w, i32_w]
        rfl
      refine one_ (i := 11) (N := some 38) #[t_,t_,t_,t_,t_,t_,t_,t_,t_,t_,t_,t_,f_,f_,f_,f_,f_,f_,f_,f_,f_,f_,f_,f_,f_,f_,f_,f_] rfl rfl (by kernel_rfl) (by decide) (fun K hK => ?_)
      refine goes_ Try.func15 (by kernel_rfl) rfl #[.agg #[.int .i64 x.f0, .string x.f1, .string x.f2, .int .i64 x.f3, .int .i64 x.f4, .int .i64 x.f5]] (by rfl) rfl rfl (by simp only [List.map_toArray, List.map_cons, List.map_nil]; rfl) ?_
      with_reducible refine (CK2.out _).mono ?_
      rintro e wq2 ⟨rfl, hB⟩
      refine ⟨_, rfl, ?_⟩
      have F2_0 := (hB.cell (p := ⟨w.heap.size, 2, none⟩) L1.1).trans F1_0
      have F2_1 := (hB.cell (p := ad.add (i * 6)) L1.2).trans F1_1
      have F2_2 := (hB.cell (p := ⟨(ad.add (i * 6)).block, (ad.add (i * 6)).off + 1, none⟩) L1.2).trans F1_2
      have F2_3 := (hB.cell (p := ⟨(ad.add (i * 6)).block, (ad.add (i * 6)).off + 2, none⟩) L1.2).trans F1_3
      have F2_4 := (hB.cell (p := ⟨(ad.add (i * 6)).block, (ad.add (i * 6)).off + 3, none⟩) L1.2).trans F1_4
      have F2_5 := (hB.cell (p := ⟨(ad.add (i * 6)).block, (ad.add (i * 6)).off + 4, none⟩) L1.2).trans F1_5
      have F2_6 := (hB.cell (p := ⟨(ad.add (i * 6)).block, (ad.add (i * 6)).off + 5, none⟩) L1.2).trans F1_6
      have L2 : w.heap.size < wq2.heap.size ∧ (ad.add (i * 6)).block < wq2.heap.size := ⟨Nat.lt_of_lt_of_le L1.1 hB.size, Nat.lt_of_lt_of_le L1.2 hB.size⟩
      have HB2 := Aside0.mk (Below.trans HB1.out (hB.mono HB1.out.size))
      have KB2 := Aside0.mk (Below.trans KB1.out (hB.mono KB1.out.size))
      clear hB HB1 KB1 F1_0 F1_1 F1_2 F1_3 F1_4 F1_5 F1_6 L1
      refine hK.out _ _ ⟨F2_0, F2_1, F2_2, F2_3, F2_4, F2_5, F2_6⟩ (fun hHeld => ?_)
      clear hK K
      refine norm_ (a' := ?_) ?_ ?_
      rotate_left
      · show Act.put _ (some 38) _ = _
        simp only [Act.put, List.setIfInBounds_toArray, List.set_cons_zero, List.set_cons_succ, i64_w, i32_w]
        rfl
      refine pure_ (i := 12) (N := some 39) (v := ?_) (a' := ?_) #[t_,t_,t_,t_,t_,t_,t_,t_,t_,t_,t_,t_,t_,f_,f_,f_,f_,f_,f_,f_,f_,f_,f_,f_,f_,f_,f_,f_] rfl rfl (by kernel_rfl) (fun _ _ _ h => h) (Or.inl ⟨by rfl, ?_⟩) ?_ ?_
      rotate_left
      · intro w'
        go_simp
        with_reducible rfl
      rotate_left
      · simp only [Act.put, List.setIfInBounds_toArray, List.set_cons_zero, List.set_cons_succ, i64_w, i32_w]
        rfl
      refine pure_ (i := 13) (N := some 40) (v := ?_) (a' := ?_) #[t_,t_,t_,t_,t_,t_,t_,t_,t_,t_,t_,t_,t_,t_,f_,f_,f_,f_,f_,f_,f_,f_,f_,f_,f_,f_,f_,f_] rfl rfl (by kernel_rfl) (fun _ _ _ h => h) (Or.inl ⟨by rfl, ?_⟩) ?_ ?_
      rotate_left
      · intro w'
        go_simp
        with_reducible rfl
      rotate_left
      · simp only [Act.put, List.setIfInBounds_toArray, List.set_cons_zero, List.set_cons_succ, i64_w, i32_w]
        rfl
      refine pure_ (i := 14) (N := some 41) (v := ?_) (a' := ?_) #[t_,t_,t_,t_,t_,t_,t_,t_,t_,t_,t_,t_,t_,t_,t_,f_,f_,f_,f_,f_,f_,f_,f_,f_,f_,f_,f_,f_] rfl rfl (by kernel_rfl) (fun _ _ _ h => h) (Or.inl ⟨by rfl, ?_⟩) ?_ ?_
      rotate_left
      · intro w'
        go_simp
        with_reducible rfl
      rotate_left
      · simp only [Act.put, List.setIfInBounds_toArray, List.set_cons_zero, List.set_cons_succ, i64_w, i32_w]
        rfl
      refine pure_ (i := 16) (N := some 43) (v := ?_) (a' := ?_) #[t_,t_,t_,t_,t_,t_,t_,t_,t_,t_,t_,t_,t_,t_,t_,f_,t_,f_,f_,f_,f_,f_,f_,f_,f_,f_,f_,f_] rfl rfl (by kernel_rfl) (fun _ _ _ h => h) (Or.inl ⟨by rfl, ?_⟩) ?_ ?_
      rotate_left
      · intro w'
        go_simp
        with_reducible rfl
      rotate_left
      · simp only [Act.put, List.setIfInBounds_toArray, List.set_cons_zero, List.set_cons_succ, i64_w, i32_w]
        rfl
      refine pure_ (i := 20) (N := some 47) (v := ?_) (a' := ?_) #[t_,t_,t_,t_,t_,t_,t_,t_,t_,t_,t_,t_,t_,t_,t_,f_,t_,f_,f_,f_,t_,f_,f_,f_,f_,f_,f_,f_] rfl rfl (by kernel_rfl) (fun _ _ _ h => h) (Or.inl ⟨by rfl, ?_⟩) ?_ ?_
      rotate_left
      · intro w'
        go_simp
        with_reducible rfl
      rotate_left
      · simp only [Act.put, List.setIfInBounds_toArray, List.set_cons_zero, List.set_cons_succ, i64_w, i32_w]
        rfl
      refine pure_ (i := 22) (N := some 49) (v := ?_) (a' := ?_) #[t_,t_,t_,t_,t_,t_,t_,t_,t_,t_,t_,t_,t_,t_,t_,f_,t_,f_,f_,f_,t_,f_,t_,f_,f_,f_,f_,f_] rfl rfl (by kernel_rfl) (fun _ _ _ h => h) (Or.inl ⟨by rfl, ?_⟩) ?_ ?_
      rotate_left
      · intro w'
        go_simp
        with_reducible rfl
      rotate_left
      · simp only [Act.put, List.setIfInBounds_toArray, List.set_cons_zero, List.set_cons_succ, i64_w, i32_w]
        rfl
      refine take_ (i := 15) (N := some 42) (v := ?_) (a' := ?_) #[t_,t_,t_,t_,t_,t_,t_,t_,t_,t_,t_,t_,t_,t_,t_,t_,t_,f_,f_,f_,t_,f_,t_,f_,f_,f_,f_,f_] rfl rfl (by kernel_rfl) (fun _ _ _ h => h) (Or.inl ⟨by rfl, ?_⟩) hHeld ?_ ?_
      rotate_left
      · rintro w' ⟨s0, s1, s2, s3, s4, s5, s6⟩
        go_simp
        with_reducible rfl
      rotate_left
      · simp only [Act.put, List.setIfInBounds_toArray, List.set_cons_zero, List.set_cons_succ, i64_w, i32_w]
        rfl
      refine pure_ (i := 17) (N := some 44) (v := ?_) (a' := ?_) #[t_,t_,t_,t_,t_,t_,t_,t_,t_,t_,t_,t_,t_,t_,t_,t_,t_,t_,f_,f_,t_,f_,t_,f_,f_,f_,f_,f_] rfl rfl (by kernel_rfl) (fun _ _ _ h => h) (Or.inl ⟨by rfl, ?_⟩) ?_ ?_
      rotate_left
      · intro w'
        go_simp
        with_reducible rfl
      rotate_left
      · simp only [Act.put, List.setIfInBounds_toArray, List.set_cons_zero, List.set_cons_succ, i64_w, i32_w]
        rfl
      refine take_ (i := 18) (N := some 45) (v := ?_) (a' := ?_) #[t_,t_,t_,t_,t_,t_,t_,t_,t_,t_,t_,t_,t_,t_,t_,t_,t_,t_,t_,f_,t_,f_,t_,f_,f_,f_,f_,f_] rfl rfl (by kernel_rfl) (fun _ _ _ h => h) (Or.inl ⟨by rfl, ?_⟩) hHeld ?_ ?_
      rotate_left
      · rintro w' ⟨s0, s1, s2, s3, s4, s5, s6⟩
        go_simp
        with_reducible rfl
      rotate_left
      · simp only [Act.put, List.setIfInBounds_toArray, List.set_cons_zero, List.set_cons_succ, i64_w, i32_w]
        rfl
      refine take_ (i := 21) (N := some 48) (v := ?_) (a' := ?_) #[t_,t_,t_,t_,t_,t_,t_,t_,t_,t_,t_,t_,t_,t_,t_,t_,t_,t_,t_,f_,t_,t_,t_,f_,f_,f_,f_,f_] rfl rfl (by kernel_rfl) (fun _ _ _ h => h) (Or.inl ⟨by rfl, ?_⟩) hHeld ?_ ?_
      rotate_left
      · rintro w' ⟨s0, s1, s2, s3, s4, s5, s6⟩
        go_simp
        with_reducible rfl
      rotate_left
      · simp only [Act.put, List.setIfInBounds_toArray, List.set_cons_zero, List.set_cons_succ, i64_w, i32_w]
        rfl
      refine pure_ (i := 23) (N := some 50) (v := ?_) (a' := ?_) #[t_,t_,t_,t_,t_,t_,t_,t_,t_,t_,t_,t_,t_,t_,t_,t_,t_,t_,t_,f_,t_,t_,t_,t_,f_,f_,f_,f_] rfl rfl (by kernel_rfl) (fun _ _ _ h => h) (Or.inl ⟨by rfl, ?_⟩) ?_ ?_
      rotate_left
      · intro w'
        go_simp
        with_reducible rfl
      rotate_left
      · simp only [Act.put, List.setIfInBounds_toArray, List.set_cons_zero, List.set_cons_succ, i64_w, i32_w]
        rfl
      refine take_ (i := 24) (N := some 51) (v := ?_) (a' := ?_) #[t_,t_,t_,t_,t_,t_,t_,t_,t_,t_,t_,t_,t_,t_,t_,t_,t_,t_,t_,f_,t_,t_,t_,t_,t_,f_,f_,f_] rfl rfl (by kernel_rfl) (fun _ _ _ h => h) (Or.inl ⟨by rfl, ?_⟩) hHeld ?_ ?_
      rotate_left
      · rintro w' ⟨s0, s1, s2, s3, s4, s5, s6⟩
        go_simp
        with_reducible rfl
      rotate_left
      · simp only [Act.put, List.setIfInBounds_toArray, List.set_cons_zero, List.set_cons_succ, i64_w, i32_w]
        rfl
      refine one_ (i := 19) (N := some 46) #[t_,t_,t_,t_,t_,t_,t_,t_,t_,t_,t_,t_,t_,t_,t_,t_,t_,t_,t_,t_,t_,t_,t_,t_,t_,f_,f_,f_] rfl rfl (by kernel_rfl) (by decide) (fun K hK => ?_)
      refine goes_ Try.func13 (by kernel_rfl) rfl #[.agg #[.int .i64 x.f0, .string x.f1, .string x.f2, .int .i64 x.f3, .int .i64 x.f4, .int .i64 x.f5]] (by rfl) rfl rfl (by simp only [List.map_toArray, List.map_cons, List.map_nil]; rfl) ?_
      with_reducible refine (CK3.out _).mono ?_
      rintro e wq3 ⟨rfl, hB⟩
      refine ⟨_, rfl, ?_⟩
      have F3_0 := (hB.cell (p := ⟨w.heap.size, 2, none⟩) L2.1).trans F2_0
      have F3_1 := (hB.cell (p := ad.add (i * 6)) L2.2).trans F2_1
      have F3_2 := (hB.cell (p := ⟨(ad.add (i * 6)).block, (ad.add (i * 6)).off + 1, none⟩) L2.2).trans F2_2
      have F3_3 := (hB.cell (p := ⟨(ad.add (i * 6)).block, (ad.add (i * 6)).off + 2, none⟩) L2.2).trans F2_3
      have F3_4 := (hB.cell (p := ⟨(ad.add (i * 6)).block, (ad.add (i * 6)).off + 3, none⟩) L2.2).trans F2_4
      have F3_5 := (hB.cell (p := ⟨(ad.add (i * 6)).block, (ad.add (i * 6)).off + 4, none⟩) L2.2).trans F2_5
      have F3_6 := (hB.cell (p := ⟨(ad.add (i * 6)).block, (ad.add (i * 6)).off + 5, none⟩) L2.2).trans F2_6
      have L3 : w.heap.size < wq3.heap.size ∧ (ad.add (i * 6)).block < wq3.heap.size := ⟨Nat.lt_of_lt_of_le L2.1 hB.size, Nat.lt_of_lt_of_le L2.2 hB.size⟩
      have HB3 := Aside0.mk (Below.trans HB2.out (hB.mono HB2.out.size))
      have KB3 := Aside0.mk (Below.trans KB2.out (hB.mono KB2.out.size))
      clear hB HB2 KB2 F2_0 F2_1 F2_2 F2_3 F2_4 F2_5 F2_6 L2
      refine hK.out _ _ ⟨F3_0, F3_1, F3_2, F3_3, F3_4, F3_5, F3_6⟩ (fun hHeld => ?_)
      clear hK K
      refine norm_ (a' := ?_) ?_ ?_
      rotate_left
      · show Act.put _ (some 46) _ = _
        simp only [Act.put, List.setIfInBounds_toArray, List.set_cons_zero, List.set_cons_succ, i64_w, i32_w]
        rfl
      refine one_ (i := 25) (N := some 52) #[t_,t_,t_,t_,t_,t_,t_,t_,t_,t_,t_,t_,t_,t_,t_,t_,t_,t_,t_,t_,t_,t_,t_,t_,t_,t_,f_,f_] rfl rfl (by kernel_rfl) (by decide) (fun K hK => ?_)
      refine goes_ Try.func16 (by kernel_rfl) rfl #[.agg #[.int .i64 x.f0, .string x.f1, .string x.f2, .int .i64 x.f3, .int .i64 x.f4, .int .i64 x.f5]] (by rfl) rfl rfl (by simp only [List.map_toArray, List.map_cons, List.map_nil]; rfl) ?_
      with_reducible refine (CK4.out _).mono ?_
      rintro e wq4 ⟨rfl, hB⟩
      refine ⟨_, rfl, ?_⟩
      have F4_0 := (hB.cell (p := ⟨w.heap.size, 2, none⟩) L3.1).trans F3_0
      have F4_1 := (hB.cell (p := ad.add (i * 6)) L3.2).trans F3_1
      have F4_2 := (hB.cell (p := ⟨(ad.add (i * 6)).block, (ad.add (i * 6)).off + 1, none⟩) L3.2).trans F3_2
      have F4_3 := (hB.cell (p := ⟨(ad.add (i * 6)).block, (ad.add (i * 6)).off + 2, none⟩) L3.2).trans F3_3
      have F4_4 := (hB.cell (p := ⟨(ad.add (i * 6)).block, (ad.add (i * 6)).off + 3, none⟩) L3.2).trans F3_4
      have F4_5 := (hB.cell (p := ⟨(ad.add (i * 6)).block, (ad.add (i * 6)).off + 4, none⟩) L3.2).trans F3_5
      have F4_6 := (hB.cell (p := ⟨(ad.add (i * 6)).block, (ad.add (i * 6)).off + 5, none⟩) L3.2).trans F3_6
      have L4 : w.heap.size < wq4.heap.size ∧ (ad.add (i * 6)).block < wq4.heap.size := ⟨Nat.lt_of_lt_of_le L3.1 hB.size, Nat.lt_of_lt_of_le L3.2 hB.size⟩
      have HB4 := Aside0.mk (Below.trans HB3.out (hB.mono HB3.out.size))
      have KB4 := Aside0.mk (Below.trans KB3.out (hB.mono KB3.out.size))
      clear hB HB3 KB3 F3_0 F3_1 F3_2 F3_3 F3_4 F3_5 F3_6 L3
      refine hK.out _ _ ⟨F4_0, F4_1, F4_2, F4_3, F4_4, F4_5, F4_6⟩ (fun hHeld => ?_)
      clear hK K
      refine norm_ (a' := ?_) ?_ ?_
      rotate_left
      · show Act.put _ (some 52) _ = _
        simp only [Act.put, List.setIfInBounds_toArray, List.set_cons_zero, List.set_cons_succ, i64_w, i32_w]
        rfl
      refine pure_ (i := 26) (N := some 53) (v := ?_) (a' := ?_) #[t_,t_,t_,t_,t_,t_,t_,t_,t_,t_,t_,t_,t_,t_,t_,t_,t_,t_,t_,t_,t_,t_,t_,t_,t_,t_,t_,f_] rfl rfl (by kernel_rfl) (fun _ _ _ h => h) (Or.inl ⟨by rfl, ?_⟩) ?_ ?_
      rotate_left
      · intro w'
        go_simp
        with_reducible rfl
      rotate_left
      · simp only [Act.put, List.setIfInBounds_toArray, List.set_cons_zero, List.set_cons_succ, i64_w, i32_w]
        rfl
      refine pure_ (i := 27) (N := some 54) (v := ?_) (a' := ?_) #[t_,t_,t_,t_,t_,t_,t_,t_,t_,t_,t_,t_,t_,t_,t_,t_,t_,t_,t_,t_,t_,t_,t_,t_,t_,t_,t_,t_] rfl rfl (by kernel_rfl) (fun _ _ _ h => h) (Or.inl ⟨by rfl, ?_⟩) ?_ ?_
      rotate_left
      · intro w'
        go_simp
        with_reducible rfl
      rotate_left
      · simp only [Act.put, List.setIfInBounds_toArray, List.set_cons_zero, List.set_cons_succ, i64_w, i32_w]
        rfl
      refine done_ (by kernel_rfl) ?_
      go_wp2_with (fail)
      go_roundw
      case rel => exact ⟨i + 1, by omega, by go_num, KB4⟩
      case measure => simp [intOf]; omega
    · have BO := Aside0.mk ((KB.out.block _ (blk_lt BOw.out)).trans BOw.out)
      have BR := Aside0.mk ((KB.out.block _ (blk_lt BRw.out)).trans BRw.out)
      have HO := Aside0.mk (Kd.C_below HOw.out KB.out)
      replace HC := Aside0.mk (Kd.C_below HC.out HB.out)
      clear KB BOw BRw HOw HBw hbr
      have o0 : wr.cell? ⟨w.heap.size + 1, 0, none⟩ = some (.int .i64 a) := PAll.blk_cell BO.out 0
      have o1 : wr.cell? ⟨w.heap.size + 1, 1, none⟩ = some (.int .i64 b) := PAll.blk_cell BO.out 1
      have o2 : wr.cell? ⟨w.heap.size + 1, 2, none⟩ = some (.slice Ao l.length co) := PAll.blk_cell BO.out 2
      go_wp2_with (fail)
      refine (op_Encode.calls K1 a b Ao co l s e _ (C_front HO.out) (by omega) Q1.out).mono ?_
      rintro e2 wc ⟨rfl, hB⟩
      replace BO := Aside0.mk ((hB.block _ (blk_lt BO.out)).trans BO.out)
      replace BR := Aside0.mk ((hB.block _ (blk_lt BR.out)).trans BR.out)
      replace HO := Aside0.mk (Kd.C_below HO.out hB)
      replace HC := Aside0.mk (Kd.C_below HC.out hB)
      replace HB := Aside0.mk (Below.trans HB.out (hB.mono HB.out.size))
      clear hB o0 o1 o2 s0
      have o0 : wc.cell? ⟨w.heap.size, 0, none⟩ = some (.int .i64 a) := PAll.blk_cell BR.out 0
      have o1 : wc.cell? ⟨w.heap.size, 1, none⟩ = some (.int .i64 b) := PAll.blk_cell BR.out 1
      have o2 : wc.cell? ⟨w.heap.size, 2, none⟩ = some (.slice A l.length c) := PAll.blk_cell BR.out 2
      go_wp2_with (fail)
      refine (skylarkref08_Encode.calls K2 a b A c l s e _ HC.out hc Q2.out).mono ?_
      rintro e3 wd0 ⟨rfl, hB⟩
      replace BO := Aside0.mk ((hB.block _ (blk_lt BO.out)).trans BO.out)
      replace BR := Aside0.mk ((hB.block _ (blk_lt BR.out)).trans BR.out)
      replace HO := Aside0.mk (Kd.C_below HO.out hB)
      replace HC := Aside0.mk (Kd.C_below HC.out hB)
      replace HB := Aside0.mk (Below.trans HB.out (hB.mono HB.out.size))
      clear hB o0 o1 o2
      go_wp2_with (fail)
      refine (op_Decode.calls K3 a1 r1 r2 r3 r4 _ Q3.out).mono ?_
      rintro e4 wd ⟨vx, rfl, hR, hB⟩
      obtain ⟨Ax, cx, rfl⟩ := Kd.R_slice hR
      have hcx : r3.length ≤ cx := (Kd.R_reads' hR).2.1
      have HX := Aside0.mk (Kd.R_reads' hR).2.2
      replace BO := Aside0.mk ((hB.block _ (blk_lt BO.out)).trans BO.out)
      replace BR := Aside0.mk ((hB.block _ (blk_lt BR.out)).trans BR.out)
      replace HO := Aside0.mk (Kd.C_below HO.out hB)
      replace HC := Aside0.mk (Kd.C_below HC.out hB)
      replace HB := Aside0.mk (Below.trans HB.out (hB.mono HB.out.size))
      clear hB hR
      go_wp2_with (fail)
      have hA := (Below.refl wd.heap.size wd).alloc (Nat.le_refl _) (.cells #[.int .i64 r1, .int .i64 r2, .slice Ax r3.length cx] 31)
      have BX : Aside0 ((wd.alloc (.cells #[.int .i64 r1, .int .i64 r2, .slice Ax r3.length cx] 31)).heap[wd.heap.size]? = some (.cells #[.int .i64 r1, .int .i64 r2, .slice Ax r3.length cx] 31 (0, 0))) := Aside0.mk (alloc_at rfl)
      replace BO := Aside0.mk ((hA.block _ (blk_lt BO.out)).trans BO.out)
      replace BR := Aside0.mk ((hA.block _ (blk_lt BR.out)).trans BR.out)
      replace HO := Aside0.mk (Kd.C_below HO.out hA)
      replace HC := Aside0.mk (Kd.C_below HC.out hA)
      replace HX := Aside0.mk (Kd.C_below HX.out hA)
      replace HB := Aside0.mk (Below.trans HB.out (hA.mono HB.out.size))
      clear hA
      refine (Q4.out _).mono ?_
      rintro e5 we ⟨vy, rfl, hR, hB⟩
      obtain ⟨Ay, cy, rfl⟩ := Kd.R_slice hR
      have hcy : r3.length ≤ cy := (Kd.R_reads' hR).2.1
      have HY := Aside0.mk (Kd.R_reads' hR).2.2
      replace BO := Aside0.mk ((hB.block _ (blk_lt BO.out)).trans BO.out)
      replace BR := Aside0.mk ((hB.block _ (blk_lt BR.out)).trans BR.out)
      replace BX := Aside0.mk ((hB.block _ (blk_lt BX.out)).trans BX.out)
      replace HO := Aside0.mk (Kd.C_below HO.out hB)
      replace HC := Aside0.mk (Kd.C_below HC.out hB)
      replace HX := Aside0.mk (Kd.C_below HX.out hB)
      replace HB := Aside0.mk (Below.trans HB.out (hB.mono HB.out.size))
      clear hB hR Q4
      have q1 : (ce == ce) = true := beq_self_eq_true ce
      have q2 : (s.toList == s.toList) = true := beq_self_eq_true _
      have q3 : (e == e) = true := beq_self_eq_true e
      have q4 : (r4 == r4) = true := beq_self_eq_true r4
      go_wp2_with (fail)
      have hA := (Below.refl we.heap.size we).alloc (Nat.le_refl _) (.cells #[.int .i64 r1, .int .i64 r2, .slice Ay r3.length cy] 31)
      have BY : Aside0 ((we.alloc (.cells #[.int .i64 r1, .int .i64 r2, .slice Ay r3.length cy] 31)).heap[we.heap.size]? = some (.cells #[.int .i64 r1, .int .i64 r2, .slice Ay r3.length cy] 31 (0, 0))) := Aside0.mk (alloc_at rfl)
      replace BO := Aside0.mk ((hA.block _ (blk_lt BO.out)).trans BO.out)
      replace BR := Aside0.mk ((hA.block _ (blk_lt BR.out)).trans BR.out)
      replace BX := Aside0.mk ((hA.block _ (blk_lt BX.out)).trans BX.out)
      replace HO := Aside0.mk (Kd.C_below HO.out hA)
      replace HC := Aside0.mk (Kd.C_below HC.out hA)
      replace HX := Aside0.mk (Kd.C_below HX.out hA)
      replace HY := Aside0.mk (Kd.C_below HY.out hA)
      replace HB := Aside0.mk (Below.trans HB.out (hA.mono HB.out.size))
      clear hA
      generalize we.alloc (.cells #[.int .i64 r1, .int .i64 r2, .slice Ay r3.length cy] 31) = wy at *
      generalize we.heap.size = by_ at *
      generalize wd.heap.size = bx at *
      have BO0 := Aside0.mk (blk_drew BO.out)
      have BR0 := Aside0.mk (blk_drew BR.out)
      have BX0 := Aside0.mk (blk_drew BX.out)
      have BY0 := Aside0.mk (blk_drew BY.out)
      have HO0 := Aside0.mk (Kd.C_drew HO.out)
      have HC0 := Aside0.mk (Kd.C_drew HC.out)
      have HX0 := Aside0.mk (Kd.C_drew HX.out)
      have HY0 := Aside0.mk (Kd.C_drew HY.out)
      have HB0 := Aside0.mk (below_drew1 HB.out)
      clear BO BR BX BY HO HC HX HY HB
      refine start_ (n := 39) (S := fun w' => w'.cell? ⟨w.heap.size + 1, 0, none⟩ = some (.int .i64 a) ∧ w'.cell? ⟨w.heap.size + 1, 1, none⟩ = some (.int .i64 b) ∧ w'.cell? ⟨w.heap.size + 1, 2, none⟩ = some (.slice Ao l.length co) ∧ w'.cell? ⟨w.heap.size, 0, none⟩ = some (.int .i64 a) ∧ w'.cell? ⟨w.heap.size, 1, none⟩ = some (.int .i64 b) ∧ w'.cell? ⟨w.heap.size, 2, none⟩ = some (.slice A l.length c) ∧ w'.cell? ⟨bx, 0, none⟩ = some (.int .i64 r1) ∧ w'.cell? ⟨bx, 1, none⟩ = some (.int .i64 r2) ∧ w'.cell? ⟨bx, 2, none⟩ = some (.slice Ax r3.length cx) ∧ w'.cell? ⟨by_, 0, none⟩ = some (.int .i64 r1) ∧ w'.cell? ⟨by_, 1, none⟩ = some (.int .i64 r2) ∧ w'.cell? ⟨by_, 2, none⟩ = some (.slice Ay r3.length cy)) (ds := []) #[f_,f_,f_,f_,f_,f_,f_,f_,f_,f_,f_,f_,f_,f_,f_,f_,f_,f_,f_,f_,f_,f_,f_,f_,f_,f_,f_,f_,f_,f_,f_,f_,f_,f_,f_,f_,f_,f_,f_] (by kernel_rfl) rfl rfl ⟨(PAll.blk_cell BO0.out 0), (PAll.blk_cell BO0.out 1), (PAll.blk_cell BO0.out 2), (PAll.blk_cell BR0.out 0), (PAll.blk_cell BR0.out 1), (PAll.blk_cell BR0.out 2), (PAll.blk_cell BX0.out 0), (PAll.blk_cell BX0.out 1), (PAll.blk_cell BX0.out 2), (PAll.blk_cell BY0.out 0), (PAll.blk_cell BY0.out 1), (PAll.blk_cell BY0.out 2)⟩ (fun hHeld => ?_)
      generalize wy.drew = wC at *
      refine one_ (i := 0) (N := some 75) #[t_,f_,f_,f_,f_,f_,f_,f_,f_,f_,f_,f_,f_,f_,f_,f_,f_,f_,f_,f_,f_,f_,f_,f_,f_,f_,f_,f_,f_,f_,f_,f_,f_,f_,f_,f_,f_,f_,f_] rfl rfl (by kernel_rfl) (by decide) (fun K hK => ?_)
      refine goes_ Try.func21 (by kernel_rfl) rfl #[] (by rfl) rfl rfl (by simp only [List.map_toArray, List.map_cons, List.map_nil]) ?_
      with_reducible refine (skylarklaw08_names.calls true _ rfl).mono ?_
      rintro e wp1 ⟨rfl, hD⟩
      refine ⟨_, rfl, ?_⟩
      have hB := hD.below
      clear hD
      have BO1 := Aside0.mk ((hB.block _ (blk_lt BO0.out)).trans BO0.out)
      have BR1 := Aside0.mk ((hB.block _ (blk_lt BR0.out)).trans BR0.out)
      have BX1 := Aside0.mk ((hB.block _ (blk_lt BX0.out)).trans BX0.out)
      have BY1 := Aside0.mk ((hB.block _ (blk_lt BY0.out)).trans BY0.out)
      have HO1 := Aside0.mk (Kd.C_below HO0.out hB)
      have HC1 := Aside0.mk (Kd.C_below HC0.out hB)
      have HX1 := Aside0.mk (Kd.C_below HX0.out hB)
      have HY1 := Aside0.mk (Kd.C_below HY0.out hB)
      have HB1 := Aside0.mk (Below.trans HB0.out (hB.mono HB0.out.size))
      clear hB HB0 BO0 BR0 BX0 BY0 HO0 HC0 HX0 HY0
      refine hK.out _ _ ⟨(PAll.blk_cell BO1.out 0), (PAll.blk_cell BO1.out 1), (PAll.blk_cell BO1.out 2), (PAll.blk_cell BR1.out 0), (PAll.blk_cell BR1.out 1), (PAll.blk_cell BR1.out 2), (PAll.blk_cell BX1.out 0), (PAll.blk_cell BX1.out 1), (PAll.blk_cell BX1.out 2), (PAll.blk_cell BY1.out 0), (PAll.blk_cell BY1.out 1), (PAll.blk_cell BY1.out 2)⟩ (fun hHeld => ?_)
      clear hK K
      refine norm_ (a' := ?_) ?_ ?_
      rotate_left
      · show Act.put _ (some 75) _ = _
        simp only [Act.put, List.setIfInBounds_toArray, List.set_cons_zero, List.set_cons_succ, i64_w, i32_w]
        rfl
      refine pure_ (i := 1) (N := some 76) (v := ?_) (a' := ?_) #[t_,t_,f_,f_,f_,f_,f_,f_,f_,f_,f_,f_,f_,f_,f_,f_,f_,f_,f_,f_,f_,f_,f_,f_,f_,f_,f_,f_,f_,f_,f_,f_,f_,f_,f_,f_,f_,f_,f_] rfl rfl (by kernel_rfl) (fun _ _ _ h => h) (Or.inl ⟨by rfl, ?_⟩) ?_ ?_
      rotate_left
      · intro w'
        go_simp
        with_reducible rfl
      rotate_left
      · simp only [Act.put, List.setIfInBounds_toArray, List.set_cons_zero, List.set_cons_succ, i64_w, i32_w]
        rfl
      refine take_ (i := 2) (N := some 77) (v := ?_) (a' := ?_) #[t_,t_,t_,f_,f_,f_,f_,f_,f_,f_,f_,f_,f_,f_,f_,f_,f_,f_,f_,f_,f_,f_,f_,f_,f_,f_,f_,f_,f_,f_,f_,f_,f_,f_,f_,f_,f_,f_,f_] rfl rfl (by kernel_rfl) (fun _ _ _ h => h) (Or.inl ⟨by rfl, ?_⟩) hHeld ?_ ?_
      rotate_left
      · rintro w' ⟨s0, s1, s2, s3, s4, s5, s6, s7, s8, s9, s10, s11⟩
        go_simp
        with_reducible rfl
      rotate_left
      · simp only [Act.put, List.setIfInBounds_toArray, List.set_cons_zero, List.set_cons_succ, i64_w, i32_w]
        rfl
      refine take_ (i := 4) (N := some 79) (v := ?_) (a' := ?_) #[t_,t_,t_,f_,t_,f_,f_,f_,f_,f_,f_,f_,f_,f_,f_,f_,f_,f_,f_,f_,f_,f_,f_,f_,f_,f_,f_,f_,f_,f_,f_,f_,f_,f_,f_,f_,f_,f_,f_] rfl rfl (by kernel_rfl) (fun _ _ _ h => h) (Or.inl ⟨by rfl, ?_⟩) hHeld ?_ ?_
      rotate_left
      · rintro w' ⟨s0, s1, s2, s3, s4, s5, s6, s7, s8, s9, s10, s11⟩
        go_simp
        with_reducible rfl
      rotate_left
      · simp only [Act.put, List.setIfInBounds_toArray, List.set_cons_zero, List.set_cons_succ, i64_w, i32_w]
        rfl
      refine one_ (i := 3) (N := some 78) #[t_,t_,t_,t_,t_,f_,f_,f_,f_,f_,f_,f_,f_,f_,f_,f_,f_,f_,f_,f_,f_,f_,f_,f_,f_,f_,f_,f_,f_,f_,f_,f_,f_,f_,f_,f_,f_,f_,f_] rfl rfl (by kernel_rfl) (by decide) (fun K hK => ?_)
      refine goes_ Try.func12 (by kernel_rfl) rfl #[.agg #[.int .i64 a, .int .i64 b, .slice Ao l.length co]] (by rfl) rfl rfl (by simp only [List.map_toArray, List.map_cons, List.map_nil]; rfl) ?_
      with_reducible refine (op_CheckAll.calls 0 a b Ao co l ce _ (C_front HO1.out) (by omega) QC.out).mono ?_
      rintro e wp2 ⟨rfl, hB⟩
      refine ⟨_, rfl, ?_⟩
      have BO2 := Aside0.mk ((hB.block _ (blk_lt BO1.out)).trans BO1.out)
      have BR2 := Aside0.mk ((hB.block _ (blk_lt BR1.out)).trans BR1.out)
      have BX2 := Aside0.mk ((hB.block _ (blk_lt BX1.out)).trans BX1.out)
      have BY2 := Aside0.mk ((hB.block _ (blk_lt BY1.out)).trans BY1.out)
      have HO2 := Aside0.mk (Kd.C_below HO1.out hB)
      have HC2 := Aside0.mk (Kd.C_below HC1.out hB)
      have HX2 := Aside0.mk (Kd.C_below HX1.out hB)
      have HY2 := Aside0.mk (Kd.C_below HY1.out hB)
      have HB2 := Aside0.mk (Below.trans HB1.out (hB.mono HB1.out.size))
      clear hB HB1 BO1 BR1 BX1 BY1 HO1 HC1 HX1 HY1
      refine hK.out _ _ ⟨(PAll.blk_cell BO2.out 0), (PAll.blk_cell BO2.out 1), (PAll.blk_cell BO2.out 2), (PAll.blk_cell BR2.out 0), (PAll.blk_cell BR2.out 1), (PAll.blk_cell BR2.out 2), (PAll.blk_cell BX2.out 0), (PAll.blk_cell BX2.out 1), (PAll.blk_cell BX2.out 2), (PAll.blk_cell BY2.out 0), (PAll.blk_cell BY2.out 1), (PAll.blk_cell BY2.out 2)⟩ (fun hHeld => ?_)
      clear hK K
      refine norm_ (a' := ?_) ?_ ?_
      rotate_left
      · show Act.put _ (some 78) _ = _
        simp only [Act.put, List.setIfInBounds_toArray, List.set_cons_zero, List.set_cons_succ, i64_w, i32_w]
        rfl
      refine one_ (i := 5) (N := some 80) #[t_,t_,t_,t_,t_,t_,f_,f_,f_,f_,f_,f_,f_,f_,f_,f_,f_,f_,f_,f_,f_,f_,f_,f_,f_,f_,f_,f_,f_,f_,f_,f_,f_,f_,f_,f_,f_,f_,f_] rfl rfl (by kernel_rfl) (by decide) (fun K hK => ?_)
      refine goes_ Try.func22 (by kernel_rfl) rfl #[.agg #[.int .i64 a, .int .i64 b, .slice A l.length c]] (by rfl) rfl rfl (by simp only [List.map_toArray, List.map_cons, List.map_nil]; rfl) ?_
      with_reducible refine (skylarkref08_CheckAll.calls KR a b A c l ce _ HC2.out hc QR.out).mono ?_
      rintro e wp3 ⟨rfl, hB⟩
      refine ⟨_, rfl, ?_⟩
      have BO3 := Aside0.mk ((hB.block _ (blk_lt BO2.out)).trans BO2.out)
      have BR3 := Aside0.mk ((hB.block _ (blk_lt BR2.out)).trans BR2.out)
      have BX3 := Aside0.mk ((hB.block _ (blk_lt BX2.out)).trans BX2.out)
      have BY3 := Aside0.mk ((hB.block _ (blk_lt BY2.out)).trans BY2.out)
      have HO3 := Aside0.mk (Kd.C_below HO2.out hB)
      have HC3 := Aside0.mk (Kd.C_below HC2.out hB)
      have HX3 := Aside0.mk (Kd.C_below HX2.out hB)
      have HY3 := Aside0.mk (Kd.C_below HY2.out hB)
      have HB3 := Aside0.mk (Below.trans HB2.out (hB.mono HB2.out.size))
      clear hB HB2 BO2 BR2 BX2 BY2 HO2 HC2 HX2 HY2
      refine hK.out _ _ ⟨(PAll.blk_cell BO3.out 0), (PAll.blk_cell BO3.out 1), (PAll.blk_cell BO3.out 2), (PAll.blk_cell BR3.out 0), (PAll.blk_cell BR3.out 1), (PAll.blk_cell BR3.out 2), (PAll.blk_cell BX3.out 0), (PAll.blk_cell BX3.out 1), (PAll.blk_cell BX3.out 2), (PAll.blk_cell BY3.out 0), (PAll.blk_cell BY3.out 1), (PAll.blk_cell BY3.out 2)⟩ (fun hHeld => ?_)
      clear hK K
      refine norm_ (a' := ?_) ?_ ?_
      rotate_left
      · show Act.put _ (some 80) _ = _
        simp only [Act.put, List.setIfInBounds_toArray, List.set_cons_zero, List.set_cons_succ, i64_w, i32_w]
        rfl
      refine pure_ (i := 6) (N := some 81) (v := ?_) (a' := ?_) #[t_,t_,t_,t_,t_,t_,t_,f_,f_,f_,f_,f_,f_,f_,f_,f_,f_,f_,f_,f_,f_,f_,f_,f_,f_,f_,f_,f_,f_,f_,f_,f_,f_,f_,f_,f_,f_,f_,f_] rfl rfl (by kernel_rfl) (fun _ _ _ h => h) (Or.inl ⟨by rfl, ?_⟩) ?_ ?_
      rotate_left
      · intro w'
        go_simp
        with_reducible rfl
      rotate_left
      · simp only [Act.put, List.setIfInBounds_toArray, List.set_cons_zero, List.set_cons_succ, i64_w, i32_w]
        rfl
      refine pure_ (i := 7) (N := some 82) (v := ?_) (a' := ?_) #[t_,t_,t_,t_,t_,t_,t_,t_,f_,f_,f_,f_,f_,f_,f_,f_,f_,f_,f_,f_,f_,f_,f_,f_,f_,f_,f_,f_,f_,f_,f_,f_,f_,f_,f_,f_,f_,f_,f_] rfl rfl (by kernel_rfl) (fun _ _ _ h => h) (Or.inl ⟨by rfl, ?_⟩) ?_ ?_
      rotate_left
      · intro w'
        go_simp
        with_reducible rfl
      rotate_left
      · simp only [Act.put, List.setIfInBounds_toArray, List.set_cons_zero, List.set_cons_succ, i64_w, i32_w]
        rfl
      refine pure_ (i := 8) (N := some 83) (v := ?_) (a' := ?_) #[t_,t_,t_,t_,t_,t_,t_,t_,t_,f_,f_,f_,f_,f_,f_,f_,f_,f_,f_,f_,f_,f_,f_,f_,f_,f_,f_,f_,f_,f_,f_,f_,f_,f_,f_,f_,f_,f_,f_] rfl rfl (by kernel_rfl) (fun _ _ _ h => h) (Or.inl ⟨by rfl, ?_⟩) ?_ ?_
      rotate_left
      · intro w'
        go_simp
        with_reducible rfl
      rotate_left
      · simp only [Act.put, List.setIfInBounds_toArray, List.set_cons_zero, List.set_cons_succ, i64_w, i32_w]
        rfl
      refine pure_ (i := 9) (N := some 84) (v := ?_) (a' := ?_) #[t_,t_,t_,t_,t_,t_,t_,t_,t_,t_,f_,f_,f_,f_,f_,f_,f_,f_,f_,f_,f_,f_,f_,f_,f_,f_,f_,f_,f_,f_,f_,f_,f_,f_,f_,f_,f_,f_,f_] rfl rfl (by kernel_rfl) (fun _ _ _ h => h) (Or.inl ⟨by rfl, ?_⟩) ?_ ?_
      rotate_left
      · intro w'
        go_simp
        with_reducible rfl
      rotate_left
      · simp only [Act.put, List.setIfInBounds_toArray, List.set_cons_zero, List.set_cons_succ, i64_w, i32_w]
        rfl
      refine pure_ (i := 10) (N := some 85) (v := ?_) (a' := ?_) #[t_,t_,t_,t_,t_,t_,t_,t_,t_,t_,t_,f_,f_,f_,f_,f_,f_,f_,f_,f_,f_,f_,f_,f_,f_,f_,f_,f_,f_,f_,f_,f_,f_,f_,f_,f_,f_,f_,f_] rfl rfl (by kernel_rfl) (fun _ _ _ h => h) (Or.inl ⟨by rfl, ?_⟩) ?_ ?_
      rotate_left
      · intro w'
        go_simp
        with_reducible rfl
      rotate_left
      · simp only [Act.put, List.setIfInBounds_toArray, List.set_cons_zero, List.set_cons_succ, i64_w, i32_w]
        rfl
      refine pure_ (i := 11) (N := some 86) (v := ?_) (a' := ?_) #[t_,t_,t_,t_,t_,t_,t_,t_,t_,t_,t_,t_,f_,f_,f_,f_,f_,f_,f_,f_,f_,f_,f_,f_,f_,f_,f_,f_,f_,f_,f_,f_,f_,f_,f_,f_,f_,f_,f_] rfl rfl (by kernel_rfl) (fun _ _ _ h => h) (Or.inl ⟨by rfl, ?_⟩) ?_ ?_
      rotate_left
      · intro w'
        go_simp
        with_reducible rfl
      rotate_left
      · simp only [Act.put, List.setIfInBounds_toArray, List.set_cons_zero, List.set_cons_succ, i64_w, i32_w]
        rfl
      refine pure_ (i := 12) (N := some 87) (v := ?_) (a' := ?_) #[t_,t_,t_,t_,t_,t_,t_,t_,t_,t_,t_,t_,t_,f_,f_,f_,f_,f_,f_,f_,f_,f_,f_,f_,f_,f_,f_,f_,f_,f_,f_,f_,f_,f_,f_,f_,f_,f_,f_] rfl rfl (by kernel_rfl) (fun _ _ _ h => h) (Or.inl ⟨by rfl, ?_⟩) ?_ ?_
      rotate_left
      · intro w'
        go_simp
        with_reducible rfl
      rotate_left
      · simp only [Act.put, List.setIfInBounds_toArray, List.set_cons_zero, List.set_cons_succ, i64_w, i32_w]
        rfl
      refine pure_ (i := 13) (N := some 88) (v := ?_) (a' := ?_) #[t_,t_,t_,t_,t_,t_,t_,t_,t_,t_,t_,t_,t_,t_,f_,f_,f_,f_,f_,f_,f_,f_,f_,f_,f_,f_,f_,f_,f_,f_,f_,f_,f_,f_,f_,f_,f_,f_,f_] rfl rfl (by kernel_rfl) (fun _ _ _ h => h) (Or.inl ⟨by rfl, ?_⟩) ?_ ?_
      rotate_left
      · intro w'
        go_simp
        with_reducible rfl
      rotate_left
      · simp only [Act.put, List.setIfInBounds_toArray, List.set_cons_zero, List.set_cons_succ, i64_w, i32_w]
        rfl
      refine pure_ (i := 14) (N := some 89) (v := ?_) (a' := ?_) #[t_,t_,t_,t_,t_,t_,t_,t_,t_,t_,t_,t_,t_,t_,t_,f_,f_,f_,f_,f_,f_,f_,f_,f_,f_,f_,f_,f_,f_,f_,f_,f_,f_,f_,f_,f_,f_,f_,f_] rfl rfl (by kernel_rfl) (fun _ _ _ h => h) (Or.inl ⟨by rfl, ?_⟩) ?_ ?_
      rotate_left
      · intro w'
        go_simp
        with_reducible rfl
      rotate_left
      · simp only [Act.put, List.setIfInBounds_toArray, List.set_cons_zero, List.set_cons_succ, i64_w, i32_w]
        rfl
      refine pure_ (i := 15) (N := some 90) (v := ?_) (a' := ?_) #[t_,t_,t_,t_,t_,t_,t_,t_,t_,t_,t_,t_,t_,t_,t_,t_,f_,f_,f_,f_,f_,f_,f_,f_,f_,f_,f_,f_,f_,f_,f_,f_,f_,f_,f_,f_,f_,f_,f_] rfl rfl (by kernel_rfl) (fun _ _ _ h => h) (Or.inl ⟨by rfl, ?_⟩) ?_ ?_
      rotate_left
      · intro w'
        go_simp
        with_reducible rfl
      rotate_left
      · simp only [Act.put, List.setIfInBounds_toArray, List.set_cons_zero, List.set_cons_succ, i64_w, i32_w]
        rfl
      refine pure_ (i := 16) (N := some 91) (v := ?_) (a' := ?_) #[t_,t_,t_,t_,t_,t_,t_,t_,t_,t_,t_,t_,t_,t_,t_,t_,t_,f_,f_,f_,f_,f_,f_,f_,f_,f_,f_,f_,f_,f_,f_,f_,f_,f_,f_,f_,f_,f_,f_] rfl rfl (by kernel_rfl) (fun _ _ _ h => h) (Or.inl ⟨by rfl, ?_⟩) ?_ ?_
      rotate_left
      · intro w'
        go_simp
        with_reducible rfl
      rotate_left
      · simp only [Act.put, List.setIfInBounds_toArray, List.set_cons_zero, List.set_cons_succ, i64_w, i32_w]
        rfl
      refine pure_ (i := 17) (N := some 92) (v := ?_) (a' := ?_) #[t_,t_,t_,t_,t_,t_,t_,t_,t_,t_,t_,t_,t_,t_,t_,t_,t_,t_,f_,f_,f_,f_,f_,f_,f_,f_,f_,f_,f_,f_,f_,f_,f_,f_,f_,f_,f_,f_,f_] rfl rfl (by kernel_rfl) (fun _ _ _ h => h) (Or.inl ⟨by rfl, ?_⟩) ?_ ?_
      rotate_left
      · intro w'
        go_simp
        with_reducible rfl
      rotate_left
      · simp only [Act.put, List.setIfInBounds_toArray, List.set_cons_zero, List.set_cons_succ, i64_w, i32_w]
        rfl
      refine pure_ (i := 18) (N := some 93) (v := ?_) (a' := ?_) #[t_,t_,t_,t_,t_,t_,t_,t_,t_,t_,t_,t_,t_,t_,t_,t_,t_,t_,t_,f_,f_,f_,f_,f_,f_,f_,f_,f_,f_,f_,f_,f_,f_,f_,f_,f_,f_,f_,f_] rfl rfl (by kernel_rfl) (fun _ _ _ h => h) (Or.inl ⟨by rfl, ?_⟩) ?_ ?_
      rotate_left
      · intro w'
        go_simp
        with_reducible rfl
      rotate_left
      · simp only [Act.put, List.setIfInBounds_toArray, List.set_cons_zero, List.set_cons_succ, i64_w, i32_w]
        rfl
      refine take_ (i := 19) (N := some 94) (v := ?_) (a' := ?_) #[t_,t_,t_,t_,t_,t_,t_,t_,t_,t_,t_,t_,t_,t_,t_,t_,t_,t_,t_,t_,f_,f_,f_,f_,f_,f_,f_,f_,f_,f_,f_,f_,f_,f_,f_,f_,f_,f_,f_] rfl rfl (by kernel_rfl) (fun _ _ _ h => h) (Or.inl ⟨by rfl, ?_⟩) hHeld ?_ ?_
      rotate_left
      · rintro w' ⟨s0, s1, s2, s3, s4, s5, s6, s7, s8, s9, s10, s11⟩
        go_simp
        with_reducible rfl
      rotate_left
      · simp only [Act.put, List.setIfInBounds_toArray, List.set_cons_zero, List.set_cons_succ, i64_w, i32_w]
        rfl
      refine take_ (i := 20) (N := some 95) (v := ?_) (a' := ?_) #[t_,t_,t_,t_,t_,t_,t_,t_,t_,t_,t_,t_,t_,t_,t_,t_,t_,t_,t_,t_,t_,f_,f_,f_,f_,f_,f_,f_,f_,f_,f_,f_,f_,f_,f_,f_,f_,f_,f_] rfl rfl (by kernel_rfl) (fun _ _ _ h => h) (Or.inl ⟨by rfl, ?_⟩) hHeld ?_ ?_
      rotate_left
      · rintro w' ⟨s0, s1, s2, s3, s4, s5, s6, s7, s8, s9, s10, s11⟩
        go_simp
        with_reducible rfl
      rotate_left
      · simp only [Act.put, List.setIfInBounds_toArray, List.set_cons_zero, List.set_cons_succ, i64_w, i32_w]
        rfl
      refine one_ (i := 21) (N := some 96) #[t_,t_,t_,t_,t_,t_,t_,t_,t_,t_,t_,t_,t_,t_,t_,t_,t_,t_,t_,t_,t_,t_,f_,f_,f_,f_,f_,f_,f_,f_,f_,f_,f_,f_,f_,f_,f_,f_,f_] rfl rfl (by kernel_rfl) (by decide) (fun K hK => ?_)
      refine goes_ Try.func23 (by kernel_rfl) rfl #[.agg #[.int .i64 r1, .int .i64 r2, .slice Ax r3.length cx], .agg #[.int .i64 r1, .int .i64 r2, .slice Ay r3.length cy]] (by rfl) rfl rfl (by simp only [List.map_toArray, List.map_cons, List.map_nil]; rfl) ?_
      with_reducible refine (skylarklaw08_sameRequest.calls KS r1 r2 Ax cx r3 r1 r2 Ay cy r3 true _ HX3.out hcx HY3.out hcy QS.out).mono ?_
      rintro e wp4 ⟨rfl, hB⟩
      refine ⟨_, rfl, ?_⟩
      have BO4 := Aside0.mk ((hB.block _ (blk_lt BO3.out)).trans BO3.out)
      have BR4 := Aside0.mk ((hB.block _ (blk_lt BR3.out)).trans BR3.out)
      have BX4 := Aside0.mk ((hB.block _ (blk_lt BX3.out)).trans BX3.out)
      have BY4 := Aside0.mk ((hB.block _ (blk_lt BY3.out)).trans BY3.out)
      have HO4 := Aside0.mk (Kd.C_below HO3.out hB)
      have HC4 := Aside0.mk (Kd.C_below HC3.out hB)
      have HX4 := Aside0.mk (Kd.C_below HX3.out hB)
      have HY4 := Aside0.mk (Kd.C_below HY3.out hB)
      have HB4 := Aside0.mk (Below.trans HB3.out (hB.mono HB3.out.size))
      clear hB HB3 BO3 BR3 BX3 BY3 HO3 HC3 HX3 HY3
      refine hK.out _ _ ⟨(PAll.blk_cell BO4.out 0), (PAll.blk_cell BO4.out 1), (PAll.blk_cell BO4.out 2), (PAll.blk_cell BR4.out 0), (PAll.blk_cell BR4.out 1), (PAll.blk_cell BR4.out 2), (PAll.blk_cell BX4.out 0), (PAll.blk_cell BX4.out 1), (PAll.blk_cell BX4.out 2), (PAll.blk_cell BY4.out 0), (PAll.blk_cell BY4.out 1), (PAll.blk_cell BY4.out 2)⟩ (fun hHeld => ?_)
      clear hK K
      refine norm_ (a' := ?_) ?_ ?_
      rotate_left
      · show Act.put _ (some 96) _ = _
        simp only [Act.put, List.setIfInBounds_toArray, List.set_cons_zero, List.set_cons_succ, i64_w, i32_w]
        rfl
      refine pure_ (i := 22) (N := some 97) (v := ?_) (a' := ?_) #[t_,t_,t_,t_,t_,t_,t_,t_,t_,t_,t_,t_,t_,t_,t_,t_,t_,t_,t_,t_,t_,t_,t_,f_,f_,f_,f_,f_,f_,f_,f_,f_,f_,f_,f_,f_,f_,f_,f_] rfl rfl (by kernel_rfl) (fun _ _ _ h => h) (Or.inl ⟨by rfl, ?_⟩) ?_ ?_
      rotate_left
      · intro w'
        go_simp
        with_reducible rfl
      rotate_left
      · simp only [Act.put, List.setIfInBounds_toArray, List.set_cons_zero, List.set_cons_succ, i64_w, i32_w]
        rfl
      refine pure_ (i := 23) (N := some 98) (v := ?_) (a' := ?_) #[t_,t_,t_,t_,t_,t_,t_,t_,t_,t_,t_,t_,t_,t_,t_,t_,t_,t_,t_,t_,t_,t_,t_,t_,f_,f_,f_,f_,f_,f_,f_,f_,f_,f_,f_,f_,f_,f_,f_] rfl rfl (by kernel_rfl) (fun _ _ _ h => h) (Or.inl ⟨by rfl, ?_⟩) ?_ ?_
      rotate_left
      · intro w'
        go_simp
        with_reducible rfl
      rotate_left
      · simp only [Act.put, List.setIfInBounds_toArray, List.set_cons_zero, List.set_cons_succ, i64_w, i32_w]
        rfl
      refine pure_ (i := 24) (N := some 99) (v := ?_) (a' := ?_) #[t_,t_,t_,t_,t_,t_,t_,t_,t_,t_,t_,t_,t_,t_,t_,t_,t_,t_,t_,t_,t_,t_,t_,t_,t_,f_,f_,f_,f_,f_,f_,f_,f_,f_,f_,f_,f_,f_,f_] rfl rfl (by kernel_rfl) (fun _ _ _ h => h) (Or.inl ⟨by rfl, ?_⟩) ?_ ?_
      rotate_left
      · intro w'
        go_simp
        with_reducible rfl
      rotate_left
      · simp only [Act.put, List.setIfInBounds_toArray, List.set_cons_zero, List.set_cons_succ, i64_w, i32_w]
        rfl
      refine pure_ (i := 25) (N := some 100) (v := ?_) (a' := ?_) #[t_,t_,t_,t_,t_,t_,t_,t_,t_,t_,t_,t_,t_,t_,t_,t_,t_,t_,t_,t_,t_,t_,t_,t_,t_,t_,f_,f_,f_,f_,f_,f_,f_,f_,f_,f_,f_,f_,f_] rfl rfl (by kernel_rfl) (fun _ _ _ h => h) (Or.inl ⟨by rfl, ?_⟩) ?_ ?_
      rotate_left
      · intro w'
        go_simp
        with_reducible rfl
      rotate_left
      · simp only [Act.put, List.setIfInBounds_toArray, List.set_cons_zero, List.set_cons_succ, i64_w, i32_w]
        rfl
      refine pure_ (i := 26) (N := some 101) (v := ?_) (a' := ?_) #[t_,t_,t_,t_,t_,t_,t_,t_,t_,t_,t_,t_,t_,t_,t_,t_,t_,t_,t_,t_,t_,t_,t_,t_,t_,t_,t_,f_,f_,f_,f_,f_,f_,f_,f_,f_,f_,f_,f_] rfl rfl (by kernel_rfl) (fun _ _ _ h => h) (Or.inl ⟨by rfl, ?_⟩) ?_ ?_
      rotate_left
      · intro w'
        go_simp
        with_reducible rfl
      rotate_left
      · simp only [Act.put, List.setIfInBounds_toArray, List.set_cons_zero, List.set_cons_succ, i64_w, i32_w]
        rfl
      refine pure_ (i := 27) (N := some 102) (v := ?_) (a' := ?_) #[t_,t_,t_,t_,t_,t_,t_,t_,t_,t_,t_,t_,t_,t_,t_,t_,t_,t_,t_,t_,t_,t_,t_,t_,t_,t_,t_,t_,f_,f_,f_,f_,f_,f_,f_,f_,f_,f_,f_] rfl rfl (by kernel_rfl) (fun _ _ _ h => h) (Or.inl ⟨by rfl, ?_⟩) ?_ ?_
      rotate_left
      · intro w'
        go_simp
        with_reducible rfl
      rotate_left
      · simp only [Act.put, List.setIfInBounds_toArray, List.set_cons_zero, List.set_cons_succ, i64_w, i32_w]
        rfl
      refine pure_ (i := 28) (N := some 103) (v := ?_) (a' := ?_) #[t_,t_,t_,t_,t_,t_,t_,t_,t_,t_,t_,t_,t_,t_,t_,t_,t_,t_,t_,t_,t_,t_,t_,t_,t_,t_,t_,t_,t_,f_,f_,f_,f_,f_,f_,f_,f_,f_,f_] rfl rfl (by kernel_rfl) (fun _ _ _ h => h) (Or.inl ⟨by rfl, ?_⟩) ?_ ?_
      rotate_left
      · intro w'
        go_simp
        with_reducible rfl
      rotate_left
      · simp only [Act.put, List.setIfInBounds_toArray, List.set_cons_zero, List.set_cons_succ, i64_w, i32_w]
        rfl
      refine pure_ (i := 29) (N := some 104) (v := ?_) (a' := ?_) #[t_,t_,t_,t_,t_,t_,t_,t_,t_,t_,t_,t_,t_,t_,t_,t_,t_,t_,t_,t_,t_,t_,t_,t_,t_,t_,t_,t_,t_,t_,f_,f_,f_,f_,f_,f_,f_,f_,f_] rfl rfl (by kernel_rfl) (fun _ _ _ h => h) (Or.inl ⟨by rfl, ?_⟩) ?_ ?_
      rotate_left
      · intro w'
        go_simp
        with_reducible rfl
      rotate_left
      · simp only [Act.put, List.setIfInBounds_toArray, List.set_cons_zero, List.set_cons_succ, i64_w, i32_w]
        rfl
      refine pure_ (i := 31) (N := some 106) (v := ?_) (a' := ?_) #[t_,t_,t_,t_,t_,t_,t_,t_,t_,t_,t_,t_,t_,t_,t_,t_,t_,t_,t_,t_,t_,t_,t_,t_,t_,t_,t_,t_,t_,t_,f_,t_,f_,f_,f_,f_,f_,f_,f_] rfl rfl (by kernel_rfl) (fun _ _ _ h => h) (Or.inl ⟨by rfl, ?_⟩) ?_ ?_
      rotate_left
      · intro w'
        go_simp
        with_reducible rfl
      rotate_left
      · simp only [Act.put, List.setIfInBounds_toArray, List.set_cons_zero, List.set_cons_succ, i64_w, i32_w]
        rfl
      refine take_ (i := 30) (N := some 105) (v := ?_) (a' := ?_) #[t_,t_,t_,t_,t_,t_,t_,t_,t_,t_,t_,t_,t_,t_,t_,t_,t_,t_,t_,t_,t_,t_,t_,t_,t_,t_,t_,t_,t_,t_,t_,t_,f_,f_,f_,f_,f_,f_,f_] rfl rfl (by kernel_rfl) (fun _ _ _ h => h) (Or.inl ⟨by rfl, ?_⟩) hHeld ?_ ?_
      rotate_left
      · rintro w' ⟨s0, s1, s2, s3, s4, s5, s6, s7, s8, s9, s10, s11⟩
        go_simp
        with_reducible rfl
      rotate_left
      · simp only [Act.put, List.setIfInBounds_toArray, List.set_cons_zero, List.set_cons_succ, i64_w, i32_w]
        rfl
      refine take_ (i := 32) (N := some 107) (v := ?_) (a' := ?_) #[t_,t_,t_,t_,t_,t_,t_,t_,t_,t_,t_,t_,t_,t_,t_,t_,t_,t_,t_,t_,t_,t_,t_,t_,t_,t_,t_,t_,t_,t_,t_,t_,t_,f_,f_,f_,f_,f_,f_] rfl rfl (by kernel_rfl) (fun _ _ _ h => h) (Or.inl ⟨by rfl, ?_⟩) hHeld ?_ ?_
      rotate_left
      · rintro w' ⟨s0, s1, s2, s3, s4, s5, s6, s7, s8, s9, s10, s11⟩
        go_simp
        with_reducible rfl
      rotate_left
      · simp only [Act.put, List.setIfInBounds_toArray, List.set_cons_zero, List.set_cons_succ, i64_w, i32_w]
        rfl
      refine one_ (i := 33) (N := some 108) #[t_,t_,t_,t_,t_,t_,t_,t_,t_,t_,t_,t_,t_,t_,t_,t_,t_,t_,t_,t_,t_,t_,t_,t_,t_,t_,t_,t_,t_,t_,t_,t_,t_,t_,f_,f_,f_,f_,f_] rfl rfl (by kernel_rfl) (by decide) (fun K hK => ?_)
      refine goes_ Try.func24 (by kernel_rfl) rfl #[.slice Ao l.length co, .slice A l.length c] (by rfl) rfl rfl (by simp only [List.map_toArray, List.map_cons, List.map_nil]; rfl) ?_
      with_reducible refine (kept_calls Ao co l A c _ HO4.out hco HC4.out hc (by omega)).mono ?_
      rintro e wp5 ⟨rfl, hB⟩
      refine ⟨_, rfl, ?_⟩
      have BO5 := Aside0.mk ((hB.block _ (blk_lt BO4.out)).trans BO4.out)
      have BR5 := Aside0.mk ((hB.block _ (blk_lt BR4.out)).trans BR4.out)
      have BX5 := Aside0.mk ((hB.block _ (blk_lt BX4.out)).trans BX4.out)
      have BY5 := Aside0.mk ((hB.block _ (blk_lt BY4.out)).trans BY4.out)
      have HO5 := Aside0.mk (Kd.C_below HO4.out hB)
      have HC5 := Aside0.mk (Kd.C_below HC4.out hB)
      have HX5 := Aside0.mk (Kd.C_below HX4.out hB)
      have HY5 := Aside0.mk (Kd.C_below HY4.out hB)
      have HB5 := Aside0.mk (Below.trans HB4.out (hB.mono HB4.out.size))
      clear hB HB4 BO4 BR4 BX4 BY4 HO4 HC4 HX4 HY4
      refine hK.out _ _ ⟨(PAll.blk_cell BO5.out 0), (PAll.blk_cell BO5.out 1), (PAll.blk_cell BO5.out 2), (PAll.blk_cell BR5.out 0), (PAll.blk_cell BR5.out 1), (PAll.blk_cell BR5.out 2), (PAll.blk_cell BX5.out 0), (PAll.blk_cell BX5.out 1), (PAll.blk_cell BX5.out 2), (PAll.blk_cell BY5.out 0), (PAll.blk_cell BY5.out 1), (PAll.blk_cell BY5.out 2)⟩ (fun hHeld => ?_)
      clear hK K
      refine norm_ (a' := ?_) ?_ ?_
      rotate_left
      · show Act.put _ (some 108) _ = _
        simp only [Act.put, List.setIfInBounds_toArray, List.set_cons_zero, List.set_cons_succ, i64_w, i32_w]
        rfl
      refine pure_ (i := 34) (N := some 109) (v := ?_) (a' := ?_) #[t_,t_,t_,t_,t_,t_,t_,t_,t_,t_,t_,t_,t_,t_,t_,t_,t_,t_,t_,t_,t_,t_,t_,t_,t_,t_,t_,t_,t_,t_,t_,t_,t_,t_,t_,f_,f_,f_,f_] rfl rfl (by kernel_rfl) (fun _ _ _ h => h) (Or.inl ⟨by rfl, ?_⟩) ?_ ?_
      rotate_left
      · intro w'
        go_simp
        with_reducible rfl
      rotate_left
      · simp only [Act.put, List.setIfInBounds_toArray, List.set_cons_zero, List.set_cons_succ, i64_w, i32_w]
        rfl
      refine pure_ (i := 35) (N := some 110) (v := ?_) (a' := ?_) #[t_,t_,t_,t_,t_,t_,t_,t_,t_,t_,t_,t_,t_,t_,t_,t_,t_,t_,t_,t_,t_,t_,t_,t_,t_,t_,t_,t_,t_,t_,t_,t_,t_,t_,t_,t_,f_,f_,f_] rfl rfl (by kernel_rfl) (fun _ _ _ h => h) (Or.inl ⟨by rfl, ?_⟩) ?_ ?_
      rotate_left
      · intro w'
        go_simp
        with_reducible rfl
      rotate_left
      · simp only [Act.put, List.setIfInBounds_toArray, List.set_cons_zero, List.set_cons_succ, i64_w, i32_w]
        rfl
      refine one_ (i := 36) (N := some 111) #[t_,t_,t_,t_,t_,t_,t_,t_,t_,t_,t_,t_,t_,t_,t_,t_,t_,t_,t_,t_,t_,t_,t_,t_,t_,t_,t_,t_,t_,t_,t_,t_,t_,t_,t_,t_,t_,f_,f_] rfl rfl (by kernel_rfl) (by decide) (fun K hK => ?_)
      refine goes_ Try.func10 (by kernel_rfl) rfl #[] (by rfl) rfl rfl (by simp only [List.map_toArray, List.map_cons, List.map_nil]) ?_
      with_reducible refine (skylarklaw08_works.calls KW true _ QW.out).mono ?_
      rintro e wp6 ⟨rfl, hB⟩
      refine ⟨_, rfl, ?_⟩
      have BO6 := Aside0.mk ((hB.block _ (blk_lt BO5.out)).trans BO5.out)
      have BR6 := Aside0.mk ((hB.block _ (blk_lt BR5.out)).trans BR5.out)
      have BX6 := Aside0.mk ((hB.block _ (blk_lt BX5.out)).trans BX5.out)
      have BY6 := Aside0.mk ((hB.block _ (blk_lt BY5.out)).trans BY5.out)
      have HO6 := Aside0.mk (Kd.C_below HO5.out hB)
      have HC6 := Aside0.mk (Kd.C_below HC5.out hB)
      have HX6 := Aside0.mk (Kd.C_below HX5.out hB)
      have HY6 := Aside0.mk (Kd.C_below HY5.out hB)
      have HB6 := Aside0.mk (Below.trans HB5.out (hB.mono HB5.out.size))
      clear hB HB5 BO5 BR5 BX5 BY5 HO5 HC5 HX5 HY5
      refine hK.out _ _ ⟨(PAll.blk_cell BO6.out 0), (PAll.blk_cell BO6.out 1), (PAll.blk_cell BO6.out 2), (PAll.blk_cell BR6.out 0), (PAll.blk_cell BR6.out 1), (PAll.blk_cell BR6.out 2), (PAll.blk_cell BX6.out 0), (PAll.blk_cell BX6.out 1), (PAll.blk_cell BX6.out 2), (PAll.blk_cell BY6.out 0), (PAll.blk_cell BY6.out 1), (PAll.blk_cell BY6.out 2)⟩ (fun hHeld => ?_)
      clear hK K
      refine norm_ (a' := ?_) ?_ ?_
      rotate_left
      · show Act.put _ (some 111) _ = _
        simp only [Act.put, List.setIfInBounds_toArray, List.set_cons_zero, List.set_cons_succ, i64_w, i32_w]
        rfl
      refine pure_ (i := 37) (N := some 112) (v := ?_) (a' := ?_) #[t_,t_,t_,t_,t_,t_,t_,t_,t_,t_,t_,t_,t_,t_,t_,t_,t_,t_,t_,t_,t_,t_,t_,t_,t_,t_,t_,t_,t_,t_,t_,t_,t_,t_,t_,t_,t_,t_,f_] rfl rfl (by kernel_rfl) (fun _ _ _ h => h) (Or.inl ⟨by rfl, ?_⟩) ?_ ?_
      rotate_left
      · intro w'
        go_simp
        with_reducible rfl
      rotate_left
      · simp only [Act.put, List.setIfInBounds_toArray, List.set_cons_zero, List.set_cons_succ, i64_w, i32_w]
        rfl
      refine pure_ (i := 38) (N := some 4) (v := ?_) (a' := ?_) #[t_,t_,t_,t_,t_,t_,t_,t_,t_,t_,t_,t_,t_,t_,t_,t_,t_,t_,t_,t_,t_,t_,t_,t_,t_,t_,t_,t_,t_,t_,t_,t_,t_,t_,t_,t_,t_,t_,t_] rfl rfl (by kernel_rfl) (fun _ _ _ h => h) (Or.inl ⟨by rfl, ?_⟩) ?_ ?_
      rotate_left
      · intro w'
        go_simp
        with_reducible rfl
      rotate_left
      · simp only [Act.put, List.setIfInBounds_toArray, List.set_cons_zero, List.set_cons_succ, i64_w, i32_w]
        rfl
      refine done_ (by kernel_rfl) ?_
      go_wp2_with (fail)
      go_ret
      exact ⟨rfl, HB6.out⟩
end Go.Proofs.Ytafmdlegelbfpaa.Pure
