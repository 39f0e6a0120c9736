import Derived.Test.YtdfdlajfjcakaaaGreatCnJ
namespace Go.Proofs.YtdfdlajfjcakaaaGreat
open Go Go.RowKit
open Go.Proofs.YtdfdlajfjcakaaaGreatW.PrintLast
set_option linter.unusedVariables false
set_option linter.unusedSimpArgs false
set_option maxRecDepth 100000

/-! Query. -/
def opWr (x : OpT) : Bool := decide (1 ≤ x.kind ∧ x.kind ≤ 4)
set_option maxHeartbeats 1000000 in
theorem writes_calls (x : OpT) (w : World) : Calls Tryz.prog 34 #[.agg #[.int .i64 x.kind, .string x.key, .string x.val, .int .i64 x.stamp, .int .i64 x.test, .int .i64 x.most]] w fun e w' => e = .returned (.bool (opWr x)) ∧ Below w.heap.size w w' := by
  have hin := fun W => PAll.op_in.calls x.kind 1 4 (opWr x) W (PAll.op_Check.in_f x.kind 1 4)
  have hA := Lib.hid ((Below.refl w.heap.size w).alloc (Nat.le_refl _) (.cells #[.int .i64 x.kind, .string x.key, .string x.val, .int .i64 x.stamp, .int .i64 x.test, .int .i64 x.most] 85))
  have HX := Blk.new w 85 #[.int .i64 x.kind, .string x.key, .string x.val, .int .i64 x.stamp, .int .i64 x.test, .int .i64 x.most]
  have x0 := HX.cell 0
  clear HX
  go_enter Tryz.func34, Tryz.ntmps34
  go_wp2_with (fail)
  refine (hin _).mono ?_
  rintro e w1 ⟨rfl, hD⟩
  obtain ⟨n1, rfl⟩ := hD.out
  go_wp2
  go_ret
  exact ⟨rfl, below_drewN hA.out n1⟩
set_option maxHeartbeats 2000000 in
theorem wr_index (v : Value) (l : List OpT) (w : World) (h : SegG w OpT.cells v l) (hl : l.length ≤ 140737488355328) :
    Calls Tryz.prog 43 #[v, .func (.func 34) #[] #[]] w fun en w' => (∃ i : Int, en = .returned (.int .i64 i) ∧ decide (0 ≤ i) = l.any opWr) ∧ Below w.heap.size w w' := by
  obtain ⟨A, c, rfl, hc, hmx⟩ := h.shape
  have HH := Lib.hid h
  obtain ⟨n, HN⟩ : ∃ n, Hid (l.length = n) := ⟨_, Lib.hid rfl⟩
  have hn : n ≤ 140737488355328 := by rw [← HN.out]; exact hl
  rw [HN.out] at HH ⊢
  clear h hl hc hmx
  go_enter Tryz.func43, Tryz.ntmps43
  go_wp2_with (fail)
  go_loopg [5, 8] n (fun gg _ s8 wr => ∃ (i : Nat), i ≤ n ∧ n - i ≤ gg ∧ s8 = .int .i64 i ∧ Hid (Below w.heap.size w wr) ∧ Hid (l.any opWr = (l.drop i).any opWr))
  case atStart => exact ⟨0, by omega, by omega, rfl, Lib.hid (Below.refl _ _), Lib.hid rfl⟩
  case round =>
    obtain ⟨i, hi, hgg, rfl, HB, HI⟩ := hrel
    by_cases hlt : i < n
    · have hz : (i : Int) < (n : Int) := by omega
      have hi0 : (0 : Int) ≤ (i : Int) := by omega
      have hil : i < l.length := by have := HN.out; omega
      have hw5 : IntKind.i64.wrap ((i : Int) + 1) = ((i + 1 : Nat) : Int) := by rw [IntKind.wrap_i64]; omega
      obtain ⟨ad, rfl, x0, x1, x2, x3, x4, x5⟩ := opT_at (HH.out.below HB.out) hil
      have HI2 := HI.out
      rw [List.drop_eq_getElem_cons hil, List.any_cons] at HI2
      have HI3 := Lib.hid HI2
      generalize l[i] = x at x0 x1 x2 x3 x4 x5 HI3
      have hcall := writes_calls x wr
      clear HI2
      go_wp2_with (fail)
      refine hcall.mono ?_
      rintro e w3 ⟨rfl, hb3⟩
      have HB3 := Lib.hid (HB.out.trans (hb3.mono HB.out.size))
      clear hcall hb3 x0 x1 x2 x3 x4 x5
      cases hx : opWr x with
      | true =>
        go_wp2
        go_ret
        exact ⟨⟨i, rfl, by rw [HI3.out, hx]; simp⟩, HB3.out⟩
      | false =>
        have HI4 := Lib.hid (show l.any opWr = (l.drop (i + 1)).any opWr by rw [HI3.out, hx, Bool.false_or])
        clear hx
        go_wp2
        go_roundg (n - (i + 1))
        case measure => omega
        case rel => exact ⟨i + 1, by omega, Nat.le_refl _, by go_num, HB3, HI4⟩
    · have hz : ¬ (i : Int) < (n : Int) := by omega
      have HI2 := HI.out
      rw [List.drop_of_length_le (by have := HN.out; omega)] at HI2
      have HI3 := Lib.hid HI2
      clear HI2
      go_wp2
      go_ret
      exact ⟨⟨-1, rfl, by rw [HI3.out]; rfl⟩, HB.out⟩
theorem wr_any (v : Value) (l : List OpT) (w : World) (h : SegG w OpT.cells v l) (hl : l.length ≤ 140737488355328) :
    Calls Tryz.prog 33 #[v, .func (.func 34) #[] #[]] w fun en w' => en = .returned (.bool (l.any opWr)) ∧ Below w.heap.size w w' := by
  have hx := wr_index v l w h hl
  obtain ⟨A, c, rfl, _, _⟩ := h.shape
  clear h
  go_enter Tryz.func33, Tryz.ntmps33
  go_wp2_with (fail)
  refine hx.mono ?_
  rintro e w1 ⟨⟨i, rfl, hi⟩, hb⟩
  go_wp2
  go_ret
  exact ⟨by rw [← hi]; rfl, hb⟩
def Mem.qcode (m : Mem) (r : ReqT) : Int := if m.tail = false then 190 else if reqMay r = false ∨ r.ops.any opWr = true then 80 else 0
def RepW.v (x : RepW) : Value := .agg #[.int .i64 x.client, .int .i64 x.seq, .slice x.A x.n x.c, .int .i64 x.at_, .int .i64 x.code]
theorem set5' {w : World} {b ty : Nat} {a0 a1 a2 a3 a4 : Value} (h : Blk w b ty #[a0, a1, a2, a3, a4]) (x0 x1 x2 x3 x4 : Value) :
    Blk (((((w.setCell ⟨b, 0, none⟩ x0).setCell ⟨b, 1, none⟩ x1).setCell ⟨b, 2, none⟩ x2).setCell ⟨b, 3, none⟩ x3).setCell ⟨b, 4, none⟩ x4) b ty #[x0, x1, x2, x3, x4] ∧
    Kept w (((((w.setCell ⟨b, 0, none⟩ x0).setCell ⟨b, 1, none⟩ x1).setCell ⟨b, 2, none⟩ x2).setCell ⟨b, 3, none⟩ x3).setCell ⟨b, 4, none⟩ x4) (fun k => k = b) := by
  refine ⟨?_, (((((Kept.refl w fun k => k = b).setCell (p := ⟨b, 0, none⟩) (.inl rfl) x0).setCell (p := ⟨b, 1, none⟩) (.inl rfl) x1).setCell (p := ⟨b, 2, none⟩) (.inl rfl) x2).setCell (p := ⟨b, 3, none⟩) (.inl rfl) x3).setCell (p := ⟨b, 4, none⟩) (.inl rfl) x4⟩
  have := ((((h.set_ 0 x0).set_ 1 x1).set_ 2 x2).set_ 3 x3).set_ 4 x4
  simpa using this
set_option maxHeartbeats 8000000 in
theorem query_calls {w : World} {F : Nat → Prop} {g : Nat} {m : Mem} (h : MemAt w F g m) (hok : m.Ok) (r : ReqT) (v : Value) (hv : SegG w OpT.cells v r.ops) (hvl : r.ops.length ≤ 140737488355328) :
    Calls Tryz.prog 9 #[.pointer (some ⟨g, 0, none⟩), r.v v] w fun e w' => ∃ rw : RepW, e = .returned (.tuple #[rw.v, .int .i64 (m.qcode r)]) ∧ (m.qcode r = 0 → RepIs w' rw (repOf m.rows r)) ∧ MPost w F g m w' := by
  obtain ⟨A2, n2, c2, rfl⟩ : ∃ A k c, v = .slice A k c := by obtain ⟨A, c, e, _⟩ := hv.shape; exact ⟨A, _, c, e⟩
  have HA := Lib.hid (((Below.refl w.heap.size w).alloc (Nat.le_refl _) (.cells #[.int .i64 r.client, .int .i64 r.seq, .slice A2 n2 c2] 39)).alloc (by simp) (.cells #[.int .i64 0, .int .i64 0, .slice none 0 0, .int .i64 0, .int .i64 0] 34))
  have HX := Lib.hid ((Blk.new w 39 #[.int .i64 r.client, .int .i64 r.seq, .slice A2 n2 c2]).alloc (.cells #[.int .i64 0, .int .i64 0, .slice none 0 0, .int .i64 0, .int .i64 0] 34))
  have HZ := Lib.hid (show Blk _ (w.heap.size + 1) 34 _ from by have := Blk.new (w.alloc (.cells #[.int .i64 r.client, .int .i64 r.seq, .slice A2 n2 c2] 39)) 34 #[.int .i64 0, .int .i64 0, .slice none 0 0, .int .i64 0, .int .i64 0]; rw [World.size_alloc] at this; exact this)
  have hta := tail_calls (h.below HA.out) hok.order
  have HM := Lib.hid h
  have HOK := Lib.hid hok
  have HV := Lib.hid hv
  have hvl' := Lib.hid hvl
  obtain ⟨tl, HTL⟩ : ∃ x, Hid (m.tail = x) := ⟨_, Lib.hid rfl⟩
  rw [HTL.out] at hta
  clear h hok hv hvl
  unfold ReqT.v
  go_enter Tryz.func9, Tryz.ntmps9
  go_wp2_with (fail)
  generalize ((w.alloc (.cells #[.int .i64 r.client, .int .i64 r.seq, .slice A2 n2 c2] 39)).alloc (.cells #[.int .i64 0, .int .i64 0, .slice none 0 0, .int .i64 0, .int .i64 0] 34)) = wa at *
  refine hta.mono ?_
  rintro e wt ⟨rfl, hbt⟩
  have BT := Lib.hid (HA.out.trans (hbt.mono HA.out.size))
  have HXt := Lib.hid (HX.out.kept (Kept.of_below hbt fun _ => False) (fun h => h))
  have HZt := Lib.hid (show Blk wt (w.heap.size + 1) 34 #[.int .i64 0, .int .i64 0, .slice none 0 0, .int .i64 0, .int .i64 0] from Blk.kept HZ.out (Kept.of_below hbt fun _ => False) (fun h => h))
  clear hta hbt HX HZ
  cases tl with
  | false =>
    have HQ := Lib.hid (show m.qcode r = 190 by unfold Mem.qcode; rw [if_pos HTL.out])
    have z0 := HZt.out.cell 0
    have z1 := HZt.out.cell 1
    have z2 := HZt.out.cell 2
    have z3 := HZt.out.cell 3
    have z4 := HZt.out.cell 4
    have f0 := HZt.out.frozen 0
    have f1 := HZt.out.frozen 1
    have f2 := HZt.out.frozen 2
    have f3 := HZt.out.frozen 3
    have f4 := HZt.out.frozen 4
    have hzl := HZt.out.lt
    go_wp2
    have h5 := set5' HZt.out (.int .i64 0) (.int .i64 0) (.slice none 0 0) (.int .i64 0) (.int .i64 0)
    have hB5 := BT.out.trans (h5.2.below BT.out.size (fun k hk e => by omega))
    generalize (((((wt.setCell ⟨w.heap.size + 1, 0, none⟩ (.int .i64 0)).setCell ⟨w.heap.size + 1, 1, none⟩ (.int .i64 0)).setCell ⟨w.heap.size + 1, 2, none⟩ (.slice none 0 0)).setCell ⟨w.heap.size + 1, 3, none⟩ (.int .i64 0)).setCell ⟨w.heap.size + 1, 4, none⟩ (.int .i64 0)) = w5 at *
    have g0 := h5.1.cell 0
    have g1 := h5.1.cell 1
    have g2 := h5.1.cell 2
    have g3 := h5.1.cell 3
    have g4 := h5.1.cell 4
    refine bodyPost_ret (v := .tuple #[.agg #[.int .i64 0, .int .i64 0, .slice none 0 0, .int .i64 0, .int .i64 0], .int .i64 190]) ?_ rfl ⟨⟨0, 0, none, 0, 0, 0, 0⟩, by rw [HQ.out]; rfl, (fun e => by rw [HQ.out] at e; cases e), MPost.mk0 HM.out hB5⟩
    simp [results, Tryz.results9, go_sem, g0, g1, g2, g3, g4]
  | true =>
    have hca := checkAll_calls r (.slice A2 n2 c2) wt (HV.out.below BT.out)
    have x0 := HXt.out.cell 0
    have x1 := HXt.out.cell 1
    have x2 := HXt.out.cell 2
    unfold ReqT.v at hca
    go_wp2_with (fail)
    refine hca.mono ?_
    rintro e wc ⟨rfl, hbc⟩
    have BC := Lib.hid (BT.out.trans (hbc.mono BT.out.size))
    have HXc := Lib.hid (HXt.out.kept (Kept.of_below hbc fun _ => False) (fun h => h))
    have HZc := Lib.hid (HZt.out.kept (Kept.of_below hbc fun _ => False) (fun h => h))
    clear hca hbc HXt HZt x0 x1 x2
    by_cases hmay : reqMay r = true
    · rw [if_pos hmay]
      have hwa := wr_any (.slice A2 n2 c2) r.ops wc (HV.out.below BC.out) hvl'.out
      have x2 := HXc.out.cell 2
      have q0 : ((0 : Int) != 0) = false := rfl
      go_wp2_with (fail)
      refine hwa.mono ?_
      rintro e w1 ⟨rfl, hb1⟩
      have B1' := Lib.hid (BC.out.trans (hb1.mono BC.out.size))
      have HX2 := Lib.hid (HXc.out.kept (Kept.of_below hb1 fun _ => False) (fun h => h))
      have HZ2 := Lib.hid (HZc.out.kept (Kept.of_below hb1 fun _ => False) (fun h => h))
      clear hwa hb1 HXc HZc x2
      cases hany : r.ops.any opWr with
      | true =>
        have HQ := Lib.hid (show m.qcode r = 80 by unfold Mem.qcode; rw [HTL.out, if_neg (by decide), if_pos (.inr hany)])
        have z0 := HZ2.out.cell 0
        have z1 := HZ2.out.cell 1
        have z2 := HZ2.out.cell 2
        have z3 := HZ2.out.cell 3
        have z4 := HZ2.out.cell 4
        have f0 := HZ2.out.frozen 0
        have f1 := HZ2.out.frozen 1
        have f2 := HZ2.out.frozen 2
        have f3 := HZ2.out.frozen 3
        have f4 := HZ2.out.frozen 4
        have hzl := HZ2.out.lt
        go_wp2
        have h5 := set5' HZ2.out (.int .i64 0) (.int .i64 0) (.slice none 0 0) (.int .i64 0) (.int .i64 0)
        have hB5 := B1'.out.trans (h5.2.below B1'.out.size (fun k hk e => by omega))
        generalize (((((w1.setCell ⟨w.heap.size + 1, 0, none⟩ (.int .i64 0)).setCell ⟨w.heap.size + 1, 1, none⟩ (.int .i64 0)).setCell ⟨w.heap.size + 1, 2, none⟩ (.slice none 0 0)).setCell ⟨w.heap.size + 1, 3, none⟩ (.int .i64 0)).setCell ⟨w.heap.size + 1, 4, none⟩ (.int .i64 0)) = w5 at *
        have g0 := h5.1.cell 0
        have g1 := h5.1.cell 1
        have g2 := h5.1.cell 2
        have g3 := h5.1.cell 3
        have g4 := h5.1.cell 4
        refine bodyPost_ret (v := .tuple #[.agg #[.int .i64 0, .int .i64 0, .slice none 0 0, .int .i64 0, .int .i64 0], .int .i64 80]) ?_ rfl ⟨⟨0, 0, none, 0, 0, 0, 0⟩, by rw [HQ.out]; rfl, (fun e => by rw [HQ.out] at e; cases e), MPost.mk0 HM.out hB5⟩
        simp [results, Tryz.results9, go_sem, g0, g1, g2, g3, g4]
      | false =>
        have HQ := Lib.hid (show m.qcode r = 0 by unfold Mem.qcode; rw [HTL.out, if_neg (by decide), if_neg (by rw [hmay, hany]; decide)])
        obtain ⟨_, _, _, _, hn1, hn2, hmays⟩ := req_may hmay
        have HRD := Lib.hid (show (doT m.rows r.ops).2 = m.rows from doT_reads fun x hx => ⟨op_may (hmays x hx), fun hk => by
          have := List.any_eq_false.1 hany x hx
          have h1 := (op_may (hmays x hx)).1
          unfold opWr at this
          simp at this
          omega⟩)
        have HN1 := Lib.hid hn1
        have HN2 := Lib.hid hn2
        have HMAY := Lib.hid hmays
        clear hn1 hn2 hmays hmay hany
        have hM1 := HM.out.below B1'.out
        obtain ⟨tb, vo, vw, vl, vt, rw_, rt, hM1, rfl⟩ := hM1
        have HP1 := Lib.hid hM1
        have c3 := hM1.b.cell 3
        have hgl1 := hM1.b.lt
        have y2 := HX2.out.cell 2
        have hbl1 := HX2.out.lt
        have htl := hM1.t.lt
        have hgt : ¬ (fun k => k = tb) g := fun e => by obtain ⟨ct, ht⟩ := hM1.t.blk; have e : g = tb := e; subst e; exact ht.ne_ hM1.b (by decide) rfl
        have hbt : ¬ (fun k => k = tb) w.heap.size := fun e => by obtain ⟨ct, ht⟩ := hM1.t.blk; have e : w.heap.size = tb := e; rw [← e] at ht; exact ht.ne_ HX2.out (by decide) rfl
        have hbz : ¬ (fun k => k = tb) (w.heap.size + 1) := fun e => by obtain ⟨ct, ht⟩ := hM1.t.blk; have e : w.heap.size + 1 = tb := e; rw [← e] at ht; exact ht.ne_ HZ2.out (by decide) rfl
        have B1 := Lib.hid (Below.refl w1.heap.size w1)
        have HDO := Lib.hid (fun W (hb : Below w1.heap.size w1 W) => tab_do tb m.rows r.ops (.slice A2 n2 c2) W (hM1.t.below hb) HOK.out.rows ((HV.out.below B1'.out).below hb) HMAY.out HN1.out HN2.out)
        obtain ⟨fa, HFA⟩ : ∃ x, Hid ((doT m.rows r.ops).1.2.1 = x) := ⟨_, Lib.hid rfl⟩
        obtain ⟨fc, HFC⟩ : ∃ x, Hid ((doT m.rows r.ops).1.2.2 = x) := ⟨_, Lib.hid rfl⟩
        obtain ⟨rs, HRS⟩ : ∃ x, Hid ((doT m.rows r.ops).1.1 = x) := ⟨_, Lib.hid rfl⟩
        obtain ⟨rows', HRO⟩ : ∃ x, Hid (m.rows = x) := ⟨_, Lib.hid rfl⟩
        have hHRD := HRD.out
        rw [HFA.out, HFC.out, HRS.out, hHRD, HRO.out] at HDO
        have HREP := Lib.hid (show repOf m.rows r = ⟨r.client, r.seq, rs, fa, fc⟩ by unfold repOf; rw [HFA.out, HFC.out, HRS.out])
        clear hM1 hHRD
        go_wp2_with (fail)
        refine start_ (n := 13) (S := fun w' => w'.cell? ⟨g, 3, none⟩ = some (.pointer (some ⟨tb, 0, none⟩)) ∧ w'.cell? ⟨w.heap.size, 2, none⟩ = some (.slice A2 n2 c2)) (ds := [12]) #[false, false, false, false, false, false, false, false, false, false, false, false, false] (by kernel_rfl) rfl rfl ⟨(B1.out.drew.cell (p := ⟨g, 3, none⟩) hgl1).trans c3, (B1.out.drew.cell (p := ⟨w.heap.size, 2, none⟩) hbl1).trans y2⟩ (fun hHeld => ?_)
        refine pure_ (i := 0) (N := some 24) (v := ?_) (a' := ?_) #[true, false, false, false, false, false, false, false, false, false, false, false, false] rfl rfl (by kernel_rfl) (fun _ _ _ h => h) (Or.inl ⟨by rfl, ?_⟩) ?_ ?_
        rotate_left
        · intro w'
          go_simp
          with_reducible rfl
        rotate_left
        · simp only [Act.put, List.setIfInBounds_toArray, List.set_cons_zero, List.set_cons_succ, i64_w, i32_w]
          rfl
        refine pure_ (i := 1) (N := some 25) (v := ?_) (a' := ?_) #[true, true, false, false, false, false, false, false, false, false, false, false, false] rfl rfl (by kernel_rfl) (fun _ _ _ h => h) (Or.inl ⟨by rfl, ?_⟩) ?_ ?_
        rotate_left
        · intro w'
          go_simp
          with_reducible rfl
        rotate_left
        · simp only [Act.put, List.setIfInBounds_toArray, List.set_cons_zero, List.set_cons_succ, i64_w, i32_w]
          rfl
        refine pure_ (i := 2) (N := some 26) (v := ?_) (a' := ?_) #[true, true, true, false, false, false, false, false, false, false, false, false, false] rfl rfl (by kernel_rfl) (fun _ _ _ h => h) (Or.inl ⟨by rfl, ?_⟩) ?_ ?_
        rotate_left
        · intro w'
          go_simp
          with_reducible rfl
        rotate_left
        · simp only [Act.put, List.setIfInBounds_toArray, List.set_cons_zero, List.set_cons_succ, i64_w, i32_w]
          rfl
        refine pure_ (i := 4) (N := some 28) (v := ?_) (a' := ?_) #[true, true, true, false, true, false, false, false, false, false, false, false, false] rfl rfl (by kernel_rfl) (fun _ _ _ h => h) (Or.inl ⟨by rfl, ?_⟩) ?_ ?_
        rotate_left
        · intro w'
          go_simp
          with_reducible rfl
        rotate_left
        · simp only [Act.put, List.setIfInBounds_toArray, List.set_cons_zero, List.set_cons_succ, i64_w, i32_w]
          rfl
        refine take_ (i := 3) (N := some 27) (v := ?_) (a' := ?_) #[true, true, true, true, true, false, false, false, false, false, false, false, false] rfl rfl (by kernel_rfl) (fun _ _ _ h => h) (Or.inl ⟨by rfl, ?_⟩) hHeld ?_ ?_
        rotate_left
        · rintro w' ⟨s0, s1⟩
          go_simp
          with_reducible rfl
        rotate_left
        · simp only [Act.put, List.setIfInBounds_toArray, List.set_cons_zero, List.set_cons_succ, i64_w, i32_w]
          rfl
        refine take_ (i := 5) (N := some 29) (v := ?_) (a' := ?_) #[true, true, true, true, true, true, false, false, false, false, false, false, false] rfl rfl (by kernel_rfl) (fun _ _ _ h => h) (Or.inl ⟨by rfl, ?_⟩) hHeld ?_ ?_
        rotate_left
        · rintro w' ⟨s0, s1⟩
          go_simp
          with_reducible rfl
        rotate_left
        · simp only [Act.put, List.setIfInBounds_toArray, List.set_cons_zero, List.set_cons_succ, i64_w, i32_w]
          rfl
        refine join_ (σ := (Option Addr × Nat × Nat) × Nat) 2 #[true, true, true, true, true, true, true, true, true, true, true, false, false] (fun q => [(30, (.tuple #[.slice q.1.1 q.1.2.1 q.1.2.2, .agg #[.int .i64 fa, .int .i64 fc]])), (23, (.tuple #[.slice q.1.1 q.1.2.1 q.1.2.2, .agg #[.int .i64 fa, .int .i64 fc]])), (31, .slice q.1.1 q.1.2.1 q.1.2.2), (32, .agg #[.int .i64 fa, .int .i64 fc]), (7, .pointer (some ⟨q.2, 0, none⟩))]) (fun q w' => (Kept w1 w' (fun k => k = tb) ∧ ResL w' (.slice q.1.1 q.1.2.1 q.1.2.2) rs ∧ TabAt w' tb rows') ∧ (Blk w' q.2 32 #[.int .i64 0, .int .i64 0] ∧ w1.heap.size ≤ q.2)) ?_ ?_
        rotate_left
        · intro hJ6_10
          refine join_ (σ := (Option Addr × Nat × Nat) × Nat) 3 #[true, true, true, true, true, true, true, true, true, true, false, false, false] (fun q => [(30, (.tuple #[.slice q.1.1 q.1.2.1 q.1.2.2, .agg #[.int .i64 fa, .int .i64 fc]])), (23, (.tuple #[.slice q.1.1 q.1.2.1 q.1.2.2, .agg #[.int .i64 fa, .int .i64 fc]])), (31, .slice q.1.1 q.1.2.1 q.1.2.2), (32, .agg #[.int .i64 fa, .int .i64 fc])]) (fun q w' => (Kept w1 w' (fun k => k = tb) ∧ ResL w' (.slice q.1.1 q.1.2.1 q.1.2.2) rs ∧ TabAt w' tb rows') ∧ True) ?_ ?_
          rotate_left
          · intro hJ6
            refine join_ (σ := (Option Addr × Nat × Nat) × Nat) 6 #[true, true, true, true, true, true, false, false, false, false, true, false, false] (fun q => [(7, .pointer (some ⟨q.2, 0, none⟩))]) (fun q w' => Below w1.heap.size w1 w' ∧ (Blk w' q.2 32 #[.int .i64 0, .int .i64 0] ∧ w1.heap.size ≤ q.2)) ?_ ?_
            rotate_left
            · intro hJ10
              refine two_ (i := 6) (j := 10) (Ni := some 30) (Nj := some 7) #[true, true, true, true, true, true, true, false, false, false, false, false, false] #[true, true, true, true, true, true, false, false, false, false, true, false, false] rfl rfl rfl rfl (by kernel_rfl) (by decide) (by decide) (fun K hK => ?_) (fun K hK => ?_)
              · skip
                refine goes_ Tryz.func20 (by kernel_rfl) rfl #[.pointer (some ⟨tb, 0, none⟩), .slice A2 n2 c2] (by rfl) rfl rfl (by simp only [List.map_toArray, List.map_cons, List.map_nil]; rfl) ?_
                with_reducible refine (HDO.out _ B1.out.drew).mono ?_
                rintro e w8 ⟨rv8, rfl, hr8, ht8, hk8⟩
                obtain ⟨A8, n8, c8, rfl⟩ := hr8.form
                have K8 := Lib.hid (show Kept w1 w8 (fun k => k = tb) from (Kept.of_below B1.out.drew _).trans hk8)
                have R8 := Lib.hid hr8
                have T8 := Lib.hid ht8
                clear hr8 ht8 hk8
                refine ⟨_, rfl, ?_⟩
                refine hK.out _ _ ⟨(K8.out.cell (p := ⟨g, 3, none⟩) hgl1 hgt).trans c3, (K8.out.cell (p := ⟨w.heap.size, 2, none⟩) hbl1 hbt).trans y2⟩ (fun hHeld => ?_)
                clear hK K
                refine norm_ (a' := ?_) ?_ ?_
                rotate_left
                · show Act.put _ (some 30) _ = _
                  simp only [Act.put, List.setIfInBounds_toArray, List.set_cons_zero, List.set_cons_succ, i64_w, i32_w]
                  rfl
                refine pure_ (i := 7) (N := some 23) (v := ?_) (a' := ?_) #[true, true, true, true, true, true, true, true, false, false, false, false, false] rfl rfl (by kernel_rfl) (fun _ _ _ h => h) (Or.inl ⟨by rfl, ?_⟩) ?_ ?_
                rotate_left
                · intro w'
                  go_simp
                  with_reducible rfl
                rotate_left
                · simp only [Act.put, List.setIfInBounds_toArray, List.set_cons_zero, List.set_cons_succ, i64_w, i32_w]
                  rfl
                refine pure_ (i := 8) (N := some 31) (v := ?_) (a' := ?_) #[true, true, true, true, true, true, true, true, true, false, false, false, false] rfl rfl (by kernel_rfl) (fun _ _ _ h => h) (Or.inl ⟨by rfl, ?_⟩) ?_ ?_
                rotate_left
                · intro w'
                  go_simp
                  with_reducible rfl
                rotate_left
                · simp only [Act.put, List.setIfInBounds_toArray, List.set_cons_zero, List.set_cons_succ, i64_w, i32_w]
                  rfl
                refine pure_ (i := 9) (N := some 32) (v := ?_) (a' := ?_) #[true, true, true, true, true, true, true, true, true, true, false, false, false] rfl rfl (by kernel_rfl) (fun _ _ _ h => h) (Or.inl ⟨by rfl, ?_⟩) ?_ ?_
                rotate_left
                · intro w'
                  go_simp
                  with_reducible rfl
                rotate_left
                · simp only [Act.put, List.setIfInBounds_toArray, List.set_cons_zero, List.set_cons_succ, i64_w, i32_w]
                  rfl
                exact norm_ (by first | (simp only [putAll, Act.put, List.setIfInBounds_toArray, List.set_cons_zero, List.set_cons_succ]; done) | (simp only [putAll, Act.put, List.setIfInBounds_toArray, List.set_cons_zero, List.set_cons_succ]; rfl)) (hJ6 ((A8, n8, c8), 0) _ ⟨⟨K8.out, R8.out, T8.out⟩, trivial⟩)
              · skip
                refine value_ (w1 := ?_) (v := ?_) (by rfl) rfl ?_ ?_
                rotate_left 2
                · go_simp
                  constructor
                  · rfl
                  · rfl
                have B8 := Lib.hid (B1.out.drew.alloc B1.out.drew.size (.cells #[.int .i64 0, .int .i64 0] 32))
                have X8 := Lib.hid (And.intro (Blk.new w1.drew 32 #[.int .i64 0, .int .i64 0]) B1.out.drew.size)
                refine hK.out _ _ ⟨(B8.out.cell (p := ⟨g, 3, none⟩) hgl1).trans c3, (B8.out.cell (p := ⟨w.heap.size, 2, none⟩) hbl1).trans y2⟩ (fun hHeld => ?_)
                clear hK K
                refine norm_ (a' := ?_) ?_ ?_
                rotate_left
                · show Act.put _ (some 7) _ = _
                  simp only [Act.put, List.setIfInBounds_toArray, List.set_cons_zero, List.set_cons_succ, i64_w, i32_w]
                  rfl
                exact norm_ (by first | (simp only [putAll, Act.put, List.setIfInBounds_toArray, List.set_cons_zero, List.set_cons_succ]; done) | (simp only [putAll, Act.put, List.setIfInBounds_toArray, List.set_cons_zero, List.set_cons_succ]; rfl)) (hJ10 ((none, 0, 0), w1.drew.heap.size) _ ⟨B8.out, X8.out⟩)
            · skip
              rintro ⟨⟨A7, n7, c7⟩, p7⟩ w7 ⟨k7, x7⟩
              have K7 := Lib.hid k7
              have X7 := Lib.hid x7
              have hHeld := (show (w7.cell? ⟨g, 3, none⟩ = some (.pointer (some ⟨tb, 0, none⟩)) ∧ w7.cell? ⟨w.heap.size, 2, none⟩ = some (.slice A2 n2 c2)) from ⟨(K7.out.cell (p := ⟨g, 3, none⟩) hgl1).trans c3, (K7.out.cell (p := ⟨w.heap.size, 2, none⟩) hbl1).trans y2⟩)
              clear k7 x7
              refine norm_ (a' := ?_) ?_ ?_
              rotate_left
              · simp only [putAll, Act.put, List.setIfInBounds_toArray, List.set_cons_zero, List.set_cons_succ]
                rfl
              refine one_ (i := 6) (N := some 30) #[true, true, true, true, true, true, true, false, false, false, true, false, false] rfl rfl (by kernel_rfl) (by decide) (fun K hK => ?_)
              refine goes_ Tryz.func20 (by kernel_rfl) rfl #[.pointer (some ⟨tb, 0, none⟩), .slice A2 n2 c2] (by rfl) rfl rfl (by simp only [List.map_toArray, List.map_cons, List.map_nil]; rfl) ?_
              with_reducible refine (HDO.out _ K7.out).mono ?_
              rintro e w8 ⟨rv8, rfl, hr8, ht8, hk8⟩
              obtain ⟨A8, n8, c8, rfl⟩ := hr8.form
              have K8 := Lib.hid (show Kept w1 w8 (fun k => k = tb) from (Kept.of_below K7.out _).trans hk8)
              have X8 := Lib.hid (And.intro (X7.out.1.kept hk8 (by have := X7.out.2; omega)) X7.out.2)
              have R8 := Lib.hid hr8
              have T8 := Lib.hid ht8
              clear hr8 ht8 hk8
              refine ⟨_, rfl, ?_⟩
              refine hK.out _ _ ⟨(K8.out.cell (p := ⟨g, 3, none⟩) hgl1 hgt).trans c3, (K8.out.cell (p := ⟨w.heap.size, 2, none⟩) hbl1 hbt).trans y2⟩ (fun hHeld => ?_)
              clear hK K
              refine norm_ (a' := ?_) ?_ ?_
              rotate_left
              · show Act.put _ (some 30) _ = _
                simp only [Act.put, List.setIfInBounds_toArray, List.set_cons_zero, List.set_cons_succ, i64_w, i32_w]
                rfl
              refine pure_ (i := 7) (N := some 23) (v := ?_) (a' := ?_) #[true, true, true, true, true, true, true, true, false, false, true, false, false] rfl rfl (by kernel_rfl) (fun _ _ _ h => h) (Or.inl ⟨by rfl, ?_⟩) ?_ ?_
              rotate_left
              · intro w'
                go_simp
                with_reducible rfl
              rotate_left
              · simp only [Act.put, List.setIfInBounds_toArray, List.set_cons_zero, List.set_cons_succ, i64_w, i32_w]
                rfl
              refine pure_ (i := 8) (N := some 31) (v := ?_) (a' := ?_) #[true, true, true, true, true, true, true, true, true, false, true, false, false] rfl rfl (by kernel_rfl) (fun _ _ _ h => h) (Or.inl ⟨by rfl, ?_⟩) ?_ ?_
              rotate_left
              · intro w'
                go_simp
                with_reducible rfl
              rotate_left
              · simp only [Act.put, List.setIfInBounds_toArray, List.set_cons_zero, List.set_cons_succ, i64_w, i32_w]
                rfl
              refine pure_ (i := 9) (N := some 32) (v := ?_) (a' := ?_) #[true, true, true, true, true, true, true, true, true, true, true, false, false] rfl rfl (by kernel_rfl) (fun _ _ _ h => h) (Or.inl ⟨by rfl, ?_⟩) ?_ ?_
              rotate_left
              · intro w'
                go_simp
                with_reducible rfl
              rotate_left
              · simp only [Act.put, List.setIfInBounds_toArray, List.set_cons_zero, List.set_cons_succ, i64_w, i32_w]
                rfl
              exact norm_ (by first | (simp only [putAll, Act.put, List.setIfInBounds_toArray, List.set_cons_zero, List.set_cons_succ]; done) | (simp only [putAll, Act.put, List.setIfInBounds_toArray, List.set_cons_zero, List.set_cons_succ]; rfl)) (hJ6_10 ((A8, n8, c8), p7) _ ⟨⟨K8.out, R8.out, T8.out⟩, X8.out⟩)
          · skip
            rintro ⟨⟨A7, n7, c7⟩, p7⟩ w7 ⟨k7, x7⟩
            have K7 := Lib.hid k7
            have X7 := Lib.hid x7
            have hHeld := (show (w7.cell? ⟨g, 3, none⟩ = some (.pointer (some ⟨tb, 0, none⟩)) ∧ w7.cell? ⟨w.heap.size, 2, none⟩ = some (.slice A2 n2 c2)) from ⟨(K7.out.1.cell (p := ⟨g, 3, none⟩) hgl1 hgt).trans c3, (K7.out.1.cell (p := ⟨w.heap.size, 2, none⟩) hbl1 hbt).trans y2⟩)
            clear k7 x7
            refine norm_ (a' := ?_) ?_ ?_
            rotate_left
            · simp only [putAll, Act.put, List.setIfInBounds_toArray, List.set_cons_zero, List.set_cons_succ]
              rfl
            refine one_ (i := 10) (N := some 7) #[true, true, true, true, true, true, true, true, true, true, true, false, false] rfl rfl (by kernel_rfl) (by decide) (fun K hK => ?_)
            refine value_ (w1 := ?_) (v := ?_) (by rfl) rfl ?_ ?_
            rotate_left 2
            · go_simp
              constructor
              · rfl
              · rfl
            have K8 := Lib.hid (K7.out.1.alloc (.cells #[.int .i64 0, .int .i64 0] 32))
            have R8 := Lib.hid (K7.out.2.1.below ((Below.refl _ w7).alloc (Nat.le_refl _) (.cells #[.int .i64 0, .int .i64 0] 32)))
            have T8 := Lib.hid (K7.out.2.2.below ((Below.refl _ w7).alloc (Nat.le_refl _) (.cells #[.int .i64 0, .int .i64 0] 32)))
            have X8 := Lib.hid (And.intro (Blk.new w7 32 #[.int .i64 0, .int .i64 0]) K7.out.1.size)
            refine hK.out _ _ ⟨(K8.out.cell (p := ⟨g, 3, none⟩) hgl1 hgt).trans c3, (K8.out.cell (p := ⟨w.heap.size, 2, none⟩) hbl1 hbt).trans y2⟩ (fun hHeld => ?_)
            clear hK K
            refine norm_ (a' := ?_) ?_ ?_
            rotate_left
            · show Act.put _ (some 7) _ = _
              simp only [Act.put, List.setIfInBounds_toArray, List.set_cons_zero, List.set_cons_succ, i64_w, i32_w]
              rfl
            exact norm_ (by first | (simp only [putAll, Act.put, List.setIfInBounds_toArray, List.set_cons_zero, List.set_cons_succ]; done) | (simp only [putAll, Act.put, List.setIfInBounds_toArray, List.set_cons_zero, List.set_cons_succ]; rfl)) (hJ6_10 ((A7, n7, c7), w7.heap.size) _ ⟨⟨K8.out, R8.out, T8.out⟩, X8.out⟩)
        rintro ⟨⟨A7, n7, c7⟩, p7⟩ w7 ⟨k7, x7⟩
        have K7 := Lib.hid k7
        have X7 := Lib.hid x7
        have hHeld := (show (w7.cell? ⟨g, 3, none⟩ = some (.pointer (some ⟨tb, 0, none⟩)) ∧ w7.cell? ⟨w.heap.size, 2, none⟩ = some (.slice A2 n2 c2)) from ⟨(K7.out.1.cell (p := ⟨g, 3, none⟩) hgl1 hgt).trans c3, (K7.out.1.cell (p := ⟨w.heap.size, 2, none⟩) hbl1 hbt).trans y2⟩)
        clear k7 x7
        refine norm_ (a' := ?_) ?_ ?_
        rotate_left
        · simp only [putAll, Act.put, List.setIfInBounds_toArray, List.set_cons_zero, List.set_cons_succ]
          rfl
        refine pure_ (i := 11) (N := some 6) (v := ?_) (a' := ?_) #[true, true, true, true, true, true, true, true, true, true, true, true, false] rfl rfl (by kernel_rfl) (fun _ _ _ h => h) (Or.inl ⟨by rfl, ?_⟩) ?_ ?_
        rotate_left
        · intro w'
          go_simp
          with_reducible rfl
        rotate_left
        · simp only [Act.put, List.setIfInBounds_toArray, List.set_cons_zero, List.set_cons_succ, i64_w, i32_w]
          rfl
        refine last_ (i := 12) (N := none) #[true, true, true, true, true, true, true, true, true, true, true, true, true] rfl rfl (by kernel_rfl) (by decide) (fun K hK => ?_)
        have y0' := X7.out.1.cell 0
        have y1' := X7.out.1.cell 1
        have z0' := X7.out.1.frozen 0
        have z1' := X7.out.1.frozen 1
        have hpl := X7.out.1.lt
        refine skip_ (w1 := ?_) (by rfl) rfl ?_ ?_
        rotate_left
        · go_simp
          rfl
        refine hK.out _ _ ?_
        clear hK K
        refine done_ (by kernel_rfl) ?_
        have h4 := set2 X7.out.1 (.int .i64 fa) (.int .i64 fc)
        have hk10 : Kept w1 _ (fun k => k = tb) := K7.out.1.then_ h4.2 (fun i h => .inr (by have := X7.out.2; omega))
        have hp7b : ¬ p7 = tb := by have := X7.out.2; omega
        have ht10 := K7.out.2.2.kept h4.2 (fun e => hp7b e.symm) (NoT.one X7.out.1 (by decide))
        have hr10 := K7.out.2.1.kept h4.2 (NoT.one X7.out.1 (by decide)) (NoT.one X7.out.1 (by decide))
        have HX10 := Lib.hid (HX2.out.kept hk10 hbt)
        have HZ10 := Lib.hid (HZ2.out.kept hk10 hbz)
        generalize (w7.setCell ⟨p7, 0, none⟩ (.int .i64 fa)).setCell ⟨p7, 1, none⟩ (.int .i64 fc) = w10 at *
        have g0 := h4.1.cell 0
        have g1 := h4.1.cell 1
        have v0 := HX10.out.cell 0
        have v1 := HX10.out.cell 1
        have HP10 := Lib.hid (HP1.out.putR hk10 ht10)
        have HR10 := Lib.hid hr10
        have HK10 := Lib.hid hk10
        have z0 := HZ10.out.cell 0
        have z1 := HZ10.out.cell 1
        have z2 := HZ10.out.cell 2
        have z3 := HZ10.out.cell 3
        have z4 := HZ10.out.cell 4
        have f0 := HZ10.out.frozen 0
        have f1 := HZ10.out.frozen 1
        have f2 := HZ10.out.frozen 2
        have f3 := HZ10.out.frozen 3
        have f4 := HZ10.out.frozen 4
        have hzl := HZ10.out.lt
        clear h4 hk10 ht10 hr10
        go_wp2
        have h5 := set5' HZ10.out (.int .i64 r.client) (.int .i64 r.seq) (.slice A7 n7 c7) (.int .i64 fa) (.int .i64 fc)
        generalize (((((w10.setCell ⟨w.heap.size + 1, 0, none⟩ (.int .i64 r.client)).setCell ⟨w.heap.size + 1, 1, none⟩ (.int .i64 r.seq)).setCell ⟨w.heap.size + 1, 2, none⟩ (.slice A7 n7 c7)).setCell ⟨w.heap.size + 1, 3, none⟩ (.int .i64 fa)).setCell ⟨w.heap.size + 1, 4, none⟩ (.int .i64 fc)) = w12 at *
        have hrw := HR10.out.kept h5.2 (NoT.one HZ10.out (by decide)) (NoT.one HZ10.out (by decide))
        have hM12 : MemAt w12 (Foot g tb vo vw vl vt) g m := by
          have h9 : MemAt w10 (Foot g tb vo vw vl vt) g { m with rows := rows' } := ⟨_, _, _, _, _, _, _, HP10.out, rfl⟩
          rw [← HRO.out] at h9
          exact MemAt.kept (show MemAt w10 _ g m from h9) h5.2 (fun k hf e => by have := HM.out.flt k hf; omega) ⟨NoT.one HZ10.out (by decide), NoT.one HZ10.out (by decide), NoT.one HZ10.out (by decide)⟩
        have hK12 : Kept w w12 (Foot g tb vo vw vl vt) := ((Kept.of_below B1'.out _).trans (HK10.out.mono (fun k _ e => .inr (.inl e)))).then_ h5.2 (fun i e => .inr (by omega))
        have d0 := h5.1.cell 0
        have d1 := h5.1.cell 1
        have d2 := h5.1.cell 2
        have d3 := h5.1.cell 3
        have d4 := h5.1.cell 4
        refine bodyPost_ret (v := .tuple #[.agg #[.int .i64 r.client, .int .i64 r.seq, .slice A7 n7 c7, .int .i64 fa, .int .i64 fc], .int .i64 0]) ?_ rfl ⟨⟨r.client, r.seq, A7, n7, c7, fa, fc⟩, by rw [HQ.out]; rfl, (fun _ => by rw [HREP.out]; exact ⟨rfl, rfl, rfl, rfl, hrw⟩), _, hM12, hK12, fun k e => .inl e⟩
        simp [results, Tryz.results9, go_sem, d0, d1, d2, d3, d4]
    · rw [if_neg hmay]
      have HQ := Lib.hid (show m.qcode r = 80 by unfold Mem.qcode; rw [HTL.out, if_neg (by decide), if_pos (.inl (by simpa using hmay))])
      clear hmay
      have z0 := HZc.out.cell 0
      have z1 := HZc.out.cell 1
      have z2 := HZc.out.cell 2
      have z3 := HZc.out.cell 3
      have z4 := HZc.out.cell 4
      have f0 := HZc.out.frozen 0
      have f1 := HZc.out.frozen 1
      have f2 := HZc.out.frozen 2
      have f3 := HZc.out.frozen 3
      have f4 := HZc.out.frozen 4
      have hzl := HZc.out.lt
      go_wp2
      have h5 := set5' HZc.out (.int .i64 0) (.int .i64 0) (.slice none 0 0) (.int .i64 0) (.int .i64 0)
      have hB5 := BC.out.trans (h5.2.below BC.out.size (fun k hk e => by omega))
      generalize (((((wc.setCell ⟨w.heap.size + 1, 0, none⟩ (.int .i64 0)).setCell ⟨w.heap.size + 1, 1, none⟩ (.int .i64 0)).setCell ⟨w.heap.size + 1, 2, none⟩ (.slice none 0 0)).setCell ⟨w.heap.size + 1, 3, none⟩ (.int .i64 0)).setCell ⟨w.heap.size + 1, 4, none⟩ (.int .i64 0)) = w5 at *
      have g0 := h5.1.cell 0
      have g1 := h5.1.cell 1
      have g2 := h5.1.cell 2
      have g3 := h5.1.cell 3
      have g4 := h5.1.cell 4
      refine bodyPost_ret (v := .tuple #[.agg #[.int .i64 0, .int .i64 0, .slice none 0 0, .int .i64 0, .int .i64 0], .int .i64 80]) ?_ rfl ⟨⟨0, 0, none, 0, 0, 0, 0⟩, by rw [HQ.out]; rfl, (fun e => by rw [HQ.out] at e; cases e), MPost.mk0 HM.out hB5⟩
      simp [results, Tryz.results9, go_sem, g0, g1, g2, g3, g4]
end Go.Proofs.YtdfdlajfjcakaaaGreat
