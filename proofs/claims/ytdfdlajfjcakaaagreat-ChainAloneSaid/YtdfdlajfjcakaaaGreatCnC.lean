import Derived.Test.YtdfdlajfjcakaaaGreatCnB
namespace Go.Proofs.YtdfdlajfjcakaaaGreat
open Go Go.RowKit
open Go.Proofs.YtdfdlajfjcakaaaGreatW.PrintLast
set_option linter.unusedVariables false
set_option linter.unusedSimpArgs false
set_option maxRecDepth 100000

/-! Do. -/
theorem runT_cons (many : Bool) (x : OpT) (xs : List OpT) (i : Int) (out : List ResT) (l : List RowT) : runT many (x :: xs) i out l = if (oneT l x).1.code ≠ 0 ∧ many = true then (([], i, (oneT l x).1.code), none) else runT many xs (i + 1) (out ++ [(oneT l x).1]) (oneT l x).2 := rfl
theorem set2 {w : World} {b ty : Nat} {a0 a1 : Value} (h : Blk w b ty #[a0, a1]) (x0 x1 : Value) : Blk ((w.setCell ⟨b, 0, none⟩ x0).setCell ⟨b, 1, none⟩ x1) b ty #[x0, x1] ∧ Kept w ((w.setCell ⟨b, 0, none⟩ x0).setCell ⟨b, 1, none⟩ x1) (fun k => k = b) := by
  refine ⟨?_, ((Kept.refl w fun k => k = b).setCell (p := ⟨b, 0, none⟩) (.inl rfl) x0).setCell (p := ⟨b, 1, none⟩) (.inl rfl) x1⟩
  have := (h.set_ 0 x0).set_ 1 x1
  simpa using this
set_option maxHeartbeats 8000000 in
theorem tab_do (g : Nat) (l : List RowT) (xs : List OpT) (v : Value) (w : World) (h : TabAt w g l) (hr : RowsOk l) (hv : SegG w OpT.cells v xs) (hm : ∀ x ∈ xs, opMay x = true) (h1 : 1 ≤ xs.length) (h2 : xs.length ≤ 32) :
    Calls Tryz.prog 20 #[.pointer (some ⟨g, 0, none⟩), v] w fun e w' => ∃ rv, e = .returned (.tuple #[rv, .agg #[.int .i64 (doT l xs).1.2.1, .int .i64 (doT l xs).1.2.2]]) ∧ ResL w' rv (doT l xs).1.1 ∧ TabAt w' g (doT l xs).2 ∧ Kept w w' (fun k => k = g) := by
  obtain ⟨A, c, rfl, hc, hcm⟩ := hv.shape
  have HB0 := Lib.hid ((Below.refl w.heap.size w).alloc (Nat.le_refl _) (.cells #[.int .i64 0, .int .i64 0] 32))
  have HF0 := Lib.hid (Blk.new w 32 #[.int .i64 0, .int .i64 0])
  have hs0 : (w.alloc (.cells #[.int .i64 0, .int .i64 0] 32)).heap.size = w.heap.size + 1 := World.size_alloc ..
  have hidx := do_index _ xs _ (hv.below HB0.out) (by omega) hm
  have HV := Lib.hid hv
  have HM := Lib.hid hm
  have HT := Lib.hid h
  have HR := Lib.hid hr
  have hgl := h.lt
  obtain ⟨n, HN⟩ : ∃ n, Hid (xs.length = n) := ⟨_, Lib.hid rfl⟩
  obtain ⟨R, HRR⟩ : ∃ R, Hid (runT (decide (1 < xs.length)) xs 0 [] l = R) := ⟨_, Lib.hid rfl⟩
  have HE1 := Lib.hid (show (doT l xs).1 = R.1 by unfold doT; rw [HRR.out])
  have HE2 := Lib.hid (show (doT l xs).2 = R.2.getD l by unfold doT; rw [HRR.out])
  rw [HN.out] at HV HRR hidx h1 h2
  have q1 : (decide ((n : Int) < 1)) = false := decide_eq_false (by omega)
  have q2 : (decide ((32 : Int) < (n : Int))) = false := decide_eq_false (by omega)
  clear h hr hv hm hc hcm
  rw [HN.out]
  go_enter Tryz.func20, Tryz.ntmps20
  go_wp2_with (fail)
  generalize (w.alloc (.cells #[.int .i64 0, .int .i64 0] 32)) = wa at *
  refine hidx.mono ?_
  rintro e w1 ⟨rfl, hb1⟩
  have HB1 := Lib.hid (HB0.out.trans (hb1.mono (by omega)))
  have HF1 := Lib.hid (HF0.out.kept (Kept.of_below hb1 fun _ => False) (fun h => h))
  have hfk := tab_fork g l w1 (HT.out.below HB1.out) (by have := HR.out.few; omega)
  clear hidx hb1 HB0 HF0 hs0
  go_wp2_with (fail)
  refine hfk.mono ?_
  rintro e w2 ⟨gu, rfl, hgu, hu2, hb2⟩
  have HB2 := Lib.hid (HB1.out.trans (hb2.mono HB1.out.size))
  have HF2 := Lib.hid (HF1.out.kept (Kept.of_below hb2 fun _ => False) (fun h => h))
  have HU2 := Lib.hid hu2
  have hgu0 : w.heap.size ≤ gu := Nat.le_trans HB1.out.size hgu
  have hguf : w.heap.size < gu := Nat.lt_of_lt_of_le HF1.out.lt hgu
  clear hfk hu2 hb2 hgu HB1 HF1 q1 q2
  go_wp2_with (fail)
  go_loopg [8, 9, 10, 11, 31] n (fun gg s8 _ _ _ s31 wr => ∃ (i : Nat) (out : List ResT) (lu : List RowT), i ≤ n ∧ out.length = i ∧ n - i ≤ gg ∧ s31 = .int .i64 i ∧ Hid (OutR wr w.heap.size s8 out) ∧ Hid (TabAt wr gu lu) ∧ Hid (RowsOk lu) ∧ Hid (Below w.heap.size w wr) ∧ Hid (Blk wr w.heap.size 32 #[.int .i64 0, .int .i64 0]) ∧ Hid (runT (decide (1 < n)) (xs.drop i) (i : Int) out lu = R))
  case atStart => exact ⟨0, [], l, by omega, rfl, by omega, rfl, Lib.hid ⟨[], Row.nil_ .., fun k e => by simp [Value.ownBlock] at e, rfl, fun i r h => by simp at h⟩, HU2, HR, HB2, HF2, HRR⟩
  case round =>
    obtain ⟨i, out, lu, hi, hol, hgg, rfl, HO, HU, HL, HB, HF, HRi⟩ := hrel
    by_cases hlt : i < n
    · have hz : (i : Int) < (n : Int) := by omega
      have hi0 : (0 : Int) ≤ (i : Int) := by omega
      have hil : i < xs.length := by have := HN.out; omega
      have hw5 : IntKind.i64.wrap ((i : Int) + 1) = ((i + 1 : Nat) : Int) := by rw [IntKind.wrap_i64]; omega
      have HRi2 := HRi.out
      rw [List.drop_eq_getElem_cons hil, runT_cons] at HRi2
      obtain ⟨ad, rfl, x0, x1, x2, x3, x4, x5⟩ := opT_at (HV.out.below HB.out) hil
      have hmi := HM.out _ (List.getElem_mem hil)
      generalize xs[i] = x at x0 x1 x2 x3 x4 x5 hmi HRi2
      have HRj := Lib.hid HRi2
      have HMI := Lib.hid hmi
      have HBA := Lib.hid (HB.out.alloc HB.out.size (.cells #[.int .i64 x.kind, .string x.key, .string x.val, .int .i64 x.stamp, .int .i64 x.test, .int .i64 x.most] 85))
      have HBW := Lib.hid ((Below.refl wr.heap.size wr).alloc (Nat.le_refl _) (.cells #[.int .i64 x.kind, .string x.key, .string x.val, .int .i64 x.stamp, .int .i64 x.test, .int .i64 x.most] 85))
      have HX := Lib.hid (Blk.new wr 85 #[.int .i64 x.kind, .string x.key, .string x.val, .int .i64 x.stamp, .int .i64 x.test, .int .i64 x.most])
      have y0 := HX.out.cell 0
      have y1 := HX.out.cell 1
      have y2 := HX.out.cell 2
      have y3 := HX.out.cell 3
      have y4 := HX.out.cell 4
      have y5 := HX.out.cell 5
      have HUA := Lib.hid (HU.out.below HBW.out)
      have HOA := Lib.hid (HO.out.below HBW.out)
      have HFA := Lib.hid (HF.out.alloc (.cells #[.int .i64 x.kind, .string x.key, .string x.val, .int .i64 x.stamp, .int .i64 x.test, .int .i64 x.most] 85))
      have hone := tab_one gu lu x _ HUA.out HL.out (op_may hmi)
      unfold OpT.v at hone
      clear HRi2 hmi
      go_wp2_with (fail)
      generalize (wr.alloc (.cells #[.int .i64 x.kind, .string x.key, .string x.val, .int .i64 x.stamp, .int .i64 x.test, .int .i64 x.most] 85)) = wb at *
      refine hone.mono ?_
      rintro e w3 ⟨rv, rfl, hrv, hu3, hk3⟩
      have hng : NoRows wb (fun k => k = gu) := fun k e cs hcs => by subst e; obtain ⟨v, hb, _⟩ := HUA.out; exact hcs.ne_ hb (by decide) rfl
      have hne : NoRes wb (fun k => k = gu) := fun k e cs hcs => by subst e; obtain ⟨v, hb, _⟩ := HUA.out; exact hcs.ne_ hb (by decide) rfl
      have HO3 := Lib.hid (HOA.out.kept hk3 hng hne)
      have HU3 := Lib.hid hu3
      have HL3 := Lib.hid (oneT_ok HL.out (op_may HMI.out))
      have HB3 := Lib.hid (HBA.out.trans (hk3.below HBA.out.size (fun k hk e => by subst e; omega)))
      have HF3 := Lib.hid (HFA.out.kept hk3 (by omega))
      have HV3 := Lib.hid hrv
      obtain ⟨A3, c3, hrv3, _, _⟩ := hrv.1.shape
      obtain ⟨r, HRX⟩ : ∃ r, Hid ((oneT lu x).1 = r) := ⟨_, Lib.hid rfl⟩
      obtain ⟨lu', HLX⟩ : ∃ r, Hid ((oneT lu x).2 = r) := ⟨_, Lib.hid rfl⟩
      rw [HRX.out] at hrv3 HV3 HRj ⊢
      rw [HLX.out] at HU3 HL3 HRj
      obtain ⟨m3, HM3⟩ : ∃ m, Hid (r.rows.length = m) := ⟨_, Lib.hid rfl⟩
      rw [HM3.out] at hrv3
      subst hrv3
      clear hone hrv hu3 hk3 hng hne x0 x1 x2 x3 x4 x5 y0 y1 y2 y3 y4 y5 HX
      have HBW3 := Lib.hid ((Below.refl w3.heap.size w3).alloc (Nat.le_refl _) (.cells #[.int .i64 r.code, .int .i64 r.stamp, .string r.val, .slice A3 m3 c3] 87))
      have HZ := Lib.hid (Blk.new w3 87 #[.int .i64 r.code, .int .i64 r.stamp, .string r.val, .slice A3 m3 c3])
      have HO4 := Lib.hid (HO3.out.below HBW3.out)
      have HU4 := Lib.hid (HU3.out.below HBW3.out)
      have HV4 := Lib.hid (HV3.out.below HBW3.out)
      have HB4 := Lib.hid (HB3.out.alloc HB3.out.size (.cells #[.int .i64 r.code, .int .i64 r.stamp, .string r.val, .slice A3 m3 c3] 87))
      have HF4 := Lib.hid (HF3.out.alloc (.cells #[.int .i64 r.code, .int .i64 r.stamp, .string r.val, .slice A3 m3 c3] 87))
      clear HO3 HU3 HV3 HF3
      have z0 := HZ.out.cell 0
      have z1 := HZ.out.cell 1
      have z2 := HZ.out.cell 2
      have z3 := HZ.out.cell 3
      by_cases hbad : r.code ≠ 0 ∧ decide (1 < n) = true
      · have HEE := HRj.out
        rw [if_pos hbad] at HEE
        have q3 : (r.code != 0) = true := by simpa using hbad.1
        have q4 : decide ((1 : Int) < (n : Int)) = true := by have := of_decide_eq_true hbad.2; simp; omega
        obtain rfl := HEE
        clear hbad
        have hfl := HF4.out.lt
        have e0 := HF4.out.cell 0
        have e1 := HF4.out.cell 1
        have k0 := HF4.out.frozen 0
        have k1 := HF4.out.frozen 1
        go_wp2_with (fail)
        refine start_ (n := 6) (S := fun w' => w'.cell? ⟨w3.heap.size, 0, none⟩ = some (.int .i64 r.code)) (ds := [5]) #[false, false, false, false, false, false] (by kernel_rfl) rfl rfl (z0) (fun hHeld => ?_)
        refine pure_ (i := 0) (N := some 47) (v := ?_) (a' := ?_) #[true, false, false, false, false, false] rfl rfl (by kernel_rfl) (fun _ _ _ h => h) (Or.inl ⟨by rfl, ?_⟩) ?_ ?_
        rotate_left
        · intro w'
          go_simp
          with_reducible rfl
        rotate_left
        · simp only [Act.put, List.setIfInBounds_toArray, List.set_cons_zero, List.set_cons_succ, i64_w, i32_w]
          rfl
        refine pure_ (i := 1) (N := some 48) (v := ?_) (a' := ?_) #[true, true, false, false, false, false] rfl rfl (by kernel_rfl) (fun _ _ _ h => h) (Or.inl ⟨by rfl, ?_⟩) ?_ ?_
        rotate_left
        · intro w'
          go_simp
          with_reducible rfl
        rotate_left
        · simp only [Act.put, List.setIfInBounds_toArray, List.set_cons_zero, List.set_cons_succ, i64_w, i32_w]
          rfl
        refine pure_ (i := 4) (N := some 4) (v := ?_) (a' := ?_) #[true, true, false, false, true, false] rfl rfl (by kernel_rfl) (fun _ _ _ h => h) (Or.inl ⟨by rfl, ?_⟩) ?_ ?_
        rotate_left
        · intro w'
          go_simp
          with_reducible rfl
        rotate_left
        · simp only [Act.put, List.setIfInBounds_toArray, List.set_cons_zero, List.set_cons_succ, i64_w, i32_w]
          rfl
        refine take_ (i := 2) (N := some 49) (v := ?_) (a' := ?_) #[true, true, true, false, true, false] rfl rfl (by kernel_rfl) (fun _ _ _ h => h) (Or.inl ⟨by rfl, ?_⟩) hHeld ?_ ?_
        rotate_left
        · intro w' s0
          go_simp
          with_reducible rfl
        rotate_left
        · simp only [Act.put, List.setIfInBounds_toArray, List.set_cons_zero, List.set_cons_succ, i64_w, i32_w]
          rfl
        refine pure_ (i := 3) (N := some 50) (v := ?_) (a' := ?_) #[true, true, true, true, true, false] rfl rfl (by kernel_rfl) (fun _ _ _ h => h) (Or.inl ⟨by rfl, ?_⟩) ?_ ?_
        rotate_left
        · intro w'
          go_simp
          with_reducible rfl
        rotate_left
        · simp only [Act.put, List.setIfInBounds_toArray, List.set_cons_zero, List.set_cons_succ, i64_w, i32_w]
          rfl
        refine last_ (i := 5) (N := none) #[true, true, true, true, true, true] rfl rfl (by kernel_rfl) (by decide) (fun K hK => ?_)
        refine skip_ (w1 := ?_) (by rfl) rfl ?_ ?_
        rotate_left
        · go_simp
          rfl
        refine hK.out _ _ ?_
        clear hK K
        refine done_ (by kernel_rfl) ?_
        go_wp2
        have h4 := set2 HF4.out (.int .i64 (i : Int)) (.int .i64 r.code)
        have hb9 := HB4.out.trans (h4.2.below HB4.out.size (fun k hk e => by omega))
        generalize ((w3.alloc (.cells #[.int .i64 r.code, .int .i64 r.stamp, .string r.val, .slice A3 m3 c3] 87)).setCell ⟨w.heap.size, 0, none⟩ (.int .i64 (i : Int))).setCell ⟨w.heap.size, 1, none⟩ (.int .i64 r.code) = w4 at *
        have hb8 := hb9.drew
        have g0 := h4.1.drew.cell 0
        have g1 := h4.1.drew.cell 1
        refine bodyPost_ret (v := .tuple #[.slice none 0 0, .agg #[.int .i64 (i : Int), .int .i64 r.code]]) ?_ rfl ⟨.slice none 0 0, by rw [HE1.out], by rw [HE1.out]; exact ResL.nil _, by rw [HE2.out]; exact HT.out.below hb8, Kept.of_below hb8 _⟩
        simp [results, Tryz.results20, go_sem, g0, g1]
      · have HEE := HRj.out
        rw [if_neg hbad] at HEE
        have HRK := Lib.hid HEE
        clear HEE
        obtain ⟨raw, hrow, hfr, hall⟩ := HO4.out
        obtain ⟨A8, n8, c8, rfl⟩ := hrow.some_slice
        have hrawl : raw.length ≤ 32 := by have := hall.1; omega
        have HROW := Lib.hid (hrow.alloc (.cells #[.int .i64 r.code, .int .i64 r.stamp, .string r.val, .slice A3 m3 c3] 87))
        have HFR := Lib.hid hfr
        have HALL := Lib.hid (AllIs.snoc hall (r := ⟨r.code, r.stamp, r.val, A3, m3, c3⟩) (x := r) ⟨rfl, rfl, rfl, HV4.out⟩)
        have hle := Lib.hid (show (raw.length + 1) * 56 ≤ 140737488355328 by omega)
        clear hrow hfr hall HO4 hrawl
        rcases (show ((r.code != 0) = true ∧ decide ((1 : Int) < (n : Int)) = false) ∨ ((r.code != 0) = false) by
          by_cases h0 : r.code = 0
          · right; simpa using h0
          · left
            have : ¬ 1 < n := fun h => hbad ⟨h0, decide_eq_true h⟩
            exact ⟨by simpa using h0, decide_eq_false (by omega)⟩) with ⟨q3, q4⟩ | q3
        all_goals
          clear hbad
          have HLIT := Lib.hid (news_lit ResW.cells (w3.alloc (.cells #[.int .i64 r.code, .int .i64 r.stamp, .string r.val, .slice A3 m3 c3] 87)) 87 ⟨r.code, r.stamp, r.val, A3, m3, c3⟩ #[.int .i64 r.code, .int .i64 r.stamp, .string r.val, .slice A3 m3 c3] rfl)
          rw [show (w3.alloc (.cells #[.int .i64 r.code, .int .i64 r.stamp, .string r.val, .slice A3 m3 c3] 87)).heap.size = w3.heap.size + 1 from World.size_alloc ..] at HLIT
          have HB6 := Lib.hid (HB4.out.alloc HB4.out.size (.cells #[.int .i64 r.code, .int .i64 r.stamp, .string r.val, .slice A3 m3 c3] 87))
          have HBW6 := Lib.hid ((Below.refl _ (w3.alloc (.cells #[.int .i64 r.code, .int .i64 r.stamp, .string r.val, .slice A3 m3 c3] 87))).alloc (Nat.le_refl _) (.cells #[.int .i64 r.code, .int .i64 r.stamp, .string r.val, .slice A3 m3 c3] 87))
          have HU6 := Lib.hid (HU4.out.below HBW6.out)
          have HF6 := Lib.hid (HF4.out.alloc (.cells #[.int .i64 r.code, .int .i64 r.stamp, .string r.val, .slice A3 m3 c3] 87))
          have HALL6 := Lib.hid (HALL.out.below HBW6.out)
          go_wp2_with (at_builtin; refine Row.append_list (by rfl) (.tmp 51) (.tmp 53) 30 87 (.agg #[.int .i64 0, .int .i64 0, .string ⟨#[]⟩, .slice none 0 0]) 4 56 (by rfl) Tryz.underlying30 info_resW rfl (by decide) (by decide) (.slice A8 n8 c8) raw [⟨r.code, r.stamp, r.val, A3, m3, c3⟩] rfl ⟨w3.heap.size + 1, 0, none⟩ 1 1 rfl HROW.out rfl (fun _ => rfl) HLIT.out one_resW hle.out ?_)
          intro v1 w1 hR hg hat
          have HR1 := Lib.hid hR
          have HG1 := Lib.hid hg
          have HA1 := Lib.hid hat
          clear hR hg hat
          go_wp2
          go_roundg (n - (i + 1))
          case measure => omega
          case rel =>
            have hg := HG1.out
            have hk6 := (Kept.refl _ (fun k => (Value.slice A8 n8 c8).ownBlock = some k)).grown HG1.out (fun k e => .inl e)
            have hnr : NoRows _ (fun k => (Value.slice A8 n8 c8).ownBlock = some k) := fun k e cs hcs => by obtain ⟨cs', h'⟩ := HROW.out.typed e; exact hcs.ne_ h' (by decide) rfl
            exact ⟨i + 1, out ++ [r], lu', by omega, by simp [hol], Nat.le_refl _, by go_num, Lib.hid ⟨_, HR1.out, own_ge2 HA1.out HFR.out (by have := HB4.out.size; rw [World.size_alloc] at this; omega), HALL6.out.kept hk6 hnr⟩,
              Lib.hid (HU6.out.kept hk6 (fun e => by obtain ⟨cs', h'⟩ := HROW.out.typed e; obtain ⟨v, hb, _⟩ := HU6.out; exact h'.ne_ hb (by decide) rfl) hnr), HL3, Lib.hid (HB6.out.grown hg HB6.out.size HFR.out),
              Lib.hid (HF6.out.kept hk6 (fun e => by obtain ⟨cs', h'⟩ := HROW.out.typed e; exact h'.ne_ HF6.out (by decide) rfl)), HRK⟩
    · obtain rfl : i = n := by omega
      have hz : ¬ ((i : Nat) : Int) < (i : Int) := by omega
      have HEE := HRi.out
      rw [List.drop_of_length_le (by have := HN.out; omega)] at HEE
      obtain rfl : ((out, 0, 0), some lu) = R := HEE
      obtain ⟨vu, hub, hus, hut⟩ := HU.out
      obtain ⟨uA, uc, rfl, _, _⟩ := hus.shape
      obtain ⟨raw, hrow, hfr, hall⟩ := HO.out
      obtain ⟨A8, n8, c8, rfl⟩ := hrow.some_slice
      clear hrow hfr hall
      obtain ⟨vg, hgb, _, _⟩ := HT.out.below HB.out
      have u0 := hub.cell 0
      have c0 := hgb.cell 0
      have d0 := hgb.frozen 0
      have e0 := HF.out.cell 0
      have e1 := HF.out.cell 1
      have k0 := HF.out.frozen 0
      have k1 := HF.out.frozen 1
      have l0 := HF.out.lt
      have l1 := hgb.lt
      have HUS := Lib.hid hus
      have HUT := Lib.hid hut
      have HGB := Lib.hid hgb
      clear hub hus hut hgb
      go_wp2
      have hk1 := (Kept.refl wr fun k => k = g).setCell (p := ⟨g, 0, none⟩) (.inl rfl) (.slice uA lu.length uc)
      have hgb1 := HGB.out.set_ 0 (.slice uA lu.length uc)
      have HF1 := HF.out.kept hk1 (by omega)
      have h4 := set2 HF1 (.int .i64 0) (.int .i64 0)
      have hgne : ¬ g = w.heap.size := by omega
      have hgb2 := hgb1.kept h4.2 hgne
      have hK : Kept wr _ (fun k => k = g ∨ k = w.heap.size) := (hk1.mono (fun k _ h => .inl h)).trans (h4.2.mono (fun k _ h => .inr h))
      generalize ((wr.setCell ⟨g, 0, none⟩ (.slice uA lu.length uc)).setCell ⟨w.heap.size, 0, none⟩ (.int .i64 0)).setCell ⟨w.heap.size, 1, none⟩ (.int .i64 0) = w4 at *
      have hn1 : NoRows wr (fun k => k = g ∨ k = w.heap.size) := fun k e cs hcs => by
        rcases e with e | e <;> subst e
        · exact hcs.ne_ HGB.out (by decide) rfl
        · exact hcs.ne_ HF.out (by decide) rfl
      have hn2 : NoRes wr (fun k => k = g ∨ k = w.heap.size) := fun k e cs hcs => by
        rcases e with e | e <;> subst e
        · exact hcs.ne_ HGB.out (by decide) rfl
        · exact hcs.ne_ HF.out (by decide) rfl
      have g0 := h4.1.cell 0
      have g1 := h4.1.cell 1
      have hrv : RowsV w4 (.slice uA lu.length uc) lu := RowsV.kept ⟨HUS.out, HUT.out⟩ hK hn1
      refine bodyPost_ret (v := .tuple #[.slice A8 n8 c8, .agg #[.int .i64 0, .int .i64 0]]) ?_ rfl ⟨.slice A8 n8 c8, by rw [HE1.out], by rw [HE1.out]; exact (HO.out.kept hK hn1 hn2).res, by rw [HE2.out]; exact ⟨_, hgb2, hrv.1, hrv.2⟩, (Kept.of_below HB.out _).then_ hK (fun i h => h.elim .inl (fun h => .inr (by omega)))⟩
      simp [results, Tryz.results20, go_sem, g0, g1]
end Go.Proofs.YtdfdlajfjcakaaaGreat
