import Derived.Test.YtdfdlajfjcakaaaGreatCnL
namespace Go.Proofs.YtdfdlajfjcakaaaGreat
open Go Go.RowKit
open Go.Proofs.YtdfdlajfjcakaaaGreatW.PrintLast
open Go.Proofs.YtdfdlajfjcakaaaGreat.PAll (S136 fN fT)
set_option linter.unusedVariables false
set_option linter.unusedSimpArgs false
set_option maxRecDepth 100000

/-! Tick, Letters, Replies, State, New. -/
def dnLs (to_ ep : Int) : List (ReqT × RepT) → Int → List LetT
  | [], _ => []
  | x :: l, n => ⟨to_, bytesF (dnF ep n (encR x.1).1)⟩ :: dnLs to_ ep l (n + 1)
theorem dnLs_snoc (to_ ep : Int) : ∀ (l : List (ReqT × RepT)) (x : ReqT × RepT) (n : Int), dnLs to_ ep (l ++ [x]) n = dnLs to_ ep l n ++ [⟨to_, bytesF (dnF ep (n + l.length) (encR x.1).1)⟩]
  | [], x, n => by simp [dnLs]
  | y :: l, x, n => by
    simp only [List.cons_append, dnLs, List.length_cons]
    rw [dnLs_snoc to_ ep l x (n + 1), show n + 1 + (l.length : Int) = n + ((l.length + 1 : Nat) : Int) by omega]
def Mem.ticked (m : Mem) (i : Nat) : Mem := { m with out := m.out ++ (if m.nb 1 = -1 then [] else dnLs (m.nb 1) m.epoch (m.way.take i) (m.behind + 1)) }
theorem Mem.ticked_zero (m : Mem) : m.ticked 0 = m := by
  unfold Mem.ticked
  rw [List.take_zero]
  cases m
  simp [dnLs]
theorem Mem.ticked_succ (m : Mem) (i : Nat) (hi : i < m.way.length) : (m.ticked i).dnd (m.behind + 1 + (i : Int)) m.way[i].1 = m.ticked (i + 1) := by
  have e : m.way.take (i + 1) = m.way.take i ++ [m.way[i]] := by rw [List.take_add_one, List.getElem?_eq_getElem hi]; rfl
  have hl : (m.way.take i).length = i := by rw [List.length_take]; omega
  unfold Mem.dnd Mem.sent
  have hnb : (m.ticked i).nb 1 = m.nb 1 := rfl
  rw [hnb]
  by_cases h : m.nb 1 = -1
  · rw [if_pos h]
    unfold Mem.ticked
    rw [if_pos h, if_pos h]
  · rw [if_neg h]
    unfold Mem.ticked
    rw [if_neg h, if_neg h, e, dnLs_snoc, hl]
    simp [List.append_assoc]
def Mem.tick (m : Mem) : Mem := m.ticked (min 8 m.way.length)
set_option maxHeartbeats 8000000 in
theorem tick_calls {w : World} {F : Nat → Prop} {g : Nat} {m : Mem} (h : MemAt w F g m) (hok : m.Ok) (hs : ∀ x ∈ m.way, (encR x.1).1.size ≤ 60000) :
    Calls Tryz.prog 22 #[.pointer (some ⟨g, 0, none⟩)] w fun e w' => e = .returned (.tuple #[]) ∧ MPost w F g m.tick w' := by
  obtain ⟨tb, vo, vw, vl, vt, rw_, rt, h, rfl⟩ := h
  obtain ⟨A, c, hv⟩ := h.r.shape
  subst hv
  have c5 := h.b.cell 5
  have hgl := h.b.lt
  have hrl := h.ri.1
  have hcap := h.r.cap
  have HS := Lib.hid hs
  have HOK := Lib.hid hok
  have H := Lib.hid h
  obtain ⟨n, HN⟩ : ∃ n, Hid (rw_.length = n) := ⟨_, Lib.hid rfl⟩
  obtain ⟨bh, HBH⟩ : ∃ n, Hid (m.behind = n) := ⟨_, Lib.hid rfl⟩
  have hwl := hok.way
  rw [HN.out] at c5 hrl hcap H
  obtain ⟨k, hk⟩ : ∃ k : Nat, min 8 n = k := ⟨_, rfl⟩
  have HKN := Lib.hid (show k ≤ n from by omega)
  have HT := Lib.hid (show m.tick = m.ticked k by unfold Mem.tick; rw [← hrl, hk])
  have q8 : min (8 : Int) (n : Int) = (k : Int) := by omega
  have q0 : (0 : Int) ≤ (k : Int) := by omega
  have q1 : (k : Int) ≤ (c : Int) := by omega
  have HRL := Lib.hid hrl
  have hk8 : k ≤ 8 := by omega
  have hA0 := map_add0 A
  have PRE := Lib.hid (fun W (hr : Row W 95 8 UndW.cells (.slice A n c) rw_) => (SegG.of_row hr).prefix_ k c (by rw [HN.out]; exact HKN.out) (by omega) (by simp only [maxLen]; omega))
  clear h hrl hk hs hok hcap hwl
  rw [HN.out]
  go_enter Tryz.func22, Tryz.ntmps22
  go_wp2_with (fail)
  go_quiet (fail)
  have H1 := Lib.hid (H.out.below (below_drewN (Below.refl w.heap.size w) nq))
  have B1 := Lib.hid (below_drewN (Below.refl w.heap.size w) nq)
  generalize w.drewN nq = w1 at *
  go_wp2_with (fail)
  go_loopg [2, 3, 18] k (fun gg _ _ s18 wr => ∃ (i : Nat) (vl' : Value), i ≤ k ∧ k - i ≤ gg ∧ s18 = .int .i64 i ∧ Hid (MemP wr g (m.ticked i) tb vo (.slice A n c) vl' vt rw_ rt) ∧ Hid (Kept w wr (fun k => k = g ∨ vl.ownBlock = some k)) ∧ Hid (∀ k, vl'.ownBlock = some k → vl.ownBlock = some k ∨ w.heap.size ≤ k))
  case atStart => exact ⟨0, vl, by omega, by omega, by go_num, Lib.hid (by rw [Mem.ticked_zero]; exact H1.out), Lib.hid (Kept.of_below B1.out _), Lib.hid (fun k e => .inl e)⟩
  case round =>
    obtain ⟨i, vl', hi, hgg, rfl, HP, HK, HF⟩ := hrel
    by_cases hlt : i < k
    · have hz : (i : Int) < (k : Int) := by omega
      have hi0 : (0 : Int) ≤ (i : Int) := by omega
      have hil : i < rw_.length := by have := HN.out; have := HKN.out; omega
      have hil2 : i < m.way.length := by have := HRL.out; have := HKN.out; omega
      have hilt : i < (rw_.take k).length := by rw [List.length_take]; omega
      have hw5 : IntKind.i64.wrap ((i : Int) + 1) = ((i + 1 : Nat) : Int) := by rw [IntKind.wrap_i64]; omega
      have HUI := Lib.hid (HP.out.ri.at i hil hil2)
      have hseg := PRE.out wr HP.out.r
      obtain ⟨ad, rfl, x0, x1, x2, x3, x4, x5, x6, x7⟩ := und_at hseg hilt
      rw [List.getElem_take] at x0 x1 x2 x3 x4 x5 x6 x7
      have HSI := Lib.hid (HS.out _ (List.getElem_mem hil2))
      have HTS := Lib.hid (m.ticked_succ i hil2)
      obtain ⟨x, HX⟩ : ∃ x, Hid (m.way[i] = x) := ⟨_, Lib.hid rfl⟩
      replace HUI := Lib.hid (show UndIs wr rw_[i] m.way[i] from HUI.out)
      rw [HX.out] at HUI HSI HTS
      generalize rw_[i] = u at x0 x1 x2 x3 x4 x5 x6 x7 HUI
      have BA := Lib.hid ((Below.refl wr.heap.size wr).alloc (Nat.le_refl _) (.cells #[.int .i64 u.client, .int .i64 u.seq, .slice u.A u.n u.c, .int .i64 u.p.client, .int .i64 u.p.seq, .slice u.p.A u.p.n u.p.c, .int .i64 u.p.at_, .int .i64 u.p.code] 95))
      have HXB := Blk.new wr 95 #[.int .i64 u.client, .int .i64 u.seq, .slice u.A u.n u.c, .int .i64 u.p.client, .int .i64 u.p.seq, .slice u.p.A u.p.n u.p.c, .int .i64 u.p.at_, .int .i64 u.p.code]
      have z0 := HXB.cell 0
      have z1 := HXB.cell 1
      have z2 := HXB.cell 2
      have hPA := HP.out.below BA.out
      have c4 := hPA.b.cell 4
      rw [show (m.ticked i).behind = bh from HBH.out] at c4
      have hbr := HOK.out.behind
      rw [HBH.out] at hbr HTS
      have hw1 : IntKind.i64.wrap (bh + 1) = bh + 1 := by rw [IntKind.wrap_i64]; omega
      have hw2 : IntKind.i64.wrap (bh + 1 + (i : Int)) = bh + 1 + (i : Int) := by rw [IntKind.wrap_i64]; omega
      have hout : (m.ticked i).out.length ≤ 1000000 := by
        have h9 : ∀ (l : List (ReqT × RepT)) (n : Int), (dnLs (m.nb 1) m.epoch l n).length = l.length := by
          intro l
          induction l with
          | nil => intro n; rfl
          | cons y l ih => intro n; simp [dnLs, ih]
        have := HOK.out.out
        unfold Mem.ticked
        simp only [List.length_append]
        split
        · simp only [List.length_nil]; omega
        · rw [h9, List.length_take]; omega
      obtain ⟨hu1, hu2, hu3, _⟩ := HUI.out
      have HDW := Lib.hid (fun W (hb : Below (wr.alloc (.cells #[.int .i64 u.client, .int .i64 u.seq, .slice u.A u.n u.c, .int .i64 u.p.client, .int .i64 u.p.seq, .slice u.p.A u.p.n u.p.c, .int .i64 u.p.at_, .int .i64 u.p.code] 95)).heap.size (wr.alloc (.cells #[.int .i64 u.client, .int .i64 u.seq, .slice u.A u.n u.c, .int .i64 u.p.client, .int .i64 u.p.seq, .slice u.p.A u.p.n u.p.c, .int .i64 u.p.at_, .int .i64 u.p.code] 95)) W) => down_P (hPA.below hb) (bh + 1 + (i : Int)) x.1 (.slice u.A u.n u.c) ((hu3.1.below BA.out).below hb) HSI.out HOK.out.order HOK.out.e63 ⟨by omega, by omega⟩ hout)
      unfold ReqT.v at HDW
      rw [← hu1, ← hu2, HTS.out] at HDW
      clear hPA HXB hseg hu1 hu2 hu3 hout hbr hilt
      go_wp2_with (fail)
      generalize (wr.alloc (.cells #[.int .i64 u.client, .int .i64 u.seq, .slice u.A u.n u.c, .int .i64 u.p.client, .int .i64 u.p.seq, .slice u.p.A u.p.n u.p.c, .int .i64 u.p.at_, .int .i64 u.p.code] 95)) = wa at *
      refine start_ (n := 12) (S := fun w' => w'.cell? ⟨g, 4, none⟩ = some (.int .i64 bh) ∧ w'.cell? ⟨wr.heap.size, 0, none⟩ = some (.int .i64 u.client) ∧ w'.cell? ⟨wr.heap.size, 1, none⟩ = some (.int .i64 u.seq) ∧ w'.cell? ⟨wr.heap.size, 2, none⟩ = some (.slice u.A u.n u.c)) (ds := [11]) #[false, false, false, false, false, false, false, false, false, false, false, false] (by kernel_rfl) rfl rfl ⟨c4, z0, z1, z2⟩ (fun hHeld => ?_)
      refine pure_ (i := 0) (N := some 23) (v := ?_) (a' := ?_) #[true, false, false, false, false, false, false, false, false, false, false, false] rfl rfl (by kernel_rfl) (fun _ _ _ h => h) (Or.inl ⟨by rfl, ?_⟩) ?_ ?_
      rotate_left
      · intro w'
        go_simp
        with_reducible rfl
      rotate_left
      · simp only [Act.put, List.setIfInBounds_toArray, List.set_cons_zero, List.set_cons_succ, i64_w, i32_w]
        rfl
      refine pure_ (i := 1) (N := some 24) (v := ?_) (a' := ?_) #[true, true, false, false, false, false, false, false, false, false, false, false] rfl rfl (by kernel_rfl) (fun _ _ _ h => h) (Or.inl ⟨by rfl, ?_⟩) ?_ ?_
      rotate_left
      · intro w'
        go_simp
        with_reducible rfl
      rotate_left
      · simp only [Act.put, List.setIfInBounds_toArray, List.set_cons_zero, List.set_cons_succ, i64_w, i32_w]
        rfl
      refine pure_ (i := 2) (N := some 25) (v := ?_) (a' := ?_) #[true, true, true, false, false, false, false, false, false, false, false, false] rfl rfl (by kernel_rfl) (fun _ _ _ h => h) (Or.inl ⟨by rfl, ?_⟩) ?_ ?_
      rotate_left
      · intro w'
        go_simp
        with_reducible rfl
      rotate_left
      · simp only [Act.put, List.setIfInBounds_toArray, List.set_cons_zero, List.set_cons_succ, i64_w, i32_w]
        rfl
      refine pure_ (i := 3) (N := some 26) (v := ?_) (a' := ?_) #[true, true, true, true, false, false, false, false, false, false, false, false] rfl rfl (by kernel_rfl) (fun _ _ _ h => h) (Or.inl ⟨by rfl, ?_⟩) ?_ ?_
      rotate_left
      · intro w'
        go_simp
        with_reducible rfl
      rotate_left
      · simp only [Act.put, List.setIfInBounds_toArray, List.set_cons_zero, List.set_cons_succ, i64_w, i32_w]
        rfl
      refine pure_ (i := 4) (N := some 27) (v := ?_) (a' := ?_) #[true, true, true, true, true, false, false, false, false, false, false, false] rfl rfl (by kernel_rfl) (fun _ _ _ h => h) (Or.inl ⟨by rfl, ?_⟩) ?_ ?_
      rotate_left
      · intro w'
        go_simp
        with_reducible rfl
      rotate_left
      · simp only [Act.put, List.setIfInBounds_toArray, List.set_cons_zero, List.set_cons_succ, i64_w, i32_w]
        rfl
      refine pure_ (i := 7) (N := some 30) (v := ?_) (a' := ?_) #[true, true, true, true, true, false, false, true, false, false, false, false] rfl rfl (by kernel_rfl) (fun _ _ _ h => h) (Or.inl ⟨by rfl, ?_⟩) ?_ ?_
      rotate_left
      · intro w'
        go_simp
        with_reducible rfl
      rotate_left
      · simp only [Act.put, List.setIfInBounds_toArray, List.set_cons_zero, List.set_cons_succ, i64_w, i32_w]
        rfl
      refine pure_ (i := 9) (N := some 32) (v := ?_) (a' := ?_) #[true, true, true, true, true, false, false, true, false, true, false, false] rfl rfl (by kernel_rfl) (fun _ _ _ h => h) (Or.inl ⟨by rfl, ?_⟩) ?_ ?_
      rotate_left
      · intro w'
        go_simp
        with_reducible rfl
      rotate_left
      · simp only [Act.put, List.setIfInBounds_toArray, List.set_cons_zero, List.set_cons_succ, i64_w, i32_w]
        rfl
      refine take_ (i := 5) (N := some 28) (v := ?_) (a' := ?_) #[true, true, true, true, true, true, false, true, false, true, false, false] rfl rfl (by kernel_rfl) (fun _ _ _ h => h) (Or.inl ⟨by rfl, ?_⟩) hHeld ?_ ?_
      rotate_left
      · rintro w' ⟨s0, s1, s2, s3⟩
        go_simp
        with_reducible rfl
      rotate_left
      · simp only [Act.put, List.setIfInBounds_toArray, List.set_cons_zero, List.set_cons_succ, i64_w, i32_w]
        rfl
      refine pure_ (i := 6) (N := some 29) (v := ?_) (a' := ?_) #[true, true, true, true, true, true, true, true, false, true, false, false] rfl rfl (by kernel_rfl) (fun _ _ _ h => h) (Or.inl ⟨by rfl, ?_⟩) ?_ ?_
      rotate_left
      · intro w'
        go_simp
        with_reducible rfl
      rotate_left
      · simp only [Act.put, List.setIfInBounds_toArray, List.set_cons_zero, List.set_cons_succ, i64_w, i32_w]
        rfl
      refine pure_ (i := 8) (N := some 31) (v := ?_) (a' := ?_) #[true, true, true, true, true, true, true, true, true, true, false, false] rfl rfl (by kernel_rfl) (fun _ _ _ h => h) (Or.inl ⟨by rfl, ?_⟩) ?_ ?_
      rotate_left
      · intro w'
        go_simp
        with_reducible rfl
      rotate_left
      · simp only [Act.put, List.setIfInBounds_toArray, List.set_cons_zero, List.set_cons_succ, i64_w, i32_w]
        rfl
      refine take_ (i := 10) (N := some 33) (v := ?_) (a' := ?_) #[true, true, true, true, true, true, true, true, true, true, true, false] rfl rfl (by kernel_rfl) (fun _ _ _ h => h) (Or.inl ⟨by rfl, ?_⟩) hHeld ?_ ?_
      rotate_left
      · rintro w' ⟨s0, s1, s2, s3⟩
        go_simp
        with_reducible rfl
      rotate_left
      · simp only [Act.put, List.setIfInBounds_toArray, List.set_cons_zero, List.set_cons_succ, i64_w, i32_w]
        rfl
      refine last_ (i := 11) (N := some 34) #[true, true, true, true, true, true, true, true, true, true, true, true] rfl rfl (by kernel_rfl) (by decide) (fun K hK => ?_)
      refine goes_ Tryz.func51 (by kernel_rfl) rfl #[.pointer (some ⟨g, 0, none⟩), .int .i64 (bh + 1 + (i : Int)), .agg #[.int .i64 u.client, .int .i64 u.seq, .slice u.A u.n u.c]] (by rfl) rfl rfl (by simp only [List.map_toArray, List.map_cons, List.map_nil]; rfl) ?_
      with_reducible refine (HDW.out _ (Below.refl _ wa).drew).mono ?_
      rintro e w7 ⟨rfl, h7⟩
      have H7 := Lib.hid h7
      clear h7
      refine ⟨_, rfl, ?_⟩
      refine hK.out _ _ ?_
      clear hK K
      refine norm_ (a' := ?_) ?_ ?_
      rotate_left
      · show Act.put _ (some 34) _ = _
        simp only [Act.put, List.setIfInBounds_toArray, List.set_cons_zero, List.set_cons_succ, i64_w, i32_w]
        rfl
      refine done_ (by kernel_rfl) ?_
      go_wp2
      obtain ⟨vl2, hp2, hk2, hf2⟩ := OPost.from_ (BA.out.trans ((Below.refl _ wa).drew.mono BA.out.size)) H7.out
      go_roundg (k - (i + 1))
      case measure => omega
      case rel =>
        refine ⟨i + 1, vl2, by omega, Nat.le_refl _, by go_num, Lib.hid hp2, Lib.hid (HK.out.then_ hk2 (fun k e => ?_)), Lib.hid (fun k e => ?_)⟩
        · rcases e with e | e
          · exact .inl (.inl e)
          · rcases HF.out k e with e | e
            · exact .inl (.inr e)
            · exact .inr e
        · rcases hf2 k e with e | e
          · exact HF.out k e
          · exact .inr (Nat.le_trans HK.out.size e)
    · obtain rfl : i = k := by omega
      have hz : ¬ ((i : Nat) : Int) < (i : Int) := by omega
      go_wp2
      go_end0
      refine ⟨rfl, ?_⟩
      rw [HT.out]
      exact OPost.mpost ⟨vl', HP.out, HK.out, HF.out⟩
section
variable {w : World} {F : Nat → Prop} {g : Nat} {m : Mem}
theorem state_calls (h : MemAt w F g m) (hok : m.Ok) :
    Calls Tryz.prog 13 #[.pointer (some ⟨g, 0, none⟩)] w fun e w' => e = .returned (.tuple #[.int .i64 m.epoch, .int .i64 m.place, .int .i64 m.behind, .int .i64 m.done]) ∧ Below w.heap.size w w' := by
  have HPL := Lib.hid (fun W (hb : Below w.heap.size w W) => place_calls (h.below hb) hok.order)
  have HLA := Lib.hid (fun W (hb : Below w.heap.size w W) => last_calls (h.below hb) hok.bb hok.ww)
  obtain ⟨tb, vo, vw, vl, vt, rw_, rt, h, rfl⟩ := h
  have c1 := h.b.cell 1
  have c4 := h.b.cell 4
  have hgl := h.b.lt
  obtain ⟨ep, HEP⟩ : ∃ x, Hid (m.epoch = x) := ⟨_, Lib.hid rfl⟩
  obtain ⟨bh, HBH⟩ : ∃ x, Hid (m.behind = x) := ⟨_, Lib.hid rfl⟩
  obtain ⟨p, HP⟩ : ∃ x, Hid (m.place = x) := ⟨_, Lib.hid rfl⟩
  obtain ⟨dn, HD⟩ : ∃ x, Hid (m.done = x) := ⟨_, Lib.hid rfl⟩
  rw [HEP.out] at c1 ⊢
  rw [HBH.out] at c4 ⊢
  rw [HP.out] at HPL ⊢
  rw [HD.out] at HLA ⊢
  have B0 := Lib.hid (Below.refl w.heap.size w)
  clear h hok
  go_enter Tryz.func13, Tryz.ntmps13
  go_wp2_with (fail)
  refine start_ (n := 19) (S := fun w' => w'.cell? ⟨g, 1, none⟩ = some (.int .i64 ep) ∧ w'.cell? ⟨g, 4, none⟩ = some (.int .i64 bh)) (ds := []) #[false, false, false, false, false, false, false, false, false, false, false, false, false, false, false, false, false, false, false] (by kernel_rfl) rfl rfl ⟨(B0.out.drew.cell (p := ⟨g, 1, none⟩) hgl).trans c1, (B0.out.drew.cell (p := ⟨g, 4, none⟩) hgl).trans c4⟩ (fun hHeld => ?_)
  refine pure_ (i := 0) (N := some 6) (v := ?_) (a' := ?_) #[true, false, false, false, false, false, false, false, false, false, false, false, false, false, false, false, false, false, false] rfl rfl (by kernel_rfl) (fun _ _ _ h => h) (Or.inl ⟨by rfl, ?_⟩) ?_ ?_
  rotate_left
  · intro w'
    go_simp
    with_reducible rfl
  rotate_left
  · simp only [Act.put, List.setIfInBounds_toArray, List.set_cons_zero, List.set_cons_succ, i64_w, i32_w]
    rfl
  refine pure_ (i := 1) (N := some 7) (v := ?_) (a' := ?_) #[true, true, false, false, false, false, false, false, false, false, false, false, false, false, false, false, false, false, false] rfl rfl (by kernel_rfl) (fun _ _ _ h => h) (Or.inl ⟨by rfl, ?_⟩) ?_ ?_
  rotate_left
  · intro w'
    go_simp
    with_reducible rfl
  rotate_left
  · simp only [Act.put, List.setIfInBounds_toArray, List.set_cons_zero, List.set_cons_succ, i64_w, i32_w]
    rfl
  refine pure_ (i := 2) (N := some 8) (v := ?_) (a' := ?_) #[true, true, true, false, false, false, false, false, false, false, false, false, false, false, false, false, false, false, false] rfl rfl (by kernel_rfl) (fun _ _ _ h => h) (Or.inl ⟨by rfl, ?_⟩) ?_ ?_
  rotate_left
  · intro w'
    go_simp
    with_reducible rfl
  rotate_left
  · simp only [Act.put, List.setIfInBounds_toArray, List.set_cons_zero, List.set_cons_succ, i64_w, i32_w]
    rfl
  refine pure_ (i := 4) (N := some 10) (v := ?_) (a' := ?_) #[true, true, true, false, true, false, false, false, false, false, false, false, false, false, false, false, false, false, false] rfl rfl (by kernel_rfl) (fun _ _ _ h => h) (Or.inl ⟨by rfl, ?_⟩) ?_ ?_
  rotate_left
  · intro w'
    go_simp
    with_reducible rfl
  rotate_left
  · simp only [Act.put, List.setIfInBounds_toArray, List.set_cons_zero, List.set_cons_succ, i64_w, i32_w]
    rfl
  refine pure_ (i := 6) (N := some 12) (v := ?_) (a' := ?_) #[true, true, true, false, true, false, true, false, false, false, false, false, false, false, false, false, false, false, false] rfl rfl (by kernel_rfl) (fun _ _ _ h => h) (Or.inl ⟨by rfl, ?_⟩) ?_ ?_
  rotate_left
  · intro w'
    go_simp
    with_reducible rfl
  rotate_left
  · simp only [Act.put, List.setIfInBounds_toArray, List.set_cons_zero, List.set_cons_succ, i64_w, i32_w]
    rfl
  refine pure_ (i := 7) (N := some 13) (v := ?_) (a' := ?_) #[true, true, true, false, true, false, true, true, false, false, false, false, false, false, false, false, false, false, false] rfl rfl (by kernel_rfl) (fun _ _ _ h => h) (Or.inl ⟨by rfl, ?_⟩) ?_ ?_
  rotate_left
  · intro w'
    go_simp
    with_reducible rfl
  rotate_left
  · simp only [Act.put, List.setIfInBounds_toArray, List.set_cons_zero, List.set_cons_succ, i64_w, i32_w]
    rfl
  refine pure_ (i := 8) (N := some 14) (v := ?_) (a' := ?_) #[true, true, true, false, true, false, true, true, true, false, false, false, false, false, false, false, false, false, false] rfl rfl (by kernel_rfl) (fun _ _ _ h => h) (Or.inl ⟨by rfl, ?_⟩) ?_ ?_
  rotate_left
  · intro w'
    go_simp
    with_reducible rfl
  rotate_left
  · simp only [Act.put, List.setIfInBounds_toArray, List.set_cons_zero, List.set_cons_succ, i64_w, i32_w]
    rfl
  refine pure_ (i := 9) (N := some 15) (v := ?_) (a' := ?_) #[true, true, true, false, true, false, true, true, true, true, false, false, false, false, false, false, false, false, false] rfl rfl (by kernel_rfl) (fun _ _ _ h => h) (Or.inl ⟨by rfl, ?_⟩) ?_ ?_
  rotate_left
  · intro w'
    go_simp
    with_reducible rfl
  rotate_left
  · simp only [Act.put, List.setIfInBounds_toArray, List.set_cons_zero, List.set_cons_succ, i64_w, i32_w]
    rfl
  refine pure_ (i := 11) (N := some 17) (v := ?_) (a' := ?_) #[true, true, true, false, true, false, true, true, true, true, false, true, false, false, false, false, false, false, false] rfl rfl (by kernel_rfl) (fun _ _ _ h => h) (Or.inl ⟨by rfl, ?_⟩) ?_ ?_
  rotate_left
  · intro w'
    go_simp
    with_reducible rfl
  rotate_left
  · simp only [Act.put, List.setIfInBounds_toArray, List.set_cons_zero, List.set_cons_succ, i64_w, i32_w]
    rfl
  refine pure_ (i := 12) (N := some 18) (v := ?_) (a' := ?_) #[true, true, true, false, true, false, true, true, true, true, false, true, true, false, false, false, false, false, false] rfl rfl (by kernel_rfl) (fun _ _ _ h => h) (Or.inl ⟨by rfl, ?_⟩) ?_ ?_
  rotate_left
  · intro w'
    go_simp
    with_reducible rfl
  rotate_left
  · simp only [Act.put, List.setIfInBounds_toArray, List.set_cons_zero, List.set_cons_succ, i64_w, i32_w]
    rfl
  refine pure_ (i := 13) (N := some 19) (v := ?_) (a' := ?_) #[true, true, true, false, true, false, true, true, true, true, false, true, true, true, false, false, false, false, false] rfl rfl (by kernel_rfl) (fun _ _ _ h => h) (Or.inl ⟨by rfl, ?_⟩) ?_ ?_
  rotate_left
  · intro w'
    go_simp
    with_reducible rfl
  rotate_left
  · simp only [Act.put, List.setIfInBounds_toArray, List.set_cons_zero, List.set_cons_succ, i64_w, i32_w]
    rfl
  refine take_ (i := 3) (N := some 9) (v := ?_) (a' := ?_) #[true, true, true, true, true, false, true, true, true, true, false, true, true, true, false, false, false, false, false] rfl rfl (by kernel_rfl) (fun _ _ _ h => h) (Or.inl ⟨by rfl, ?_⟩) hHeld ?_ ?_
  rotate_left
  · rintro w' ⟨s0, s1⟩
    go_simp
    with_reducible rfl
  rotate_left
  · simp only [Act.put, List.setIfInBounds_toArray, List.set_cons_zero, List.set_cons_succ, i64_w, i32_w]
    rfl
  refine take_ (i := 10) (N := some 16) (v := ?_) (a' := ?_) #[true, true, true, true, true, false, true, true, true, true, true, true, true, true, false, false, false, false, false] rfl rfl (by kernel_rfl) (fun _ _ _ h => h) (Or.inl ⟨by rfl, ?_⟩) hHeld ?_ ?_
  rotate_left
  · rintro w' ⟨s0, s1⟩
    go_simp
    with_reducible rfl
  rotate_left
  · simp only [Act.put, List.setIfInBounds_toArray, List.set_cons_zero, List.set_cons_succ, i64_w, i32_w]
    rfl
  refine one_ (i := 5) (N := some 11) #[true, true, true, true, true, true, true, true, true, true, true, true, true, true, false, false, false, false, false] rfl rfl (by kernel_rfl) (by decide) (fun K hK => ?_)
  refine goes_ Tryz.func35 (by kernel_rfl) rfl #[.pointer (some ⟨g, 0, none⟩)] (by rfl) rfl rfl (by simp only [List.map_toArray, List.map_cons, List.map_nil]; rfl) ?_
  with_reducible refine (HPL.out _ B0.out.drew).mono ?_
  rintro e w2 ⟨rfl, hb2⟩
  have B2 := Lib.hid (B0.out.drew.trans (hb2.mono B0.out.drew.size))
  clear hb2
  refine ⟨_, rfl, ?_⟩
  refine hK.out _ _ ⟨(B2.out.cell (p := ⟨g, 1, none⟩) hgl).trans c1, (B2.out.cell (p := ⟨g, 4, none⟩) hgl).trans c4⟩ (fun hHeld => ?_)
  clear hK K
  refine norm_ (a' := ?_) ?_ ?_
  rotate_left
  · show Act.put _ (some 11) _ = _
    simp only [Act.put, List.setIfInBounds_toArray, List.set_cons_zero, List.set_cons_succ, i64_w, i32_w]
    rfl
  refine one_ (i := 14) (N := some 20) #[true, true, true, true, true, true, true, true, true, true, true, true, true, true, true, false, false, false, false] rfl rfl (by kernel_rfl) (by decide) (fun K hK => ?_)
  refine goes_ Tryz.func37 (by kernel_rfl) rfl #[.pointer (some ⟨g, 4, none⟩)] (by rfl) rfl rfl (by simp only [List.map_toArray, List.map_cons, List.map_nil]; rfl) ?_
  with_reducible refine (HLA.out _ B2.out).mono ?_
  rintro e w3 ⟨rfl, hb3⟩
  have B3 := Lib.hid (B2.out.trans (hb3.mono B2.out.size))
  clear hb3
  refine ⟨_, rfl, ?_⟩
  refine hK.out _ _ ⟨(B3.out.cell (p := ⟨g, 1, none⟩) hgl).trans c1, (B3.out.cell (p := ⟨g, 4, none⟩) hgl).trans c4⟩ (fun hHeld => ?_)
  clear hK K
  refine norm_ (a' := ?_) ?_ ?_
  rotate_left
  · show Act.put _ (some 20) _ = _
    simp only [Act.put, List.setIfInBounds_toArray, List.set_cons_zero, List.set_cons_succ, i64_w, i32_w]
    rfl
  refine pure_ (i := 15) (N := some 2) (v := ?_) (a' := ?_) #[true, true, true, true, true, true, true, true, true, true, true, true, true, true, true, true, false, false, false] rfl rfl (by kernel_rfl) (fun _ _ _ h => h) (Or.inl ⟨by rfl, ?_⟩) ?_ ?_
  rotate_left
  · intro w'
    go_simp
    with_reducible rfl
  rotate_left
  · simp only [Act.put, List.setIfInBounds_toArray, List.set_cons_zero, List.set_cons_succ, i64_w, i32_w]
    rfl
  refine pure_ (i := 16) (N := some 3) (v := ?_) (a' := ?_) #[true, true, true, true, true, true, true, true, true, true, true, true, true, true, true, true, true, false, false] rfl rfl (by kernel_rfl) (fun _ _ _ h => h) (Or.inl ⟨by rfl, ?_⟩) ?_ ?_
  rotate_left
  · intro w'
    go_simp
    with_reducible rfl
  rotate_left
  · simp only [Act.put, List.setIfInBounds_toArray, List.set_cons_zero, List.set_cons_succ, i64_w, i32_w]
    rfl
  refine pure_ (i := 17) (N := some 4) (v := ?_) (a' := ?_) #[true, true, true, true, true, true, true, true, true, true, true, true, true, true, true, true, true, true, false] rfl rfl (by kernel_rfl) (fun _ _ _ h => h) (Or.inl ⟨by rfl, ?_⟩) ?_ ?_
  rotate_left
  · intro w'
    go_simp
    with_reducible rfl
  rotate_left
  · simp only [Act.put, List.setIfInBounds_toArray, List.set_cons_zero, List.set_cons_succ, i64_w, i32_w]
    rfl
  refine pure_ (i := 18) (N := some 5) (v := ?_) (a' := ?_) #[true, true, true, true, true, true, true, true, true, true, true, true, true, true, true, true, true, true, true] rfl rfl (by kernel_rfl) (fun _ _ _ h => h) (Or.inl ⟨by rfl, ?_⟩) ?_ ?_
  rotate_left
  · intro w'
    go_simp
    with_reducible rfl
  rotate_left
  · simp only [Act.put, List.setIfInBounds_toArray, List.set_cons_zero, List.set_cons_succ, i64_w, i32_w]
    rfl
  refine done_ (by kernel_rfl) ?_
  go_wp2
  refine bodyPost_ret (v := .tuple #[.int .i64 ep, .int .i64 p, .int .i64 bh, .int .i64 dn]) ?_ rfl ⟨rfl, B3.out⟩
  simp [results, Tryz.results13, go_sem]
theorem letters_calls (h : MemAt w F g m) :
    Calls Tryz.prog 14 #[.pointer (some ⟨g, 0, none⟩)] w fun e w' => ∃ v F', e = .returned v ∧ Row w' 64 2 LetT.cells v m.out ∧ MemAt w' F' g { m with out := [] } ∧ Kept w w' F ∧ (∀ k, F' k → F k) ∧ ∀ k, v.ownBlock = some k → F k ∧ ¬ F' k := by
  obtain ⟨tb, vo, vw, vl, vt, rw_, rt, h, rfl⟩ := h
  obtain ⟨A, n, c, rfl⟩ := h.l.some_slice
  have c6 := h.b.cell 6
  have f6 := h.b.frozen 6
  have hgl := h.b.lt
  have H := Lib.hid h
  clear h
  go_enter Tryz.func14, Tryz.ntmps14
  go_wp2
  go_ret
  have h1 := H.out.putL_ (Kept.refl w _) (vl' := .slice none 0 0) (Row.nil_ w 64 2 LetT.cells) (fun k e => by simp [Value.ownBlock] at e)
  have hk := (Kept.refl w fun k => k = g).setCell (p := ⟨g, 6, none⟩) (.inl rfl) (.slice none 0 0)
  refine ⟨_, _, rfl, H.out.l.keptT hk (NoT.one H.out.b (by decide)), ⟨_, _, _, _, _, _, _, h1.1, rfl⟩, hk.mono (fun k _ e => .inl e), fun k e => ?_, fun k e => ⟨.inr (.inr (.inr (.inr (.inl e)))), fun hf => ?_⟩⟩
  · rcases e with e | e | e | e | e | e
    · exact .inl e
    · exact .inr (.inl e)
    · exact .inr (.inr (.inl e))
    · exact .inr (.inr (.inr (.inl e)))
    · simp [Value.ownBlock] at e
    · exact .inr (.inr (.inr (.inr (.inr e))))
  · obtain ⟨cs, hc⟩ := H.out.l.typed e
    rcases hf with e | e | e | e | e | e
    · subst e; exact hc.ne_ H.out.b (by decide) rfl
    · subst e; obtain ⟨ct, ht⟩ := H.out.t.blk; exact hc.ne_ ht (by decide) rfl
    · obtain ⟨ct, ht⟩ := H.out.o.typed e; exact hc.ne_ ht (by decide) rfl
    · obtain ⟨ct, ht⟩ := H.out.r.typed e; exact hc.ne_ ht (by decide) rfl
    · simp [Value.ownBlock] at e
    · obtain ⟨ct, ht⟩ := H.out.d.typed e; exact hc.ne_ ht (by decide) rfl
theorem replies_calls (h : MemAt w F g m) :
    Calls Tryz.prog 11 #[.pointer (some ⟨g, 0, none⟩)] w fun e w' => ∃ v F' rt, e = .returned v ∧ Row w' 34 5 RepW.cells v rt ∧ Are RepIs w' rt m.told ∧ MemAt w' F' g { m with told := [] } ∧ Kept w w' F ∧ (∀ k, F' k → F k) ∧ ∀ k, v.ownBlock = some k → F k ∧ ¬ F' k := by
  obtain ⟨tb, vo, vw, vl, vt, rw_, rt, h, rfl⟩ := h
  obtain ⟨A, n, c, rfl⟩ := h.d.some_slice
  have c7 := h.b.cell 7
  have f7 := h.b.frozen 7
  have hgl := h.b.lt
  have H := Lib.hid h
  clear h
  go_enter Tryz.func11, Tryz.ntmps11
  go_wp2
  go_ret
  have h1 := H.out.putT_ (Kept.refl w _) (vt' := .slice none 0 0) (rw' := []) (l' := []) Are.nil (Row.nil_ w 34 5 RepW.cells) (fun k e => by simp [Value.ownBlock] at e)
  have hk := (Kept.refl w fun k => k = g).setCell (p := ⟨g, 7, none⟩) (.inl rfl) (.slice none 0 0)
  have hz : Frz w (fun k => k = g) := ⟨NoT.one H.out.b (by decide), NoT.one H.out.b (by decide), NoT.one H.out.b (by decide)⟩
  refine ⟨_, _, rt, rfl, H.out.d.keptT hk (NoT.one H.out.b (by decide)), H.out.di.imp (fun _ _ x => x.kept hk hz), ⟨_, _, _, _, _, _, _, h1.1, rfl⟩, hk.mono (fun k _ e => .inl e), fun k e => ?_, fun k e => ⟨.inr (.inr (.inr (.inr (.inr e)))), fun hf => ?_⟩⟩
  · rcases e with e | e | e | e | e | e
    · exact .inl e
    · exact .inr (.inl e)
    · exact .inr (.inr (.inl e))
    · exact .inr (.inr (.inr (.inl e)))
    · exact .inr (.inr (.inr (.inr (.inl e))))
    · simp [Value.ownBlock] at e
  · obtain ⟨cs, hc⟩ := H.out.d.typed e
    rcases hf with e | e | e | e | e | e
    · subst e; exact hc.ne_ H.out.b (by decide) rfl
    · subst e; obtain ⟨ct, ht⟩ := H.out.t.blk; exact hc.ne_ ht (by decide) rfl
    · obtain ⟨ct, ht⟩ := H.out.o.typed e; exact hc.ne_ ht (by decide) rfl
    · obtain ⟨ct, ht⟩ := H.out.r.typed e; exact hc.ne_ ht (by decide) rfl
    · obtain ⟨ct, ht⟩ := H.out.l.typed e; exact hc.ne_ ht (by decide) rfl
    · simp [Value.ownBlock] at e
end
/-- A member that is new. -/
def Mem.fresh (id : Int) : Mem := ⟨id, 0, [], [], 0, [], [], []⟩
theorem new_calls (id : Int) (hid : 0 ≤ id ∧ id < 16) (w : World) :
    Calls Tryz.prog 6 #[.int .i64 id] w fun e w' => ∃ g F, e = .returned (.tuple #[.pointer (some ⟨g, 0, none⟩), .int .i64 0]) ∧ MemAt w' F g (Mem.fresh id) ∧ Below w.heap.size w w' ∧ ∀ k, F k → w.heap.size ≤ k := by
  have q1 : decide (id < 0) = false := decide_eq_false (by omega)
  have q2 : decide ((16 : Int) ≤ id) = false := decide_eq_false (by omega)
  have ht := tab_new w
  have HT := Lib.hid (TabAt.new w)
  have hsz : (w.alloc (.cells #[.slice none 0 0] 100)).heap.size = w.heap.size + 1 := World.size_alloc ..
  have HB := Lib.hid ((Below.refl w.heap.size w).alloc (Nat.le_refl _) (.cells #[.slice none 0 0] 100))
  clear hid
  go_enter Tryz.func6, Tryz.ntmps6
  go_wp2_with (fail)
  refine ht.mono ?_
  rintro e w1 ⟨rfl, rfl⟩
  go_wp2
  go_ret2
  have hb2 := (Below.refl _ (w.alloc (.cells #[.slice none 0 0] 100))).alloc (Nat.le_refl _) (.cells #[.int .i64 id, .int .i64 0, .slice none 0 0, .pointer (some ⟨w.heap.size, 0, none⟩), .int .i64 0, .slice none 0 0, .slice none 0 0, .slice none 0 0] 83)
  have hblk := Blk.new (w.alloc (.cells #[.slice none 0 0] 100)) 83 #[.int .i64 id, .int .i64 0, .slice none 0 0, .pointer (some ⟨w.heap.size, 0, none⟩), .int .i64 0, .slice none 0 0, .slice none 0 0, .slice none 0 0]
  rw [hsz] at hblk
  refine ⟨w.heap.size + 1, _, rfl, ⟨w.heap.size, .slice none 0 0, .slice none 0 0, .slice none 0 0, .slice none 0 0, [], [], { b := hblk, o := Row.nil_ .., t := HT.out.below hb2, r := Row.nil_ .., ri := Are.nil, l := Row.nil_ .., d := Row.nil_ .., di := Are.nil }, rfl⟩, HB.out.trans (hb2.mono (by omega)), fun k e => ?_⟩
  rcases e with e | e | e | e | e | e
  · omega
  · omega
  all_goals simp [Value.ownBlock] at e
end Go.Proofs.YtdfdlajfjcakaaaGreat
