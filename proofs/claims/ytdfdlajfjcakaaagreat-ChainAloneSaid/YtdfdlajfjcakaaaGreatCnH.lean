import Derived.Test.YtdfdlajfjcakaaaGreatCnG
namespace Go.Proofs.YtdfdlajfjcakaaaGreat
open Go Go.RowKit
open Go.Proofs.YtdfdlajfjcakaaaGreatW.PrintLast
set_option linter.unusedVariables false
set_option linter.unusedSimpArgs false
set_option maxRecDepth 100000

/-! settle. -/
theorem MPost.join {w w1 w2 : World} {F F1 : Nat → Prop} {g : Nat} {m2 : Mem} (hk : Kept w w1 F) (hf : ∀ k, F1 k → F k ∨ w.heap.size ≤ k) (h : MPost w1 F1 g m2 w2) : MPost w F g m2 w2 := by
  obtain ⟨F2, hm2, hk2, hf2⟩ := h
  refine ⟨F2, hm2, hk.then_ hk2 hf, fun k h => ?_⟩
  rcases hf2 k h with h | h
  · exact hf k h
  · exact .inr (Nat.le_trans hk.size h)
def Mem.settled (m : Mem) : Mem := ({ m with told := m.told ++ m.way.map (·.2), behind := m.done, way := [] } : Mem).upd
theorem und_at {w : World} {A : Option Addr} {n c i : Nat} {l : List UndW} (h : SegG w UndW.cells (.slice A n c) l) (hi : i < l.length) : ∃ ad, A = some ad ∧ w.cell? (ad.add (i * 8)) = some (.int .i64 l[i].client) ∧ w.cell? ⟨(ad.add (i * 8)).block, (ad.add (i * 8)).off + 1, none⟩ = some (.int .i64 l[i].seq) ∧ w.cell? ⟨(ad.add (i * 8)).block, (ad.add (i * 8)).off + 2, none⟩ = some (.slice l[i].A l[i].n l[i].c) ∧ w.cell? ⟨(ad.add (i * 8)).block, (ad.add (i * 8)).off + 3, none⟩ = some (.int .i64 l[i].p.client) ∧ w.cell? ⟨(ad.add (i * 8)).block, (ad.add (i * 8)).off + 4, none⟩ = some (.int .i64 l[i].p.seq) ∧ w.cell? ⟨(ad.add (i * 8)).block, (ad.add (i * 8)).off + 5, none⟩ = some (.slice l[i].p.A l[i].p.n l[i].p.c) ∧ w.cell? ⟨(ad.add (i * 8)).block, (ad.add (i * 8)).off + 6, none⟩ = some (.int .i64 l[i].p.at_) ∧ w.cell? ⟨(ad.add (i * 8)).block, (ad.add (i * 8)).off + 7, none⟩ = some (.int .i64 l[i].p.code) := by
  obtain ⟨ad, c', hv', hc', hm'⟩ := h.form (by omega)
  injection hv' with hA _ hcc
  subst hA
  exact ⟨ad, rfl, h.cell (sz := 8) (fun _ => rfl) i 0 hi (by omega), h.cell (sz := 8) (fun _ => rfl) i 1 hi (by omega), h.cell (sz := 8) (fun _ => rfl) i 2 hi (by omega), h.cell (sz := 8) (fun _ => rfl) i 3 hi (by omega), h.cell (sz := 8) (fun _ => rfl) i 4 hi (by omega), h.cell (sz := 8) (fun _ => rfl) i 5 hi (by omega), h.cell (sz := 8) (fun _ => rfl) i 6 hi (by omega), h.cell (sz := 8) (fun _ => rfl) i 7 hi (by omega)⟩
set_option maxHeartbeats 8000000 in
theorem settle_calls {w : World} {F : Nat → Prop} {g : Nat} {m : Mem} (h : MemAt w F g m) (ho : m.order.length ≤ 1000) (hE : Num63 m.epoch) (hb : 0 ≤ m.behind ∧ m.behind ≤ 1099511627776) (hwl : m.way.length ≤ 1000000) (hl : m.out.length ≤ 1000000) (htl : m.told.length ≤ 1000000) :
    Calls Tryz.prog 32 #[.pointer (some ⟨g, 0, none⟩)] w fun e w' => e = .returned (.tuple #[]) ∧ MPost w F g m.settled w' := by
  obtain ⟨tb, vo, vw, vl, vt, rw_, rt, h, rfl⟩ := h
  obtain ⟨A, c, hv⟩ := h.r.shape
  subst hv
  have c5 := h.b.cell 5
  have H := Lib.hid h
  have hrl := h.ri.1
  have hdl := h.di.1
  obtain ⟨n, HN⟩ : ∃ n, Hid (rw_.length = n) := ⟨_, Lib.hid rfl⟩
  have hn : n ≤ 1000000 := by rw [← HN.out, hrl]; exact hwl
  have HTL := Lib.hid htl
  have HDL := Lib.hid hdl
  have HRL := Lib.hid hrl
  rw [HN.out] at c5 H
  have HB0 := Lib.hid hb
  have HE0 := Lib.hid hE
  have HO0 := Lib.hid ho
  have HL0 := Lib.hid hl
  have HW0 := Lib.hid hwl
  have hgl0 := h.b.lt
  clear h hrl hdl hb hE ho hl htl hwl
  rw [HN.out]
  go_enter Tryz.func32, Tryz.ntmps32
  go_wp2_with (fail)
  go_loopg [3, 10] n (fun gg _ s10 wr => ∃ (i : Nat) (vt' : Value) (rt' : List RepW), i ≤ n ∧ n - i ≤ gg ∧ s10 = .int .i64 i ∧ Hid (MemP wr g { m with told := m.told ++ (m.way.take i).map (·.2) } tb vo (.slice A n c) vl vt' rw_ rt') ∧ Hid (Kept w wr (Foot g tb vo (.slice A n c) vl vt)) ∧ Hid (∀ k, vt'.ownBlock = some k → vt.ownBlock = some k ∨ w.heap.size ≤ k))
  case atStart => exact ⟨0, vt, rt, by omega, by omega, by go_num, Lib.hid (by rw [List.take_zero, List.map_nil, List.append_nil]; exact H.out), Lib.hid (Kept.refl _ _), Lib.hid (fun k e => .inl e)⟩
  case round =>
    obtain ⟨i, vt', rt', hi, hgg, rfl, HP, HK, HF⟩ := hrel
    have hgl := HP.out.b.lt
    by_cases hlt : i < n
    · have hz : (i : Int) < (n : Int) := by omega
      have hi0 : (0 : Int) ≤ (i : Int) := by omega
      have hil : i < rw_.length := by have := HN.out; omega
      have hil2 : i < m.way.length := by have := HRL.out; omega
      have hw5 : IntKind.i64.wrap ((i : Int) + 1) = ((i + 1 : Nat) : Int) := by rw [IntKind.wrap_i64]; omega
      have HUI := Lib.hid (HP.out.ri.at i hil hil2)
      obtain ⟨ad, rfl, x0, x1, x2, x3, x4, x5, x6, x7⟩ := und_at (SegG.of_row HP.out.r) hil
      generalize hu : rw_[i] = u at x0 x1 x2 x3 x4 x5 x6 x7 HUI
      clear hu
      obtain ⟨tA, tn, tc, rfl⟩ := HP.out.d.some_slice
      have hle := Lib.hid (show (rt'.length + 1) * 56 ≤ 140737488355328 by have := HP.out.di.1; have h2 := HTL.out; simp only [List.length_append, List.length_map, List.length_take] at this; omega)
      have hg5 : ¬ (fun k => (Value.slice tA tn tc).ownBlock = some k) g := fun e => by obtain ⟨cs, hc⟩ := HP.out.d.typed e; exact hc.ne_ HP.out.b (by decide) rfl
      have hb5 : ¬ (fun k => (Value.slice tA tn tc).ownBlock = some k) wr.heap.size := fun e => by obtain ⟨cs, hc⟩ := HP.out.d.typed e; exact absurd hc.lt (Nat.lt_irrefl _)
      have KW := Lib.hid ((Kept.refl wr (fun k => (Value.slice tA tn tc).ownBlock = some k)).alloc (.cells #[.int .i64 u.client, .int .i64 u.seq, .slice u.A u.n u.c, .int .i64 u.p.client, .int .i64 u.p.seq, .slice u.p.A u.p.n u.p.c, .int .i64 u.p.at_, .int .i64 u.p.code] 95))
      have KA := Lib.hid (Kept.refl (wr.alloc (.cells #[.int .i64 u.client, .int .i64 u.seq, .slice u.A u.n u.c, .int .i64 u.p.client, .int .i64 u.p.seq, .slice u.p.A u.p.n u.p.c, .int .i64 u.p.at_, .int .i64 u.p.code] 95)) (fun k => (Value.slice tA tn tc).ownBlock = some k))
      have HX := Blk.new wr 95 #[.int .i64 u.client, .int .i64 u.seq, .slice u.A u.n u.c, .int .i64 u.p.client, .int .i64 u.p.seq, .slice u.p.A u.p.n u.p.c, .int .i64 u.p.at_, .int .i64 u.p.code]
      have HGA := HP.out.b.alloc (.cells #[.int .i64 u.client, .int .i64 u.seq, .slice u.A u.n u.c, .int .i64 u.p.client, .int .i64 u.p.seq, .slice u.p.A u.p.n u.p.c, .int .i64 u.p.at_, .int .i64 u.p.code] 95)
      have hsa : (wr.alloc (.cells #[.int .i64 u.client, .int .i64 u.seq, .slice u.A u.n u.c, .int .i64 u.p.client, .int .i64 u.p.seq, .slice u.p.A u.p.n u.p.c, .int .i64 u.p.at_, .int .i64 u.p.code] 95)).heap.size = wr.heap.size + 1 := World.size_alloc ..
      have HROW := Lib.hid (((HP.out.d.alloc (.cells #[.int .i64 u.client, .int .i64 u.seq, .slice u.A u.n u.c, .int .i64 u.p.client, .int .i64 u.p.seq, .slice u.p.A u.p.n u.p.c, .int .i64 u.p.at_, .int .i64 u.p.code] 95)).drew).alloc (.cells #[.int .i64 u.p.client, .int .i64 u.p.seq, .slice u.p.A u.p.n u.p.c, .int .i64 u.p.at_, .int .i64 u.p.code] 34))
      have HLIT := Lib.hid (news_lit RepW.cells (wr.alloc (.cells #[.int .i64 u.client, .int .i64 u.seq, .slice u.A u.n u.c, .int .i64 u.p.client, .int .i64 u.p.seq, .slice u.p.A u.p.n u.p.c, .int .i64 u.p.at_, .int .i64 u.p.code] 95)).drew 34 u.p #[.int .i64 u.p.client, .int .i64 u.p.seq, .slice u.p.A u.p.n u.p.c, .int .i64 u.p.at_, .int .i64 u.p.code] rfl)
      rw [show ((wr.alloc (.cells #[.int .i64 u.client, .int .i64 u.seq, .slice u.A u.n u.c, .int .i64 u.p.client, .int .i64 u.p.seq, .slice u.p.A u.p.n u.p.c, .int .i64 u.p.at_, .int .i64 u.p.code] 95)).drew).heap.size = wr.heap.size + 1 from hsa] at HLIT
      have c7a := HGA.cell 7
      have f7a := HGA.frozen 7
      have z0 := HX.cell 0
      have z1 := HX.cell 1
      have z2 := HX.cell 2
      have z3 := HX.cell 3
      have z4 := HX.cell 4
      have z5 := HX.cell 5
      have z6 := HX.cell 6
      have z7 := HX.cell 7
      have hgl1 := HGA.lt
      have hbl := HX.lt
      clear HX HGA
      go_wp2_with (fail)
      generalize (wr.alloc (.cells #[.int .i64 u.client, .int .i64 u.seq, .slice u.A u.n u.c, .int .i64 u.p.client, .int .i64 u.p.seq, .slice u.p.A u.p.n u.p.c, .int .i64 u.p.at_, .int .i64 u.p.code] 95)) = wa at *
      refine start_ (n := 12) (S := fun w' => w'.cell? ⟨g, 7, none⟩ = some (.slice tA tn tc) ∧ w'.cell? ⟨wr.heap.size, 3, none⟩ = some (.int .i64 u.p.client) ∧ w'.cell? ⟨wr.heap.size, 4, none⟩ = some (.int .i64 u.p.seq) ∧ w'.cell? ⟨wr.heap.size, 5, none⟩ = some (.slice u.p.A u.p.n u.p.c) ∧ w'.cell? ⟨wr.heap.size, 6, none⟩ = some (.int .i64 u.p.at_) ∧ w'.cell? ⟨wr.heap.size, 7, none⟩ = some (.int .i64 u.p.code)) (ds := [11]) #[false, false, false, false, false, false, false, false, false, false, false, false] (by kernel_rfl) rfl rfl ⟨(KA.out.drew.cell (p := ⟨g, 7, none⟩) hgl1 hg5).trans c7a, (KA.out.drew.cell (p := ⟨wr.heap.size, 3, none⟩) hbl hb5).trans z3, (KA.out.drew.cell (p := ⟨wr.heap.size, 4, none⟩) hbl hb5).trans z4, (KA.out.drew.cell (p := ⟨wr.heap.size, 5, none⟩) hbl hb5).trans z5, (KA.out.drew.cell (p := ⟨wr.heap.size, 6, none⟩) hbl hb5).trans z6, (KA.out.drew.cell (p := ⟨wr.heap.size, 7, none⟩) hbl hb5).trans z7⟩ (fun hHeld => ?_)
      refine pure_ (i := 0) (N := some 14) (v := ?_) (a' := ?_) #[true, false, false, false, false, false, false, false, false, false, false, false] rfl rfl (by kernel_rfl) (fun _ _ _ h => h) (Or.inl ⟨by rfl, ?_⟩) ?_ ?_
      rotate_left
      · intro w'
        go_simp
        with_reducible rfl
      rotate_left
      · simp only [Act.put, List.setIfInBounds_toArray, List.set_cons_zero, List.set_cons_succ, i64_w, i32_w]
        rfl
      refine pure_ (i := 1) (N := some 15) (v := ?_) (a' := ?_) #[true, true, false, false, false, false, false, false, false, false, false, false] rfl rfl (by kernel_rfl) (fun _ _ _ h => h) (Or.inl ⟨by rfl, ?_⟩) ?_ ?_
      rotate_left
      · intro w'
        go_simp
        with_reducible rfl
      rotate_left
      · simp only [Act.put, List.setIfInBounds_toArray, List.set_cons_zero, List.set_cons_succ, i64_w, i32_w]
        rfl
      refine pure_ (i := 2) (N := some 16) (v := ?_) (a' := ?_) #[true, true, true, false, false, false, false, false, false, false, false, false] rfl rfl (by kernel_rfl) (fun _ _ _ h => h) (Or.inl ⟨by rfl, ?_⟩) ?_ ?_
      rotate_left
      · intro w'
        go_simp
        with_reducible rfl
      rotate_left
      · simp only [Act.put, List.setIfInBounds_toArray, List.set_cons_zero, List.set_cons_succ, i64_w, i32_w]
        rfl
      refine pure_ (i := 3) (N := some 17) (v := ?_) (a' := ?_) #[true, true, true, true, false, false, false, false, false, false, false, false] rfl rfl (by kernel_rfl) (fun _ _ _ h => h) (Or.inl ⟨by rfl, ?_⟩) ?_ ?_
      rotate_left
      · intro w'
        go_simp
        with_reducible rfl
      rotate_left
      · simp only [Act.put, List.setIfInBounds_toArray, List.set_cons_zero, List.set_cons_succ, i64_w, i32_w]
        rfl
      refine pure_ (i := 5) (N := some 19) (v := ?_) (a' := ?_) #[true, true, true, true, false, true, false, false, false, false, false, false] rfl rfl (by kernel_rfl) (fun _ _ _ h => h) (Or.inl ⟨by rfl, ?_⟩) ?_ ?_
      rotate_left
      · intro w'
        go_simp
        with_reducible rfl
      rotate_left
      · simp only [Act.put, List.setIfInBounds_toArray, List.set_cons_zero, List.set_cons_succ, i64_w, i32_w]
        rfl
      refine take_ (i := 4) (N := some 18) (v := ?_) (a' := ?_) #[true, true, true, true, true, true, false, false, false, false, false, false] rfl rfl (by kernel_rfl) (fun _ _ _ h => h) (Or.inl ⟨by rfl, ?_⟩) hHeld ?_ ?_
      rotate_left
      · rintro w' ⟨s0, s1, s2, s3, s4, s5⟩
        go_simp
        with_reducible rfl
      rotate_left
      · simp only [Act.put, List.setIfInBounds_toArray, List.set_cons_zero, List.set_cons_succ, i64_w, i32_w]
        rfl
      refine take_ (i := 6) (N := some 20) (v := ?_) (a' := ?_) #[true, true, true, true, true, true, true, false, false, false, false, false] rfl rfl (by kernel_rfl) (fun _ _ _ h => h) (Or.inl ⟨by rfl, ?_⟩) hHeld ?_ ?_
      rotate_left
      · rintro w' ⟨s0, s1, s2, s3, s4, s5⟩
        go_simp
        with_reducible rfl
      rotate_left
      · simp only [Act.put, List.setIfInBounds_toArray, List.set_cons_zero, List.set_cons_succ, i64_w, i32_w]
        rfl
      refine one_ (i := 7) (N := some 21) #[true, true, true, true, true, true, true, true, false, false, false, false] rfl rfl (by kernel_rfl) (by decide) (fun K hK => ?_)
      refine value_ (w1 := ?_) (v := ?_) (by rfl) rfl ?_ ?_
      rotate_left 2
      · go_simp
        constructor
        · rfl
        · rfl
      have KB := Lib.hid (KA.out.drew.alloc (.cells #[.int .i64 u.p.client, .int .i64 u.p.seq, .slice u.p.A u.p.n u.p.c, .int .i64 u.p.at_, .int .i64 u.p.code] 34))
      refine hK.out _ _ ⟨(KB.out.cell (p := ⟨g, 7, none⟩) hgl1 hg5).trans c7a, (KB.out.cell (p := ⟨wr.heap.size, 3, none⟩) hbl hb5).trans z3, (KB.out.cell (p := ⟨wr.heap.size, 4, none⟩) hbl hb5).trans z4, (KB.out.cell (p := ⟨wr.heap.size, 5, none⟩) hbl hb5).trans z5, (KB.out.cell (p := ⟨wr.heap.size, 6, none⟩) hbl hb5).trans z6, (KB.out.cell (p := ⟨wr.heap.size, 7, none⟩) hbl hb5).trans z7⟩ (fun hHeld => ?_)
      clear hK K
      refine norm_ (a' := ?_) ?_ ?_
      rotate_left
      · show Act.put _ (some 21) _ = _
        simp only [Act.put, List.setIfInBounds_toArray, List.set_cons_zero, List.set_cons_succ, i64_w, i32_w]
        rfl
      refine one_ (i := 8) (N := some 22) #[true, true, true, true, true, true, true, true, true, false, false, false] rfl rfl (by kernel_rfl) (by decide) (fun K hK => ?_)
      refine Row.append_step (by rfl) (.tmp 18) (.tmp 21) 42 34 (.agg #[.int .i64 0, .int .i64 0, .slice none 0 0, .int .i64 0, .int .i64 0]) 5 56 (by rfl) Tryz.underlying42 info_rep rfl (by decide) (by decide) (.slice tA tn tc) rt' [u.p] (by rfl) ⟨wr.heap.size + 1, 0, none⟩ 1 1 (by rfl) HROW.out rfl (fun _ => rfl) HLIT.out one_rep hle.out ?_
      intro v7 w7 hR hG hO
      obtain ⟨A7, n7, c7, rfl⟩ := hR.some_slice
      have K7 := Lib.hid (KB.out.grown hG (fun k e => .inl e))
      have HR7 := Lib.hid hR
      have HO7 := Lib.hid hO
      have c57 := (K7.out.cell (p := ⟨g, 7, none⟩) hgl1 hg5).trans c7a
      have k57 := (K7.out.frozen (p := ⟨g, 7, none⟩) hgl1 hg5).trans f7a
      have hgl7 : g < w7.heap.size := Nat.lt_of_lt_of_le hgl1 K7.out.size
      clear hR hG hO
      refine hK.out _ _ ⟨(K7.out.cell (p := ⟨g, 7, none⟩) hgl1 hg5).trans c7a, (K7.out.cell (p := ⟨wr.heap.size, 3, none⟩) hbl hb5).trans z3, (K7.out.cell (p := ⟨wr.heap.size, 4, none⟩) hbl hb5).trans z4, (K7.out.cell (p := ⟨wr.heap.size, 5, none⟩) hbl hb5).trans z5, (K7.out.cell (p := ⟨wr.heap.size, 6, none⟩) hbl hb5).trans z6, (K7.out.cell (p := ⟨wr.heap.size, 7, none⟩) hbl hb5).trans z7⟩ (fun hHeld => ?_)
      clear hK K
      refine norm_ (a' := ?_) ?_ ?_
      rotate_left
      · show Act.put _ (some 22) _ = _
        simp only [Act.put, List.setIfInBounds_toArray, List.set_cons_zero, List.set_cons_succ, i64_w, i32_w]
        rfl
      refine pure_ (i := 9) (N := some 23) (v := ?_) (a' := ?_) #[true, true, true, true, true, true, true, true, true, true, false, false] rfl rfl (by kernel_rfl) (fun _ _ _ h => h) (Or.inl ⟨by rfl, ?_⟩) ?_ ?_
      rotate_left
      · intro w'
        go_simp
        with_reducible rfl
      rotate_left
      · simp only [Act.put, List.setIfInBounds_toArray, List.set_cons_zero, List.set_cons_succ, i64_w, i32_w]
        rfl
      refine pure_ (i := 10) (N := some 24) (v := ?_) (a' := ?_) #[true, true, true, true, true, true, true, true, true, true, true, false] rfl rfl (by kernel_rfl) (fun _ _ _ h => h) (Or.inl ⟨by rfl, ?_⟩) ?_ ?_
      rotate_left
      · intro w'
        go_simp
        with_reducible rfl
      rotate_left
      · simp only [Act.put, List.setIfInBounds_toArray, List.set_cons_zero, List.set_cons_succ, i64_w, i32_w]
        rfl
      refine last_ (i := 11) (N := none) #[true, true, true, true, true, true, true, true, true, true, true, true] rfl rfl (by kernel_rfl) (by decide) (fun K hK => ?_)
      refine skip_ (w1 := ?_) (by rfl) rfl ?_ ?_
      rotate_left
      · go_simp
        rfl
      refine hK.out _ _ ?_
      clear hK K
      refine done_ (by kernel_rfl) ?_
      go_wp2
      have hk0 := KW.out.trans K7.out
      have hz : Frz wr (fun k => (Value.slice tA tn tc).ownBlock = some k) := ⟨fun k e cs hc => by obtain ⟨cs', hc'⟩ := HP.out.d.typed e; exact hc'.ne_ hc (by decide) rfl, fun k e cs hc => by obtain ⟨cs', hc'⟩ := HP.out.d.typed e; exact hc'.ne_ hc (by decide) rfl, fun k e cs hc => by obtain ⟨cs', hc'⟩ := HP.out.d.typed e; exact hc'.ne_ hc (by decide) rfl⟩
      have hf7 : ∀ k, (Value.slice A7 n7 c7).ownBlock = some k → (Value.slice tA tn tc).ownBlock = some k ∨ wr.heap.size ≤ k := fun k e => by
        rcases HO7.out with h | h
        · exact .inl (h ▸ e)
        · simp only [World.size_alloc, World.size_drew, hsa] at h
          rw [h] at e
          injection e with e
          right
          omega
      obtain ⟨h1, h2⟩ := HP.out.putT_ hk0 ((HP.out.di.imp (fun _ _ x => x.kept hk0 hz)).snoc (HUI.out.2.2.2.kept hk0 hz)) HR7.out hf7
      go_roundg (n - (i + 1))
      case measure => omega
      case rel =>
        refine ⟨i + 1, .slice A7 n7 c7, rt' ++ [u.p], by omega, Nat.le_refl _, by go_num, Lib.hid ?_, Lib.hid (HK.out.then_ h2 (fun k e => ?_)), Lib.hid (fun k e => ?_)⟩
        · have e : m.told ++ (m.way.take (i + 1)).map (·.2) = m.told ++ (m.way.take i).map (·.2) ++ [m.way[i].2] := by rw [List.take_add_one, List.getElem?_eq_getElem hil2, List.map_append, List.append_assoc]; rfl
          rw [e]
          exact h1
        · rcases e with e | e
          · exact .inl (.inl e)
          · rcases HF.out k e with e | e
            · exact .inl (.inr (.inr (.inr (.inr (.inr e)))))
            · exact .inr e
        · rcases hf7 k e with e | e
          · exact HF.out k e
          · exact .inr (Nat.le_trans HK.out.size e)
    · obtain rfl : i = n := by omega
      have hz : ¬ ((i : Nat) : Int) < (i : Int) := by omega
      have HP1 := Lib.hid (show MPost w (Foot g tb vo (.slice A i c) vl vt) g { m with told := m.told ++ m.way.map (·.2) } wr from ⟨_, ⟨_, _, _, _, _, _, _, by have := HP.out; rw [List.take_of_length_le (by have := HRL.out; have := HN.out; omega)] at this; exact this, rfl⟩, HK.out, fun k e => by
        rcases e with e | e | e | e | e | e
        · exact .inl (.inl e)
        · exact .inl (.inr (.inl e))
        · exact .inl (.inr (.inr (.inl e)))
        · exact .inl (.inr (.inr (.inr (.inl e))))
        · exact .inl (.inr (.inr (.inr (.inr (.inl e)))))
        · exact (HF.out k e).elim (fun e => .inl (.inr (.inr (.inr (.inr (.inr e)))))) .inr⟩)
      obtain ⟨F1, hm1, hk1, hf1⟩ := HP1.out
      have HLA := Lib.hid (fun W (hb : Below wr.heap.size wr W) => last_calls (hm1.below hb) HB0.out HW0.out)
      have HDR := Lib.hid (fun W (hb : Below wr.heap.size wr W) => drop_calls (hm1.below hb) m.done HB0.out HW0.out ⟨by unfold Mem.done; show m.behind ≤ _; omega, Int.le_refl _⟩)
      obtain ⟨dn, HDN⟩ : ∃ d, Hid (m.done = d) := ⟨_, Lib.hid rfl⟩
      rw [show (Mem.done { m with told := m.told ++ m.way.map (·.2) }) = m.done from rfl] at HLA
      rw [HDN.out] at HLA HDR
      have HWE := Lib.hid (show m.way.drop (dn - m.behind).toNat = [] by rw [← HDN.out]; unfold Mem.done; exact List.drop_of_length_le (by omega))
      have HK1 := Lib.hid hk1
      have HF1 := Lib.hid hf1
      clear hm1 hk1 hf1
      go_wp2_with (fail)
      refine start_ (n := 8) (S := fun w' => True) (ds := []) #[false, false, false, false, false, false, false, false] (by kernel_rfl) rfl rfl trivial (fun hHeld => ?_)
      refine pure_ (i := 0) (N := some 26) (v := ?_) (a' := ?_) #[true, false, false, false, false, false, false, false] rfl rfl (by kernel_rfl) (fun _ _ _ h => h) (Or.inl ⟨by rfl, ?_⟩) ?_ ?_
      rotate_left
      · intro w'
        go_simp
        with_reducible rfl
      rotate_left
      · simp only [Act.put, List.setIfInBounds_toArray, List.set_cons_zero, List.set_cons_succ, i64_w, i32_w]
        rfl
      refine pure_ (i := 1) (N := some 27) (v := ?_) (a' := ?_) #[true, true, false, false, false, false, false, false] rfl rfl (by kernel_rfl) (fun _ _ _ h => h) (Or.inl ⟨by rfl, ?_⟩) ?_ ?_
      rotate_left
      · intro w'
        go_simp
        with_reducible rfl
      rotate_left
      · simp only [Act.put, List.setIfInBounds_toArray, List.set_cons_zero, List.set_cons_succ, i64_w, i32_w]
        rfl
      refine pure_ (i := 2) (N := some 28) (v := ?_) (a' := ?_) #[true, true, true, false, false, false, false, false] rfl rfl (by kernel_rfl) (fun _ _ _ h => h) (Or.inl ⟨by rfl, ?_⟩) ?_ ?_
      rotate_left
      · intro w'
        go_simp
        with_reducible rfl
      rotate_left
      · simp only [Act.put, List.setIfInBounds_toArray, List.set_cons_zero, List.set_cons_succ, i64_w, i32_w]
        rfl
      refine pure_ (i := 3) (N := some 29) (v := ?_) (a' := ?_) #[true, true, true, true, false, false, false, false] rfl rfl (by kernel_rfl) (fun _ _ _ h => h) (Or.inl ⟨by rfl, ?_⟩) ?_ ?_
      rotate_left
      · intro w'
        go_simp
        with_reducible rfl
      rotate_left
      · simp only [Act.put, List.setIfInBounds_toArray, List.set_cons_zero, List.set_cons_succ, i64_w, i32_w]
        rfl
      refine pure_ (i := 4) (N := some 30) (v := ?_) (a' := ?_) #[true, true, true, true, true, false, false, false] rfl rfl (by kernel_rfl) (fun _ _ _ h => h) (Or.inl ⟨by rfl, ?_⟩) ?_ ?_
      rotate_left
      · intro w'
        go_simp
        with_reducible rfl
      rotate_left
      · simp only [Act.put, List.setIfInBounds_toArray, List.set_cons_zero, List.set_cons_succ, i64_w, i32_w]
        rfl
      refine pure_ (i := 5) (N := some 31) (v := ?_) (a' := ?_) #[true, true, true, true, true, true, false, false] rfl rfl (by kernel_rfl) (fun _ _ _ h => h) (Or.inl ⟨by rfl, ?_⟩) ?_ ?_
      rotate_left
      · intro w'
        go_simp
        with_reducible rfl
      rotate_left
      · simp only [Act.put, List.setIfInBounds_toArray, List.set_cons_zero, List.set_cons_succ, i64_w, i32_w]
        rfl
      refine one_ (i := 6) (N := some 32) #[true, true, true, true, true, true, true, false] rfl rfl (by kernel_rfl) (by decide) (fun K hK => ?_)
      refine goes_ Tryz.func37 (by kernel_rfl) rfl #[.pointer (some ⟨g, 4, none⟩)] (by rfl) rfl rfl (by simp only [List.map_toArray, List.map_cons, List.map_nil]; rfl) ?_
      with_reducible refine (HLA.out _ (Below.refl _ wr).drew).mono ?_
      rintro e w3 ⟨rfl, hb3⟩
      have B3 := Lib.hid (show Below wr.heap.size wr w3 from (Below.refl _ wr).drew.trans hb3)
      clear hb3
      refine ⟨_, rfl, ?_⟩
      refine hK.out _ _ trivial (fun hHeld => ?_)
      clear hK K
      refine norm_ (a' := ?_) ?_ ?_
      rotate_left
      · show Act.put _ (some 32) _ = _
        simp only [Act.put, List.setIfInBounds_toArray, List.set_cons_zero, List.set_cons_succ, i64_w, i32_w]
        rfl
      refine one_ (i := 7) (N := some 33) #[true, true, true, true, true, true, true, true] rfl rfl (by kernel_rfl) (by decide) (fun K hK => ?_)
      refine goes_ Tryz.func49 (by kernel_rfl) rfl #[.pointer (some ⟨g, 4, none⟩), .int .i64 dn] (by rfl) rfl rfl (by simp only [List.map_toArray, List.map_cons, List.map_nil]; rfl) ?_
      with_reducible refine (HDR.out _ B3.out).mono ?_
      rintro e w4 ⟨rfl, h4⟩
      have H4 := Lib.hid h4
      clear h4
      refine ⟨_, rfl, ?_⟩
      refine hK.out _ _ trivial (fun hHeld => ?_)
      clear hK K
      refine norm_ (a' := ?_) ?_ ?_
      rotate_left
      · show Act.put _ (some 33) _ = _
        simp only [Act.put, List.setIfInBounds_toArray, List.set_cons_zero, List.set_cons_succ, i64_w, i32_w]
        rfl
      refine done_ (by kernel_rfl) ?_
      obtain ⟨F4, hm4, hk4, hf4⟩ := H4.out
      have HUP := Lib.hid (fun W (hb : Below w4.heap.size w4 W) => up_calls (hm4.below hb) HO0.out HE0.out (show Num63 dn by rw [← HDN.out]; unfold Mem.done; have := HB0.out; have := HW0.out; exact ⟨by omega, by omega⟩) HL0.out)
      have HK4 := Lib.hid hk4
      have HF4 := Lib.hid hf4
      clear hm4 hk4 hf4
      go_wp2_with (fail)
      refine (HUP.out _ (Below.refl _ _)).mono ?_
      rintro e w5 ⟨rfl, h5⟩
      go_wp2
      go_end0
      refine ⟨rfl, MPost.join HK1.out HF1.out (MPost.from_ B3.out (MPost.join HK4.out HF4.out ?_))⟩
      have e : m.settled = Mem.upd { m with told := m.told ++ m.way.map (·.2), behind := dn, way := m.way.drop (dn - m.behind).toNat } := by rw [HWE.out, ← HDN.out]; rfl
      rw [e]
      exact h5
end Go.Proofs.YtdfdlajfjcakaaaGreat
