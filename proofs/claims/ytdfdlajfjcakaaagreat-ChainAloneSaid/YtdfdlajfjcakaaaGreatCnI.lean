import Derived.Test.YtdfdlajfjcakaaaGreatCnH
namespace Go.Proofs.YtdfdlajfjcakaaaGreat
open Go Go.RowKit
open Go.Proofs.YtdfdlajfjcakaaaGreatW.PrintLast
set_option linter.unusedVariables false
set_option linter.unusedSimpArgs false
set_option maxRecDepth 100000

/-! do. -/
theorem ResL.form {w : World} {v : Value} {l : List ResT} (h : ResL w v l) : ∃ A n c, v = .slice A n c := by
  obtain ⟨raw, hs, _⟩ := h
  obtain ⟨A, c, e, _⟩ := hs.shape
  exact ⟨A, _, c, e⟩
theorem set3at {w : World} {b ty : Nat} {a0 a1 a2 : Value} (h : Blk w b ty #[a0, a1, a2]) (x2 : Value) : Blk (w.setCell ⟨b, 2, none⟩ x2) b ty #[a0, a1, x2] := by
  have := h.set_ 2 x2
  simpa using this
/-- The reply of a request done. -/
def repOf (l : List RowT) (r : ReqT) : RepT := ⟨r.client, r.seq, (doT l r.ops).1.1, (doT l r.ops).1.2.1, (doT l r.ops).1.2.2⟩
def Mem.did (m : Mem) (r : ReqT) : Mem := { m with rows := (doT m.rows r.ops).2, way := m.way ++ [(r, repOf m.rows r)] }
def Mem.doM (m : Mem) (r : ReqT) : Mem := if (m.did r).tail = true then (m.did r).settled else (m.did r).dnd (m.done + 1) r
/-- What a member must be for its calls. -/
structure Mem.Ok (m : Mem) : Prop where
  order : m.order.length ≤ 1000
  epoch : 0 ≤ m.epoch ∧ m.epoch ≤ 1073741824
  behind : 0 ≤ m.behind ∧ m.behind ≤ 2147483648
  way : m.way.length ≤ 100000
  out : m.out.length ≤ 100000
  told : m.told.length ≤ 100000
  rows : RowsOk m.rows
theorem MemP.putR {w w1 : World} {g : Nat} {m : Mem} {tb : Nat} {vo vw vl vt : Value} {rw_ : List UndW} {rt : List RepW} {l' : List RowT} (h : MemP w g m tb vo vw vl vt rw_ rt) (hk : Kept w w1 (fun k => k = tb)) (ht : TabAt w1 tb l') : MemP w1 g { m with rows := l' } tb vo vw vl vt rw_ rt := by
  obtain ⟨cs, hc⟩ := h.t.blk
  have hz : Frz w (fun k => k = tb) := ⟨NoT.one hc (by decide), NoT.one hc (by decide), NoT.one hc (by decide)⟩
  exact { b := h.b.kept hk (fun e => by subst e; exact hc.ne_ h.b (by decide) rfl), o := h.o.keptT hk (NoT.one hc (by decide)), t := ht, r := h.r.keptT hk (NoT.one hc (by decide)), ri := h.ri.imp (fun _ _ x => x.kept hk hz), l := h.l.keptT hk (NoT.one hc (by decide)), d := h.d.keptT hk (NoT.one hc (by decide)), di := h.di.imp (fun _ _ x => x.kept hk hz) }
set_option maxHeartbeats 8000000 in
theorem do_calls {w : World} {F : Nat → Prop} {g : Nat} {m : Mem} (h : MemAt w F g m) (hok : m.Ok) (r : ReqT) (v : Value) (hv : SegG w OpT.cells v r.ops) (hm : reqMay r = true) (hs : (encR r).1.size ≤ 60000) :
    Calls Tryz.prog 38 #[.pointer (some ⟨g, 0, none⟩), r.v v] w fun e w' => e = .returned (.int .i64 (m.done + 1)) ∧ MPost w F g (m.doM r) w' := by
  obtain ⟨A, k, c, rfl⟩ : ∃ A k c, v = .slice A k c := by obtain ⟨A, c, e, _⟩ := hv.shape; exact ⟨A, _, c, e⟩
  obtain ⟨_, _, _, _, hn1, hn2, hmay⟩ := req_may hm
  have B0 := Lib.hid ((Below.refl w.heap.size w).alloc (Nat.le_refl _) (.cells #[.int .i64 r.client, .int .i64 r.seq, .slice A k c] 39))
  have hcl := clone_ops (.slice A k c) r.ops _ (hv.below B0.out) (by omega) one_op (fun _ => rfl)
  have HX0 := Lib.hid (Blk.new w 39 #[.int .i64 r.client, .int .i64 r.seq, .slice A k c])
  have x2 := HX0.out.cell 2
  have hsz0 : (w.alloc (.cells #[.int .i64 r.client, .int .i64 r.seq, .slice A k c] 39)).heap.size = w.heap.size + 1 := World.size_alloc ..
  have HV := Lib.hid hv
  have HOK := Lib.hid hok
  have HMAY := Lib.hid hmay
  have HN1 := Lib.hid hn1
  have HN2 := Lib.hid hn2
  have HSZ := Lib.hid hs
  have HM := Lib.hid h
  clear h hok hv hmay hn1 hn2 hm hs
  unfold ReqT.v
  go_enter Tryz.func38, Tryz.ntmps38
  go_wp2_with (fail)
  generalize (w.alloc (.cells #[.int .i64 r.client, .int .i64 r.seq, .slice A k c] 39)) = wa at *
  refine hcl.mono ?_
  rintro e wc ⟨v2, rfl, hr2, hb2, hf2⟩
  obtain ⟨A2, n2, c2, rfl⟩ := hr2.some_slice
  have HX1 := Lib.hid (show Blk wc w.heap.size 39 _ from HX0.out.kept (Kept.of_below hb2 fun _ => False) (fun h => h))
  have BC := Lib.hid (B0.out.trans (hb2.mono B0.out.size))
  have HR2 := Lib.hid hr2
  have HX2 := Lib.hid (set3at HX1.out (.slice A2 n2 c2))
  have B1' := Lib.hid (show Below w.heap.size w (wc.setCell ⟨w.heap.size, 2, none⟩ (.slice A2 n2 c2)) from BC.out.setCell (p := ⟨w.heap.size, 2, none⟩) (Nat.le_refl _) _)
  have hopk : Kept wc (wc.setCell ⟨w.heap.size, 2, none⟩ (.slice A2 n2 c2)) (fun k => k = w.heap.size) := (Kept.refl wc fun k => k = w.heap.size).setCell (p := ⟨w.heap.size, 2, none⟩) (.inl rfl) _
  have HOP := Lib.hid (show OpsV (wc.setCell ⟨w.heap.size, 2, none⟩ (.slice A2 n2 c2)) (.slice A2 n2 c2) r.ops from by
    have h1 : Row (wc.setCell ⟨w.heap.size, 2, none⟩ (.slice A2 n2 c2)) 85 6 OpT.cells (.slice A2 n2 c2) r.ops := hr2.keptT hopk (NoT.one HX1.out (by decide))
    exact ⟨SegG.of_row h1, fun k e => h1.typed e⟩)
  have y1 := HX1.out.cell 2
  have w1f := HX1.out.frozen 2
  have hbl := HX1.out.lt
  clear hcl hr2 hb2 hf2 hopk x2 HX0 HX1
  go_wp2_with (fail)
  generalize wc.setCell ⟨w.heap.size, 2, none⟩ (.slice A2 n2 c2) = w1 at *
  clear y1 w1f hbl
  have hM1 := HM.out.below B1'.out
  obtain ⟨tb, vo, vw, vl, vt, rw_, rt, hM1, rfl⟩ := hM1
  have HP1 := Lib.hid hM1
  have c3 := hM1.b.cell 3
  have hgl1 := hM1.b.lt
  have y2 := HX2.out.cell 2
  have hbl1 := HX2.out.lt
  have htl := hM1.t.lt
  have hgt : ¬ (fun k => k = tb) g := fun e => by obtain ⟨ct, ht⟩ := hM1.t.blk; have e : g = tb := e; subst e; exact ht.ne_ hM1.b (by decide) rfl
  have hbt : ¬ (fun k => k = tb) w.heap.size := fun e => by obtain ⟨ct, ht⟩ := hM1.t.blk; have e : w.heap.size = tb := e; rw [← e] at ht; exact ht.ne_ HX2.out (by decide) rfl
  have B1 := Lib.hid (Below.refl w1.heap.size w1)
  have HDO := Lib.hid (fun W (hb : Below w1.heap.size w1 W) => tab_do tb m.rows r.ops (.slice A2 n2 c2) W (hM1.t.below hb) HOK.out.rows (HOP.out.1.below hb) HMAY.out HN1.out HN2.out)
  obtain ⟨fa, HFA⟩ : ∃ x, Hid ((doT m.rows r.ops).1.2.1 = x) := ⟨_, Lib.hid rfl⟩
  obtain ⟨fc, HFC⟩ : ∃ x, Hid ((doT m.rows r.ops).1.2.2 = x) := ⟨_, Lib.hid rfl⟩
  obtain ⟨rs, HRS⟩ : ∃ x, Hid ((doT m.rows r.ops).1.1 = x) := ⟨_, Lib.hid rfl⟩
  obtain ⟨rows', HRO⟩ : ∃ x, Hid ((doT m.rows r.ops).2 = x) := ⟨_, Lib.hid rfl⟩
  rw [HFA.out, HFC.out, HRS.out, HRO.out] at HDO
  have HREP := Lib.hid (show repOf m.rows r = ⟨r.client, r.seq, rs, fa, fc⟩ by unfold repOf; rw [HFA.out, HFC.out, HRS.out])
  clear hM1
  go_wp2_with (fail)
  refine start_ (n := 13) (S := fun w' => w'.cell? ⟨g, 3, none⟩ = some (.pointer (some ⟨tb, 0, none⟩)) ∧ w'.cell? ⟨w.heap.size, 2, none⟩ = some (.slice A2 n2 c2)) (ds := [12]) #[false, false, false, false, false, false, false, false, false, false, false, false, false] (by kernel_rfl) rfl rfl ⟨(B1.out.drew.cell (p := ⟨g, 3, none⟩) hgl1).trans c3, (B1.out.drew.cell (p := ⟨w.heap.size, 2, none⟩) hbl1).trans y2⟩ (fun hHeld => ?_)
  refine pure_ (i := 0) (N := some 13) (v := ?_) (a' := ?_) #[true, false, false, false, false, false, false, false, false, false, false, false, false] rfl rfl (by kernel_rfl) (fun _ _ _ h => h) (Or.inl ⟨by rfl, ?_⟩) ?_ ?_
  rotate_left
  · intro w'
    go_simp
    with_reducible rfl
  rotate_left
  · simp only [Act.put, List.setIfInBounds_toArray, List.set_cons_zero, List.set_cons_succ, i64_w, i32_w]
    rfl
  refine pure_ (i := 1) (N := some 14) (v := ?_) (a' := ?_) #[true, true, false, false, false, false, false, false, false, false, false, false, false] rfl rfl (by kernel_rfl) (fun _ _ _ h => h) (Or.inl ⟨by rfl, ?_⟩) ?_ ?_
  rotate_left
  · intro w'
    go_simp
    with_reducible rfl
  rotate_left
  · simp only [Act.put, List.setIfInBounds_toArray, List.set_cons_zero, List.set_cons_succ, i64_w, i32_w]
    rfl
  refine pure_ (i := 2) (N := some 15) (v := ?_) (a' := ?_) #[true, true, true, false, false, false, false, false, false, false, false, false, false] rfl rfl (by kernel_rfl) (fun _ _ _ h => h) (Or.inl ⟨by rfl, ?_⟩) ?_ ?_
  rotate_left
  · intro w'
    go_simp
    with_reducible rfl
  rotate_left
  · simp only [Act.put, List.setIfInBounds_toArray, List.set_cons_zero, List.set_cons_succ, i64_w, i32_w]
    rfl
  refine pure_ (i := 4) (N := some 17) (v := ?_) (a' := ?_) #[true, true, true, false, true, false, false, false, false, false, false, false, false] rfl rfl (by kernel_rfl) (fun _ _ _ h => h) (Or.inl ⟨by rfl, ?_⟩) ?_ ?_
  rotate_left
  · intro w'
    go_simp
    with_reducible rfl
  rotate_left
  · simp only [Act.put, List.setIfInBounds_toArray, List.set_cons_zero, List.set_cons_succ, i64_w, i32_w]
    rfl
  refine take_ (i := 3) (N := some 16) (v := ?_) (a' := ?_) #[true, true, true, true, true, false, false, false, false, false, false, false, false] rfl rfl (by kernel_rfl) (fun _ _ _ h => h) (Or.inl ⟨by rfl, ?_⟩) hHeld ?_ ?_
  rotate_left
  · rintro w' ⟨s0, s1⟩
    go_simp
    with_reducible rfl
  rotate_left
  · simp only [Act.put, List.setIfInBounds_toArray, List.set_cons_zero, List.set_cons_succ, i64_w, i32_w]
    rfl
  refine take_ (i := 5) (N := some 18) (v := ?_) (a' := ?_) #[true, true, true, true, true, true, false, false, false, false, false, false, false] rfl rfl (by kernel_rfl) (fun _ _ _ h => h) (Or.inl ⟨by rfl, ?_⟩) hHeld ?_ ?_
  rotate_left
  · rintro w' ⟨s0, s1⟩
    go_simp
    with_reducible rfl
  rotate_left
  · simp only [Act.put, List.setIfInBounds_toArray, List.set_cons_zero, List.set_cons_succ, i64_w, i32_w]
    rfl
  refine join_ (σ := (Option Addr × Nat × Nat) × Nat) 2 #[true, true, true, true, true, true, true, true, true, true, true, false, false] (fun q => [(19, (.tuple #[.slice q.1.1 q.1.2.1 q.1.2.2, .agg #[.int .i64 fa, .int .i64 fc]])), (12, (.tuple #[.slice q.1.1 q.1.2.1 q.1.2.2, .agg #[.int .i64 fa, .int .i64 fc]])), (20, .slice q.1.1 q.1.2.1 q.1.2.2), (21, .agg #[.int .i64 fa, .int .i64 fc]), (6, .pointer (some ⟨q.2, 0, none⟩))]) (fun q w' => (Kept w1 w' (fun k => k = tb) ∧ ResL w' (.slice q.1.1 q.1.2.1 q.1.2.2) rs ∧ TabAt w' tb rows') ∧ (Blk w' q.2 32 #[.int .i64 0, .int .i64 0] ∧ w1.heap.size ≤ q.2)) ?_ ?_
  rotate_left
  · intro hJ6_10
    refine join_ (σ := (Option Addr × Nat × Nat) × Nat) 3 #[true, true, true, true, true, true, true, true, true, true, false, false, false] (fun q => [(19, (.tuple #[.slice q.1.1 q.1.2.1 q.1.2.2, .agg #[.int .i64 fa, .int .i64 fc]])), (12, (.tuple #[.slice q.1.1 q.1.2.1 q.1.2.2, .agg #[.int .i64 fa, .int .i64 fc]])), (20, .slice q.1.1 q.1.2.1 q.1.2.2), (21, .agg #[.int .i64 fa, .int .i64 fc])]) (fun q w' => (Kept w1 w' (fun k => k = tb) ∧ ResL w' (.slice q.1.1 q.1.2.1 q.1.2.2) rs ∧ TabAt w' tb rows') ∧ True) ?_ ?_
    rotate_left
    · intro hJ6
      refine join_ (σ := (Option Addr × Nat × Nat) × Nat) 6 #[true, true, true, true, true, true, false, false, false, false, true, false, false] (fun q => [(6, .pointer (some ⟨q.2, 0, none⟩))]) (fun q w' => Below w1.heap.size w1 w' ∧ (Blk w' q.2 32 #[.int .i64 0, .int .i64 0] ∧ w1.heap.size ≤ q.2)) ?_ ?_
      rotate_left
      · intro hJ10
        refine two_ (i := 6) (j := 10) (Ni := some 19) (Nj := some 6) #[true, true, true, true, true, true, true, false, false, false, false, false, false] #[true, true, true, true, true, true, false, false, false, false, true, false, false] rfl rfl rfl rfl (by kernel_rfl) (by decide) (by decide) (fun K hK => ?_) (fun K hK => ?_)
        · skip
          refine goes_ Tryz.func20 (by kernel_rfl) rfl #[.pointer (some ⟨tb, 0, none⟩), .slice A2 n2 c2] (by rfl) rfl rfl (by simp only [List.map_toArray, List.map_cons, List.map_nil]; rfl) ?_
          with_reducible refine (HDO.out _ B1.out.drew).mono ?_
          rintro e w8 ⟨rv8, rfl, hr8, ht8, hk8⟩
          obtain ⟨A8, n8, c8, rfl⟩ := hr8.form
          have K8 := Lib.hid (show Kept w1 w8 (fun k => k = tb) from (Kept.of_below B1.out.drew _).trans hk8)
          have R8 := Lib.hid hr8
          have T8 := Lib.hid ht8
          clear hr8 ht8 hk8
          refine ⟨_, rfl, ?_⟩
          refine hK.out _ _ ⟨(K8.out.cell (p := ⟨g, 3, none⟩) hgl1 hgt).trans c3, (K8.out.cell (p := ⟨w.heap.size, 2, none⟩) hbl1 hbt).trans y2⟩ (fun hHeld => ?_)
          clear hK K
          refine norm_ (a' := ?_) ?_ ?_
          rotate_left
          · show Act.put _ (some 19) _ = _
            simp only [Act.put, List.setIfInBounds_toArray, List.set_cons_zero, List.set_cons_succ, i64_w, i32_w]
            rfl
          refine pure_ (i := 7) (N := some 12) (v := ?_) (a' := ?_) #[true, true, true, true, true, true, true, true, false, false, false, false, false] rfl rfl (by kernel_rfl) (fun _ _ _ h => h) (Or.inl ⟨by rfl, ?_⟩) ?_ ?_
          rotate_left
          · intro w'
            go_simp
            with_reducible rfl
          rotate_left
          · simp only [Act.put, List.setIfInBounds_toArray, List.set_cons_zero, List.set_cons_succ, i64_w, i32_w]
            rfl
          refine pure_ (i := 8) (N := some 20) (v := ?_) (a' := ?_) #[true, true, true, true, true, true, true, true, true, false, false, false, false] rfl rfl (by kernel_rfl) (fun _ _ _ h => h) (Or.inl ⟨by rfl, ?_⟩) ?_ ?_
          rotate_left
          · intro w'
            go_simp
            with_reducible rfl
          rotate_left
          · simp only [Act.put, List.setIfInBounds_toArray, List.set_cons_zero, List.set_cons_succ, i64_w, i32_w]
            rfl
          refine pure_ (i := 9) (N := some 21) (v := ?_) (a' := ?_) #[true, true, true, true, true, true, true, true, true, true, false, false, false] rfl rfl (by kernel_rfl) (fun _ _ _ h => h) (Or.inl ⟨by rfl, ?_⟩) ?_ ?_
          rotate_left
          · intro w'
            go_simp
            with_reducible rfl
          rotate_left
          · simp only [Act.put, List.setIfInBounds_toArray, List.set_cons_zero, List.set_cons_succ, i64_w, i32_w]
            rfl
          exact norm_ (by first | (simp only [putAll, Act.put, List.setIfInBounds_toArray, List.set_cons_zero, List.set_cons_succ]; done) | (simp only [putAll, Act.put, List.setIfInBounds_toArray, List.set_cons_zero, List.set_cons_succ]; rfl)) (hJ6 ((A8, n8, c8), 0) _ ⟨⟨K8.out, R8.out, T8.out⟩, trivial⟩)
        · skip
          refine value_ (w1 := ?_) (v := ?_) (by rfl) rfl ?_ ?_
          rotate_left 2
          · go_simp
            constructor
            · rfl
            · rfl
          have B8 := Lib.hid (B1.out.drew.alloc B1.out.drew.size (.cells #[.int .i64 0, .int .i64 0] 32))
          have X8 := Lib.hid (And.intro (Blk.new w1.drew 32 #[.int .i64 0, .int .i64 0]) B1.out.drew.size)
          refine hK.out _ _ ⟨(B8.out.cell (p := ⟨g, 3, none⟩) hgl1).trans c3, (B8.out.cell (p := ⟨w.heap.size, 2, none⟩) hbl1).trans y2⟩ (fun hHeld => ?_)
          clear hK K
          refine norm_ (a' := ?_) ?_ ?_
          rotate_left
          · show Act.put _ (some 6) _ = _
            simp only [Act.put, List.setIfInBounds_toArray, List.set_cons_zero, List.set_cons_succ, i64_w, i32_w]
            rfl
          exact norm_ (by first | (simp only [putAll, Act.put, List.setIfInBounds_toArray, List.set_cons_zero, List.set_cons_succ]; done) | (simp only [putAll, Act.put, List.setIfInBounds_toArray, List.set_cons_zero, List.set_cons_succ]; rfl)) (hJ10 ((none, 0, 0), w1.drew.heap.size) _ ⟨B8.out, X8.out⟩)
      · skip
        rintro ⟨⟨A7, n7, c7⟩, p7⟩ w7 ⟨k7, x7⟩
        have K7 := Lib.hid k7
        have X7 := Lib.hid x7
        have hHeld := (show (w7.cell? ⟨g, 3, none⟩ = some (.pointer (some ⟨tb, 0, none⟩)) ∧ w7.cell? ⟨w.heap.size, 2, none⟩ = some (.slice A2 n2 c2)) from ⟨(K7.out.cell (p := ⟨g, 3, none⟩) hgl1).trans c3, (K7.out.cell (p := ⟨w.heap.size, 2, none⟩) hbl1).trans y2⟩)
        clear k7 x7
        refine norm_ (a' := ?_) ?_ ?_
        rotate_left
        · simp only [putAll, Act.put, List.setIfInBounds_toArray, List.set_cons_zero, List.set_cons_succ]
          rfl
        refine one_ (i := 6) (N := some 19) #[true, true, true, true, true, true, true, false, false, false, true, false, false] rfl rfl (by kernel_rfl) (by decide) (fun K hK => ?_)
        refine goes_ Tryz.func20 (by kernel_rfl) rfl #[.pointer (some ⟨tb, 0, none⟩), .slice A2 n2 c2] (by rfl) rfl rfl (by simp only [List.map_toArray, List.map_cons, List.map_nil]; rfl) ?_
        with_reducible refine (HDO.out _ K7.out).mono ?_
        rintro e w8 ⟨rv8, rfl, hr8, ht8, hk8⟩
        obtain ⟨A8, n8, c8, rfl⟩ := hr8.form
        have K8 := Lib.hid (show Kept w1 w8 (fun k => k = tb) from (Kept.of_below K7.out _).trans hk8)
        have X8 := Lib.hid (And.intro (X7.out.1.kept hk8 (by have := X7.out.2; omega)) X7.out.2)
        have R8 := Lib.hid hr8
        have T8 := Lib.hid ht8
        clear hr8 ht8 hk8
        refine ⟨_, rfl, ?_⟩
        refine hK.out _ _ ⟨(K8.out.cell (p := ⟨g, 3, none⟩) hgl1 hgt).trans c3, (K8.out.cell (p := ⟨w.heap.size, 2, none⟩) hbl1 hbt).trans y2⟩ (fun hHeld => ?_)
        clear hK K
        refine norm_ (a' := ?_) ?_ ?_
        rotate_left
        · show Act.put _ (some 19) _ = _
          simp only [Act.put, List.setIfInBounds_toArray, List.set_cons_zero, List.set_cons_succ, i64_w, i32_w]
          rfl
        refine pure_ (i := 7) (N := some 12) (v := ?_) (a' := ?_) #[true, true, true, true, true, true, true, true, false, false, true, false, false] rfl rfl (by kernel_rfl) (fun _ _ _ h => h) (Or.inl ⟨by rfl, ?_⟩) ?_ ?_
        rotate_left
        · intro w'
          go_simp
          with_reducible rfl
        rotate_left
        · simp only [Act.put, List.setIfInBounds_toArray, List.set_cons_zero, List.set_cons_succ, i64_w, i32_w]
          rfl
        refine pure_ (i := 8) (N := some 20) (v := ?_) (a' := ?_) #[true, true, true, true, true, true, true, true, true, false, true, false, false] rfl rfl (by kernel_rfl) (fun _ _ _ h => h) (Or.inl ⟨by rfl, ?_⟩) ?_ ?_
        rotate_left
        · intro w'
          go_simp
          with_reducible rfl
        rotate_left
        · simp only [Act.put, List.setIfInBounds_toArray, List.set_cons_zero, List.set_cons_succ, i64_w, i32_w]
          rfl
        refine pure_ (i := 9) (N := some 21) (v := ?_) (a' := ?_) #[true, true, true, true, true, true, true, true, true, true, true, false, false] rfl rfl (by kernel_rfl) (fun _ _ _ h => h) (Or.inl ⟨by rfl, ?_⟩) ?_ ?_
        rotate_left
        · intro w'
          go_simp
          with_reducible rfl
        rotate_left
        · simp only [Act.put, List.setIfInBounds_toArray, List.set_cons_zero, List.set_cons_succ, i64_w, i32_w]
          rfl
        exact norm_ (by first | (simp only [putAll, Act.put, List.setIfInBounds_toArray, List.set_cons_zero, List.set_cons_succ]; done) | (simp only [putAll, Act.put, List.setIfInBounds_toArray, List.set_cons_zero, List.set_cons_succ]; rfl)) (hJ6_10 ((A8, n8, c8), p7) _ ⟨⟨K8.out, R8.out, T8.out⟩, X8.out⟩)
    · skip
      rintro ⟨⟨A7, n7, c7⟩, p7⟩ w7 ⟨k7, x7⟩
      have K7 := Lib.hid k7
      have X7 := Lib.hid x7
      have hHeld := (show (w7.cell? ⟨g, 3, none⟩ = some (.pointer (some ⟨tb, 0, none⟩)) ∧ w7.cell? ⟨w.heap.size, 2, none⟩ = some (.slice A2 n2 c2)) from ⟨(K7.out.1.cell (p := ⟨g, 3, none⟩) hgl1 hgt).trans c3, (K7.out.1.cell (p := ⟨w.heap.size, 2, none⟩) hbl1 hbt).trans y2⟩)
      clear k7 x7
      refine norm_ (a' := ?_) ?_ ?_
      rotate_left
      · simp only [putAll, Act.put, List.setIfInBounds_toArray, List.set_cons_zero, List.set_cons_succ]
        rfl
      refine one_ (i := 10) (N := some 6) #[true, true, true, true, true, true, true, true, true, true, true, false, false] rfl rfl (by kernel_rfl) (by decide) (fun K hK => ?_)
      refine value_ (w1 := ?_) (v := ?_) (by rfl) rfl ?_ ?_
      rotate_left 2
      · go_simp
        constructor
        · rfl
        · rfl
      have K8 := Lib.hid (K7.out.1.alloc (.cells #[.int .i64 0, .int .i64 0] 32))
      have R8 := Lib.hid (K7.out.2.1.below ((Below.refl _ w7).alloc (Nat.le_refl _) (.cells #[.int .i64 0, .int .i64 0] 32)))
      have T8 := Lib.hid (K7.out.2.2.below ((Below.refl _ w7).alloc (Nat.le_refl _) (.cells #[.int .i64 0, .int .i64 0] 32)))
      have X8 := Lib.hid (And.intro (Blk.new w7 32 #[.int .i64 0, .int .i64 0]) K7.out.1.size)
      refine hK.out _ _ ⟨(K8.out.cell (p := ⟨g, 3, none⟩) hgl1 hgt).trans c3, (K8.out.cell (p := ⟨w.heap.size, 2, none⟩) hbl1 hbt).trans y2⟩ (fun hHeld => ?_)
      clear hK K
      refine norm_ (a' := ?_) ?_ ?_
      rotate_left
      · show Act.put _ (some 6) _ = _
        simp only [Act.put, List.setIfInBounds_toArray, List.set_cons_zero, List.set_cons_succ, i64_w, i32_w]
        rfl
      exact norm_ (by first | (simp only [putAll, Act.put, List.setIfInBounds_toArray, List.set_cons_zero, List.set_cons_succ]; done) | (simp only [putAll, Act.put, List.setIfInBounds_toArray, List.set_cons_zero, List.set_cons_succ]; rfl)) (hJ6_10 ((A7, n7, c7), w7.heap.size) _ ⟨⟨K8.out, R8.out, T8.out⟩, X8.out⟩)
  rintro ⟨⟨A7, n7, c7⟩, p7⟩ w7 ⟨k7, x7⟩
  have K7 := Lib.hid k7
  have X7 := Lib.hid x7
  have hHeld := (show (w7.cell? ⟨g, 3, none⟩ = some (.pointer (some ⟨tb, 0, none⟩)) ∧ w7.cell? ⟨w.heap.size, 2, none⟩ = some (.slice A2 n2 c2)) from ⟨(K7.out.1.cell (p := ⟨g, 3, none⟩) hgl1 hgt).trans c3, (K7.out.1.cell (p := ⟨w.heap.size, 2, none⟩) hbl1 hbt).trans y2⟩)
  clear k7 x7
  refine norm_ (a' := ?_) ?_ ?_
  rotate_left
  · simp only [putAll, Act.put, List.setIfInBounds_toArray, List.set_cons_zero, List.set_cons_succ]
    rfl
  refine pure_ (i := 11) (N := some 5) (v := ?_) (a' := ?_) #[true, true, true, true, true, true, true, true, true, true, true, true, false] rfl rfl (by kernel_rfl) (fun _ _ _ h => h) (Or.inl ⟨by rfl, ?_⟩) ?_ ?_
  rotate_left
  · intro w'
    go_simp
    with_reducible rfl
  rotate_left
  · simp only [Act.put, List.setIfInBounds_toArray, List.set_cons_zero, List.set_cons_succ, i64_w, i32_w]
    rfl
  refine last_ (i := 12) (N := none) #[true, true, true, true, true, true, true, true, true, true, true, true, true] rfl rfl (by kernel_rfl) (by decide) (fun K hK => ?_)
  have y0' := X7.out.1.cell 0
  have y1' := X7.out.1.cell 1
  have z0' := X7.out.1.frozen 0
  have z1' := X7.out.1.frozen 1
  have hpl := X7.out.1.lt
  refine skip_ (w1 := ?_) (by rfl) rfl ?_ ?_
  rotate_left
  · go_simp
    rfl
  refine hK.out _ _ ?_
  clear hK K
  refine done_ (by kernel_rfl) ?_
  have h4 := set2 X7.out.1 (.int .i64 fa) (.int .i64 fc)
  have hk10 : Kept w1 _ (fun k => k = tb) := K7.out.1.then_ h4.2 (fun i h => .inr (by have := X7.out.2; omega))
  have hp7b : ¬ p7 = tb := by have := X7.out.2; omega
  have ht10 := K7.out.2.2.kept h4.2 (fun e => hp7b e.symm) (NoT.one X7.out.1 (by decide))
  have hr10 := K7.out.2.1.kept h4.2 (NoT.one X7.out.1 (by decide)) (NoT.one X7.out.1 (by decide))
  have HX10 := Lib.hid (HX2.out.kept hk10 hbt)
  generalize (w7.setCell ⟨p7, 0, none⟩ (.int .i64 fa)).setCell ⟨p7, 1, none⟩ (.int .i64 fc) = w10 at *
  have g0 := h4.1.cell 0
  have g1 := h4.1.cell 1
  have v0 := HX10.out.cell 0
  have v1 := HX10.out.cell 1
  have v2 := HX10.out.cell 2
  have hz1 : Frz w1 (fun k => k = tb) := by obtain ⟨ct, ht⟩ := HP1.out.t.blk; exact ⟨NoT.one ht (by decide), NoT.one ht (by decide), NoT.one ht (by decide)⟩
  have HP10 := Lib.hid (HP1.out.putR hk10 ht10)
  have HOP10 := Lib.hid (HOP.out.kept hk10 hz1)
  have HR10 := Lib.hid hr10
  have HK10 := Lib.hid hk10
  have HPU := Lib.hid (fun W (hb : Below w10.heap.size w10 W) => push_calls (MemAt.below ⟨_, _, _, _, _, _, _, HP10.out, rfl⟩ hb) ⟨r.client, r.seq, A2, n2, c2, ⟨r.client, r.seq, A7, n7, c7, fa, fc⟩⟩ (r, ⟨r.client, r.seq, rs, fa, fc⟩) ⟨rfl, rfl, HOP10.out.kept (Kept.of_below hb fun _ => False) Frz.none, rfl, rfl, rfl, rfl, HR10.out.below hb⟩ (by have := HOK.out.behind; exact ⟨this.1, by show m.behind ≤ _; omega⟩) (by have := HOK.out.way; show m.way.length ≤ _; omega))
  unfold UndW.v at HPU
  clear h4 hk10 ht10 hr10 hz1
  go_wp2_with (fail)
  refine start_ (n := 14) (S := fun w' => w'.cell? ⟨w.heap.size, 0, none⟩ = some (.int .i64 r.client) ∧ w'.cell? ⟨w.heap.size, 1, none⟩ = some (.int .i64 r.seq) ∧ w'.cell? ⟨w.heap.size, 2, none⟩ = some (.slice A2 n2 c2) ∧ w'.cell? ⟨p7, 0, none⟩ = some (.int .i64 fa) ∧ w'.cell? ⟨p7, 1, none⟩ = some (.int .i64 fc)) (ds := [12]) #[false, false, false, false, false, false, false, false, false, false, false, false, false, false] (by kernel_rfl) rfl rfl ⟨v0, v1, v2, g0, g1⟩ (fun hHeld => ?_)
  refine pure_ (i := 0) (N := some 22) (v := ?_) (a' := ?_) #[true, false, false, false, false, false, false, false, false, false, false, false, false, false] rfl rfl (by kernel_rfl) (fun _ _ _ h => h) (Or.inl ⟨by rfl, ?_⟩) ?_ ?_
  rotate_left
  · intro w'
    go_simp
    with_reducible rfl
  rotate_left
  · simp only [Act.put, List.setIfInBounds_toArray, List.set_cons_zero, List.set_cons_succ, i64_w, i32_w]
    rfl
  refine pure_ (i := 1) (N := some 23) (v := ?_) (a' := ?_) #[true, true, false, false, false, false, false, false, false, false, false, false, false, false] rfl rfl (by kernel_rfl) (fun _ _ _ h => h) (Or.inl ⟨by rfl, ?_⟩) ?_ ?_
  rotate_left
  · intro w'
    go_simp
    with_reducible rfl
  rotate_left
  · simp only [Act.put, List.setIfInBounds_toArray, List.set_cons_zero, List.set_cons_succ, i64_w, i32_w]
    rfl
  refine pure_ (i := 2) (N := some 24) (v := ?_) (a' := ?_) #[true, true, true, false, false, false, false, false, false, false, false, false, false, false] rfl rfl (by kernel_rfl) (fun _ _ _ h => h) (Or.inl ⟨by rfl, ?_⟩) ?_ ?_
  rotate_left
  · intro w'
    go_simp
    with_reducible rfl
  rotate_left
  · simp only [Act.put, List.setIfInBounds_toArray, List.set_cons_zero, List.set_cons_succ, i64_w, i32_w]
    rfl
  refine pure_ (i := 4) (N := some 26) (v := ?_) (a' := ?_) #[true, true, true, false, true, false, false, false, false, false, false, false, false, false] rfl rfl (by kernel_rfl) (fun _ _ _ h => h) (Or.inl ⟨by rfl, ?_⟩) ?_ ?_
  rotate_left
  · intro w'
    go_simp
    with_reducible rfl
  rotate_left
  · simp only [Act.put, List.setIfInBounds_toArray, List.set_cons_zero, List.set_cons_succ, i64_w, i32_w]
    rfl
  refine pure_ (i := 6) (N := some 28) (v := ?_) (a' := ?_) #[true, true, true, false, true, false, true, false, false, false, false, false, false, false] rfl rfl (by kernel_rfl) (fun _ _ _ h => h) (Or.inl ⟨by rfl, ?_⟩) ?_ ?_
  rotate_left
  · intro w'
    go_simp
    with_reducible rfl
  rotate_left
  · simp only [Act.put, List.setIfInBounds_toArray, List.set_cons_zero, List.set_cons_succ, i64_w, i32_w]
    rfl
  refine pure_ (i := 8) (N := some 30) (v := ?_) (a' := ?_) #[true, true, true, false, true, false, true, false, true, false, false, false, false, false] rfl rfl (by kernel_rfl) (fun _ _ _ h => h) (Or.inl ⟨by rfl, ?_⟩) ?_ ?_
  rotate_left
  · intro w'
    go_simp
    with_reducible rfl
  rotate_left
  · simp only [Act.put, List.setIfInBounds_toArray, List.set_cons_zero, List.set_cons_succ, i64_w, i32_w]
    rfl
  refine take_ (i := 3) (N := some 25) (v := ?_) (a' := ?_) #[true, true, true, true, true, false, true, false, true, false, false, false, false, false] rfl rfl (by kernel_rfl) (fun _ _ _ h => h) (Or.inl ⟨by rfl, ?_⟩) hHeld ?_ ?_
  rotate_left
  · rintro w' ⟨s0, s1, s2, s3, s4⟩
    go_simp
    with_reducible rfl
  rotate_left
  · simp only [Act.put, List.setIfInBounds_toArray, List.set_cons_zero, List.set_cons_succ, i64_w, i32_w]
    rfl
  refine take_ (i := 5) (N := some 27) (v := ?_) (a' := ?_) #[true, true, true, true, true, true, true, false, true, false, false, false, false, false] rfl rfl (by kernel_rfl) (fun _ _ _ h => h) (Or.inl ⟨by rfl, ?_⟩) hHeld ?_ ?_
  rotate_left
  · rintro w' ⟨s0, s1, s2, s3, s4⟩
    go_simp
    with_reducible rfl
  rotate_left
  · simp only [Act.put, List.setIfInBounds_toArray, List.set_cons_zero, List.set_cons_succ, i64_w, i32_w]
    rfl
  refine take_ (i := 7) (N := some 29) (v := ?_) (a' := ?_) #[true, true, true, true, true, true, true, true, true, false, false, false, false, false] rfl rfl (by kernel_rfl) (fun _ _ _ h => h) (Or.inl ⟨by rfl, ?_⟩) hHeld ?_ ?_
  rotate_left
  · rintro w' ⟨s0, s1, s2, s3, s4⟩
    go_simp
    with_reducible rfl
  rotate_left
  · simp only [Act.put, List.setIfInBounds_toArray, List.set_cons_zero, List.set_cons_succ, i64_w, i32_w]
    rfl
  refine take_ (i := 9) (N := some 31) (v := ?_) (a' := ?_) #[true, true, true, true, true, true, true, true, true, true, false, false, false, false] rfl rfl (by kernel_rfl) (fun _ _ _ h => h) (Or.inl ⟨by rfl, ?_⟩) hHeld ?_ ?_
  rotate_left
  · rintro w' ⟨s0, s1, s2, s3, s4⟩
    go_simp
    with_reducible rfl
  rotate_left
  · simp only [Act.put, List.setIfInBounds_toArray, List.set_cons_zero, List.set_cons_succ, i64_w, i32_w]
    rfl
  refine pure_ (i := 10) (N := some 32) (v := ?_) (a' := ?_) #[true, true, true, true, true, true, true, true, true, true, true, false, false, false] rfl rfl (by kernel_rfl) (fun _ _ _ h => h) (Or.inl ⟨by rfl, ?_⟩) ?_ ?_
  rotate_left
  · intro w'
    go_simp
    with_reducible rfl
  rotate_left
  · simp only [Act.put, List.setIfInBounds_toArray, List.set_cons_zero, List.set_cons_succ, i64_w, i32_w]
    rfl
  refine pure_ (i := 11) (N := some 33) (v := ?_) (a' := ?_) #[true, true, true, true, true, true, true, true, true, true, true, true, false, false] rfl rfl (by kernel_rfl) (fun _ _ _ h => h) (Or.inl ⟨by rfl, ?_⟩) ?_ ?_
  rotate_left
  · intro w'
    go_simp
    with_reducible rfl
  rotate_left
  · simp only [Act.put, List.setIfInBounds_toArray, List.set_cons_zero, List.set_cons_succ, i64_w, i32_w]
    rfl
  refine last_ (i := 12) (N := some 34) #[true, true, true, true, true, true, true, true, true, true, true, true, true, false] rfl rfl (by kernel_rfl) (by decide) (fun K hK => ?_)
  refine goes_ Tryz.func62 (by kernel_rfl) rfl #[.pointer (some ⟨g, 4, none⟩), .agg #[.int .i64 r.client, .int .i64 r.seq, .slice A2 n2 c2, .int .i64 r.client, .int .i64 r.seq, .slice A7 n7 c7, .int .i64 fa, .int .i64 fc]] (by rfl) rfl rfl (by simp only [List.map_toArray, List.map_cons, List.map_nil]; rfl) ?_
  with_reducible refine (HPU.out _ (Below.refl _ w10).drew).mono ?_
  rintro e w11 ⟨rfl, h11⟩
  have H11 := Lib.hid h11
  clear h11
  refine ⟨_, rfl, ?_⟩
  refine hK.out _ _ ?_
  clear hK K
  refine norm_ (a' := ?_) ?_ ?_
  rotate_left
  · show Act.put _ (some 34) _ = _
    simp only [Act.put, List.setIfInBounds_toArray, List.set_cons_zero, List.set_cons_succ, i64_w, i32_w]
    rfl
  refine pure_ (i := 13) (N := some 7) (v := ?_) (a' := ?_) #[true, true, true, true, true, true, true, true, true, true, true, true, true, true] rfl rfl (by kernel_rfl) (fun _ _ _ h => h) (Or.inl ⟨by rfl, ?_⟩) ?_ ?_
  rotate_left
  · intro w'
    go_simp
    with_reducible rfl
  rotate_left
  · simp only [Act.put, List.setIfInBounds_toArray, List.set_cons_zero, List.set_cons_succ, i64_w, i32_w]
    rfl
  refine done_ (by kernel_rfl) ?_
  have HFL := Lib.hid HM.out.flt
  obtain ⟨F11, hm11, hk11, hf11⟩ := H11.out
  have hd0 : (Mem.mk m.id m.epoch m.order rows' m.behind (m.way ++ [(r, ⟨r.client, r.seq, rs, fa, fc⟩)]) m.out m.told) = m.did r := by unfold Mem.did; rw [HREP.out, HRO.out]
  have hm11' : MemAt w11 F11 g (m.did r) := hd0 ▸ hm11
  have HM11 := Lib.hid hm11'
  have HK11 := Lib.hid hk11
  have HF11 := Lib.hid hf11
  have HTA := tail_calls hm11' (show m.order.length ≤ 1000 from HOK.out.order)
  have HX11 := Lib.hid (Blk.kept (show Blk w10.drew w.heap.size 39 _ from HX10.out) hk11 (fun e => Nat.lt_irrefl _ (HFL.out _ e)))
  have HOP11 := Lib.hid (OpsV.kept (show OpsV w10.drew (.slice A2 n2 c2) r.ops from HOP10.out) hk11 (show Frz w10 _ from HP10.out.frz))
  have HFIN := Lib.hid (fun w13 (h : MPost w11 F11 g (m.doM r) w13) => show MPost w (Foot g tb vo vw vl vt) g (m.doM r) w13 from MPost.from_ B1'.out (MPost.join (HK10.out.mono (fun k _ e => .inr (.inl e))) (fun k e => .inl e) (MPost.from_ ((Below.refl w10.heap.size w10).drew) (MPost.join HK11.out HF11.out h))))
  obtain ⟨dn, HDN⟩ : ∃ x, Hid (m.done + 1 = x) := ⟨_, Lib.hid rfl⟩
  have hd1 : Mem.done (Mem.mk m.id m.epoch m.order rows' m.behind m.way m.out m.told) + 1 = dn := HDN.out
  have hd1 : Mem.done { m with rows := rows' } + 1 = dn := HDN.out
  have hdr : 0 ≤ dn ∧ dn ≤ 4294967296 := by rw [← HDN.out]; unfold Mem.done; have h1 := HOK.out.behind; have h2 := HOK.out.way; omega
  rw [hd1]
  clear hm11 hk11 hf11 hd0 hm11' hd1 g0 g1 v0 v1 v2
  go_wp2_with (fail)
  refine HTA.mono ?_
  rintro e w12 ⟨rfl, hb12⟩
  have HB12 := Lib.hid hb12
  have hm12 := HM11.out.below hb12
  have HX12 := HX11.out.kept (Kept.of_below hb12 fun _ => False) (fun h => h)
  have z0 := HX12.cell 0
  have z1 := HX12.cell 1
  have z2 := HX12.cell 2
  have HOP12 := Lib.hid (HOP11.out.kept (Kept.of_below hb12 fun _ => False) Frz.none)
  clear HTA hb12 HX12
  cases hta : (m.did r).tail with
  | true =>
    have hst := settle_calls hm12 (show m.order.length ≤ 1000 from HOK.out.order) (by have := HOK.out.epoch; exact ⟨by show _ ≤ m.epoch; omega, by show m.epoch ≤ _; omega⟩) (by have := HOK.out.behind; exact ⟨this.1, by show m.behind ≤ _; omega⟩) (by have := HOK.out.way; show (m.way ++ [_]).length ≤ _; simp only [List.length_append, List.length_cons, List.length_nil]; omega) (by have := HOK.out.out; show m.out.length ≤ _; omega) (by have := HOK.out.told; show m.told.length ≤ _; omega)
    have HE := Lib.hid (show m.doM r = (m.did r).settled by unfold Mem.doM; rw [if_pos hta])
    clear hm12 hta
    go_wp2_with (fail)
    refine hst.mono ?_
    rintro e w13 ⟨rfl, h13⟩
    have H13 := Lib.hid h13
    clear hst h13
    go_wp2
    go_ret
    exact ⟨by rw [HDN.out]; rfl, HFIN.out _ (MPost.from_ HB12.out (by rw [HE.out]; exact H13.out))⟩
  | false =>
    have hdn := down_calls hm12 dn r (.slice A2 n2 c2) HOP12.out.1 HSZ.out (show m.order.length ≤ 1000 from HOK.out.order) (by have := HOK.out.epoch; exact ⟨by show _ ≤ m.epoch; omega, by show m.epoch ≤ _; omega⟩) ⟨by omega, by omega⟩ (by have := HOK.out.out; show m.out.length ≤ _; omega)
    have HE := Lib.hid (show m.doM r = (m.did r).dnd dn r by unfold Mem.doM; rw [if_neg (by rw [hta]; decide), HDN.out])
    unfold ReqT.v at hdn
    clear hm12 hta
    go_wp2_with (fail)
    refine hdn.mono ?_
    rintro e w13 ⟨rfl, h13⟩
    have H13 := Lib.hid h13
    clear hdn h13
    go_wp2
    go_ret
    exact ⟨by rw [HDN.out]; rfl, HFIN.out _ (MPost.from_ HB12.out (by rw [HE.out]; exact H13.out))⟩
end Go.Proofs.YtdfdlajfjcakaaaGreat
