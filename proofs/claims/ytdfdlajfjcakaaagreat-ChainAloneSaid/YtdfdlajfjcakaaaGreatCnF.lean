import Derived.Test.YtdfdlajfjcakaaaGreatCnE
namespace Go.Proofs.YtdfdlajfjcakaaaGreat
open Go Go.RowKit
open Go.Proofs.YtdfdlajfjcakaaaGreatW.PrintLast
set_option linter.unusedVariables false
set_option linter.unusedSimpArgs false
set_option maxRecDepth 100000

/-! A member that turns: drop, push. -/
section
variable {w : World} {g : Nat} {m : Mem} {tb : Nat} {vo vw vl vt : Value} {rw_ : List UndW} {rt : List RepW}
theorem MemP.putW_ (h : MemP w g m tb vo vw vl vt rw_ rt) {w1 : World} (hk : Kept w w1 (fun k => vw.ownBlock = some k)) {vw' : Value} {l' : List (ReqT × RepT)} {rw' : List UndW} (hI : Are UndIs w1 rw' l') (hR : Row w1 95 8 UndW.cells vw' rw') (hf : ∀ k, vw'.ownBlock = some k → vw.ownBlock = some k ∨ w.heap.size ≤ k) :
    MemP (w1.setCell ⟨g, 5, none⟩ vw') g { m with way := l' } tb vo vw' vl vt rw' rt ∧ Kept w (w1.setCell ⟨g, 5, none⟩ vw') (fun k => k = g ∨ vw.ownBlock = some k) := by
  have hb1 : Blk w1 g _ _ := h.b.kept hk (fun e => by obtain ⟨cs, hc⟩ := h.r.typed e; exact hc.ne_ h.b (by decide) rfl)
  have hk2 := (hk.mono (S' := fun k => k = g ∨ vw.ownBlock = some k) (fun k _ h => .inr h)).setCell (p := ⟨g, 5, none⟩) (.inl (.inl rfl)) vw'
  have hk3 := (Kept.refl w1 fun k => k = g).setCell (p := ⟨g, 5, none⟩) (.inl rfl) vw'
  have hz : Frz w (fun k => k = g ∨ vw.ownBlock = some k) := ⟨(NoT.two h.b (fun k e => h.r.typed e) (by decide) (by decide)), (NoT.two h.b (fun k e => h.r.typed e) (by decide) (by decide)), (NoT.two h.b (fun k e => h.r.typed e) (by decide) (by decide))⟩
  have hz1 : Frz w1 (fun k => k = g) := ⟨NoT.one hb1 (by decide), NoT.one hb1 (by decide), NoT.one hb1 (by decide)⟩
  exact ⟨{ b := by simpa using hb1.set_ 5 vw', o := h.o.keptT hk2 (NoT.two h.b (fun k e => h.r.typed e) (by decide) (by decide)), t := h.t.kept hk2 (fun e => by obtain ⟨ct, ht⟩ := h.t.blk; rcases e with e | e; (· subst e; exact ht.ne_ h.b (by decide) rfl); (· obtain ⟨cs, hc⟩ := h.r.typed e; exact hc.ne_ ht (by decide) rfl)) hz.2.2, r := hR.keptT hk3 (NoT.one hb1 (by decide)), l := h.l.keptT hk2 (NoT.two h.b (fun k e => h.r.typed e) (by decide) (by decide)), d := h.d.keptT hk2 (NoT.two h.b (fun k e => h.r.typed e) (by decide) (by decide)), ri := hI.imp (fun _ _ x => x.kept hk3 hz1), di := h.di.imp (fun _ _ x => x.kept hk2 hz) }, hk2⟩
theorem MemP.putW (h : MemP w g m tb vo vw vl vt rw_ rt) {w1 : World} (hk : Kept w w1 (fun k => vw.ownBlock = some k)) {vw' : Value} {l' : List (ReqT × RepT)} {rw' : List UndW} (hI : Are UndIs w1 rw' l') (hR : Row w1 95 8 UndW.cells vw' rw') (hf : ∀ k, vw'.ownBlock = some k → vw.ownBlock = some k ∨ w.heap.size ≤ k) :
    MPost w (Foot g tb vo vw vl vt) g { m with way := l' } (w1.setCell ⟨g, 5, none⟩ vw') := by
  obtain ⟨hp, hk2⟩ := h.putW_ hk hI hR hf
  refine ⟨_, ⟨tb, vo, vw', vl, vt, rw', rt, hp, rfl⟩, hk2.mono (fun k _ e => ?_), fun k e => ?_⟩
  · rcases e with e | e
    · exact .inl e
    · exact (.inr (.inr (.inr (.inl e))))
  · rcases e with e | e | e | e | e | e
    · exact .inl (.inl e)
    · exact .inl (.inr (.inl e))
    · exact .inl (.inr (.inr (.inl e)))
    · exact (hf k e).elim (fun e => .inl (.inr (.inr (.inr (.inl e))))) .inr
    · exact .inl (.inr (.inr (.inr (.inr (.inl e)))))
    · exact .inl (.inr (.inr (.inr (.inr (.inr e)))))
theorem MemP.putL_ (h : MemP w g m tb vo vw vl vt rw_ rt) {w1 : World} (hk : Kept w w1 (fun k => vl.ownBlock = some k)) {vl' : Value} {l' : List LetT} (hR : Row w1 64 2 LetT.cells vl' l') (hf : ∀ k, vl'.ownBlock = some k → vl.ownBlock = some k ∨ w.heap.size ≤ k) :
    MemP (w1.setCell ⟨g, 6, none⟩ vl') g { m with out := l' } tb vo vw vl' vt rw_ rt ∧ Kept w (w1.setCell ⟨g, 6, none⟩ vl') (fun k => k = g ∨ vl.ownBlock = some k) := by
  have hb1 : Blk w1 g _ _ := h.b.kept hk (fun e => by obtain ⟨cs, hc⟩ := h.l.typed e; exact hc.ne_ h.b (by decide) rfl)
  have hk2 := (hk.mono (S' := fun k => k = g ∨ vl.ownBlock = some k) (fun k _ h => .inr h)).setCell (p := ⟨g, 6, none⟩) (.inl (.inl rfl)) vl'
  have hk3 := (Kept.refl w1 fun k => k = g).setCell (p := ⟨g, 6, none⟩) (.inl rfl) vl'
  have hz : Frz w (fun k => k = g ∨ vl.ownBlock = some k) := ⟨(NoT.two h.b (fun k e => h.l.typed e) (by decide) (by decide)), (NoT.two h.b (fun k e => h.l.typed e) (by decide) (by decide)), (NoT.two h.b (fun k e => h.l.typed e) (by decide) (by decide))⟩
  have hz1 : Frz w1 (fun k => k = g) := ⟨NoT.one hb1 (by decide), NoT.one hb1 (by decide), NoT.one hb1 (by decide)⟩
  exact ⟨{ b := by simpa using hb1.set_ 6 vl', o := h.o.keptT hk2 (NoT.two h.b (fun k e => h.l.typed e) (by decide) (by decide)), t := h.t.kept hk2 (fun e => by obtain ⟨ct, ht⟩ := h.t.blk; rcases e with e | e; (· subst e; exact ht.ne_ h.b (by decide) rfl); (· obtain ⟨cs, hc⟩ := h.l.typed e; exact hc.ne_ ht (by decide) rfl)) hz.2.2, r := h.r.keptT hk2 (NoT.two h.b (fun k e => h.l.typed e) (by decide) (by decide)), l := hR.keptT hk3 (NoT.one hb1 (by decide)), d := h.d.keptT hk2 (NoT.two h.b (fun k e => h.l.typed e) (by decide) (by decide)), ri := h.ri.imp (fun _ _ x => x.kept hk2 hz), di := h.di.imp (fun _ _ x => x.kept hk2 hz) }, hk2⟩
theorem MemP.putL (h : MemP w g m tb vo vw vl vt rw_ rt) {w1 : World} (hk : Kept w w1 (fun k => vl.ownBlock = some k)) {vl' : Value} {l' : List LetT} (hR : Row w1 64 2 LetT.cells vl' l') (hf : ∀ k, vl'.ownBlock = some k → vl.ownBlock = some k ∨ w.heap.size ≤ k) :
    MPost w (Foot g tb vo vw vl vt) g { m with out := l' } (w1.setCell ⟨g, 6, none⟩ vl') := by
  obtain ⟨hp, hk2⟩ := h.putL_ hk hR hf
  refine ⟨_, ⟨tb, vo, vw, vl', vt, rw_, rt, hp, rfl⟩, hk2.mono (fun k _ e => ?_), fun k e => ?_⟩
  · rcases e with e | e
    · exact .inl e
    · exact (.inr (.inr (.inr (.inr (.inl e)))))
  · rcases e with e | e | e | e | e | e
    · exact .inl (.inl e)
    · exact .inl (.inr (.inl e))
    · exact .inl (.inr (.inr (.inl e)))
    · exact .inl (.inr (.inr (.inr (.inl e))))
    · exact (hf k e).elim (fun e => .inl (.inr (.inr (.inr (.inr (.inl e)))))) .inr
    · exact .inl (.inr (.inr (.inr (.inr (.inr e)))))
theorem MemP.putT_ (h : MemP w g m tb vo vw vl vt rw_ rt) {w1 : World} (hk : Kept w w1 (fun k => vt.ownBlock = some k)) {vt' : Value} {l' : List RepT} {rw' : List RepW} (hI : Are RepIs w1 rw' l') (hR : Row w1 34 5 RepW.cells vt' rw') (hf : ∀ k, vt'.ownBlock = some k → vt.ownBlock = some k ∨ w.heap.size ≤ k) :
    MemP (w1.setCell ⟨g, 7, none⟩ vt') g { m with told := l' } tb vo vw vl vt' rw_ rw' ∧ Kept w (w1.setCell ⟨g, 7, none⟩ vt') (fun k => k = g ∨ vt.ownBlock = some k) := by
  have hb1 : Blk w1 g _ _ := h.b.kept hk (fun e => by obtain ⟨cs, hc⟩ := h.d.typed e; exact hc.ne_ h.b (by decide) rfl)
  have hk2 := (hk.mono (S' := fun k => k = g ∨ vt.ownBlock = some k) (fun k _ h => .inr h)).setCell (p := ⟨g, 7, none⟩) (.inl (.inl rfl)) vt'
  have hk3 := (Kept.refl w1 fun k => k = g).setCell (p := ⟨g, 7, none⟩) (.inl rfl) vt'
  have hz : Frz w (fun k => k = g ∨ vt.ownBlock = some k) := ⟨(NoT.two h.b (fun k e => h.d.typed e) (by decide) (by decide)), (NoT.two h.b (fun k e => h.d.typed e) (by decide) (by decide)), (NoT.two h.b (fun k e => h.d.typed e) (by decide) (by decide))⟩
  have hz1 : Frz w1 (fun k => k = g) := ⟨NoT.one hb1 (by decide), NoT.one hb1 (by decide), NoT.one hb1 (by decide)⟩
  exact ⟨{ b := by simpa using hb1.set_ 7 vt', o := h.o.keptT hk2 (NoT.two h.b (fun k e => h.d.typed e) (by decide) (by decide)), t := h.t.kept hk2 (fun e => by obtain ⟨ct, ht⟩ := h.t.blk; rcases e with e | e; (· subst e; exact ht.ne_ h.b (by decide) rfl); (· obtain ⟨cs, hc⟩ := h.d.typed e; exact hc.ne_ ht (by decide) rfl)) hz.2.2, r := h.r.keptT hk2 (NoT.two h.b (fun k e => h.d.typed e) (by decide) (by decide)), l := h.l.keptT hk2 (NoT.two h.b (fun k e => h.d.typed e) (by decide) (by decide)), d := hR.keptT hk3 (NoT.one hb1 (by decide)), ri := h.ri.imp (fun _ _ x => x.kept hk2 hz), di := hI.imp (fun _ _ x => x.kept hk3 hz1) }, hk2⟩
theorem MemP.putT (h : MemP w g m tb vo vw vl vt rw_ rt) {w1 : World} (hk : Kept w w1 (fun k => vt.ownBlock = some k)) {vt' : Value} {l' : List RepT} {rw' : List RepW} (hI : Are RepIs w1 rw' l') (hR : Row w1 34 5 RepW.cells vt' rw') (hf : ∀ k, vt'.ownBlock = some k → vt.ownBlock = some k ∨ w.heap.size ≤ k) :
    MPost w (Foot g tb vo vw vl vt) g { m with told := l' } (w1.setCell ⟨g, 7, none⟩ vt') := by
  obtain ⟨hp, hk2⟩ := h.putT_ hk hI hR hf
  refine ⟨_, ⟨tb, vo, vw, vl, vt', rw_, rw', hp, rfl⟩, hk2.mono (fun k _ e => ?_), fun k e => ?_⟩
  · rcases e with e | e
    · exact .inl e
    · exact (.inr (.inr (.inr (.inr (.inr e)))))
  · rcases e with e | e | e | e | e | e
    · exact .inl (.inl e)
    · exact .inl (.inr (.inl e))
    · exact .inl (.inr (.inr (.inl e)))
    · exact .inl (.inr (.inr (.inr (.inl e))))
    · exact .inl (.inr (.inr (.inr (.inr (.inl e)))))
    · exact (hf k e).elim (fun e => .inl (.inr (.inr (.inr (.inr (.inr e)))))) .inr
theorem MemP.putB (h : MemP w g m tb vo vw vl vt rw_ rt) (b : Int) : MPost w (Foot g tb vo vw vl vt) g { m with behind := b } (w.setCell ⟨g, 4, none⟩ (.int .i64 b)) := by
  have hk := (Kept.refl w fun k => k = g).setCell (p := ⟨g, 4, none⟩) (.inl rfl) (.int .i64 b)
  have hz : Frz w (fun k => k = g) := ⟨NoT.one h.b (by decide), NoT.one h.b (by decide), NoT.one h.b (by decide)⟩
  refine ⟨_, ⟨tb, vo, vw, vl, vt, rw_, rt, { b := by simpa using h.b.set_ 4 (.int .i64 b), o := h.o.keptT hk (NoT.one h.b (by decide)), t := h.t.kept hk (fun e => by obtain ⟨ct, ht⟩ := h.t.blk; subst e; exact ht.ne_ h.b (by decide) rfl) hz.2.2, r := h.r.keptT hk (NoT.one h.b (by decide)), l := h.l.keptT hk (NoT.one h.b (by decide)), d := h.d.keptT hk (NoT.one h.b (by decide)), ri := h.ri.imp (fun _ _ x => x.kept hk hz), di := h.di.imp (fun _ _ x => x.kept hk hz) }, rfl⟩, hk.mono (fun k _ e => .inl e), fun k e => .inl e⟩
end
theorem info_unds_c : (Tryz.prog.info? 95).map (fun i => (i.zero, i.size, i.bytes)) = some (some (.agg #[.int .i64 0, .int .i64 0, .slice none 0 0, .int .i64 0, .int .i64 0, .slice none 0 0, .int .i64 0, .int .i64 0]), 8, 96) := by kernel_rfl
set_option maxHeartbeats 4000000 in
/-- slices.Clone of a stretch that is read. -/
theorem clone_unds (v : Value) (l : List UndW) (w : World) (h : SegG w UndW.cells v l) (hl : l.length * 96 ≤ 140737488355328) (h1 : ∀ (x : UndW), ∀ u ∈ UndW.cells x, u.oneCell' = true) (hsz : ∀ (x : UndW), (UndW.cells x).length = 8) :
    Calls Tryz.prog 71 #[v] w fun e w' => ∃ v', e = .returned v' ∧ Row w' 95 8 UndW.cells v' l ∧ Below w.heap.size w w' ∧ ∀ k, v'.ownBlock = some k → w.heap.size ≤ k := by
  obtain ⟨A, c, rfl, hc, hm, hcell⟩ := h
  have he := fun (w : World) (n c : Nat) => Lib.run_eql_slice_nil (P := Tryz.prog) w 79 95 A n c 0 0 Tryz.underlying79
  cases A with
  | none =>
    obtain rfl : l = [] := by
      rcases Nat.eq_zero_or_pos l.length with h | h
      · exact List.eq_nil_of_length_eq_zero h
      · obtain ⟨ad, e, _⟩ := hcell h
        cases e
    clear hcell
    go_enter Tryz.func71, Tryz.ntmps71
    go_wp2
    go_ret
    exact ⟨_, rfl, Row.nil_ .., Below.refl _ _, fun k e => by simp [Value.ownBlock] at e⟩
  | some ad =>
    have hl0 : l.length ≤ 9223372036854775807 := by simp only [maxLen] at hm; omega
    have hn := Lib.hid (show ∀ j u, (l.flatMap UndW.cells)[j]? = some u → (w.alloc (.cells #[] 95)).cell? (ad.add j) = some u from fun j u hu => by
      rcases Nat.eq_zero_or_pos l.length with h | h
      · rw [List.eq_nil_of_length_eq_zero h] at hu; simp at hu
      · obtain ⟨ad', e, hcl⟩ := hcell h
        injection e with e
        subst e
        have := hcl j u hu
        rw [World.cell?_alloc_lt _ _ _ (World.block_lt_of_cell? w _ this)]
        exact this)
    have hm2 := Lib.hid (show Row (w.alloc (.cells #[] 95)) 95 8 UndW.cells (.slice (some ⟨w.heap.size, 0, none⟩) 0 0) [] from World.ownsRow_made w #[] 0 (Nat.zero_le _) (by decide) rfl)
    have h1' := Lib.hid h1
    have h2' := Lib.hid hsz
    have hle := Lib.hid (show (([] : List UndW).length + l.length) * 96 ≤ 140737488355328 by simpa using hl)
    clear hcell h1 hsz hl hm hc
    go_enter Tryz.func71, Tryz.ntmps71
    go_wp2_with (at_builtin; refine Row.append_list (by rfl) (.tmp 5) (.tmp 6) 79 95 (.agg #[.int .i64 0, .int .i64 0, .slice none 0 0, .int .i64 0, .int .i64 0, .slice none 0 0, .int .i64 0, .int .i64 0]) 8 96 rfl Tryz.underlying79 info_unds_c rfl (by decide) (by decide) (.slice (some ⟨w.heap.size, 0, none⟩) 0 0) [] l rfl ad l.length c rfl hm2.out rfl h2'.out hn.out h1'.out hle.out ?_)
    intro v1 w1 hR hg hat
    have HR := Lib.hid hR
    have HG := Lib.hid hg
    have HA := Lib.hid hat
    clear hR hg hat
    go_wp2
    go_ret
    exact ⟨_, rfl, by simpa using HR.out, ((Below.refl _ _).alloc (Nat.le_refl _) _).grown HG.out (by simp) (fun k hk => by simp [Value.ownBlock] at hk; omega), fun k (hk : v1.ownBlock = some k) => by
      rcases HA.out with h | h
      · rw [h] at hk; simp [Value.ownBlock] at hk; omega
      · rw [h] at hk; simp at hk; omega⟩
set_option maxHeartbeats 4000000 in
theorem drop_calls {w : World} {F : Nat → Prop} {g : Nat} {m : Mem} (h : MemAt w F g m) (to_ : Int) (hb : 0 ≤ m.behind ∧ m.behind ≤ 1099511627776) (hwl : m.way.length ≤ 1000000) (ht : m.behind ≤ to_ ∧ to_ ≤ m.done) :
    Calls Tryz.prog 49 #[.pointer (some ⟨g, 4, none⟩), .int .i64 to_] w fun e w' => e = .returned (.tuple #[]) ∧ MPost w F g { m with behind := to_, way := m.way.drop (to_ - m.behind).toNat } w' := by
  obtain ⟨tb, vo, vw, vl, vt, rw_, rt, h, rfl⟩ := h
  have c4 := h.b.cell 4
  have c5 := h.b.cell 5
  have f4 := h.b.frozen 4
  have f5 := h.b.frozen 5
  have hgl := h.b.lt
  have H := Lib.hid h
  obtain ⟨A, c, hv⟩ := h.r.shape
  subst hv
  unfold Mem.done at ht
  have hrl := h.ri.1
  obtain ⟨b, HI⟩ : ∃ i, Hid (m.behind = i) := ⟨_, Lib.hid rfl⟩
  obtain ⟨j, hj⟩ : ∃ j : Nat, to_ - m.behind = (j : Int) := ⟨(to_ - m.behind).toNat, by omega⟩
  have HJ := Lib.hid (show (to_ - m.behind).toNat = j by rw [hj]; rfl)
  have SUF := Lib.hid (SegG.suffix (SegG.of_row h.r) (sz := 8) j (by omega) (fun _ => rfl) (by decide))
  obtain ⟨n, HN⟩ : ∃ i, Hid (rw_.length = i) := ⟨_, Lib.hid rfl⟩
  have hcap := h.r.cap
  rw [HN.out] at hcap hrl c5 SUF
  rw [HI.out] at c4 ht hj hb
  have hw : IntKind.i64.wrap (to_ - b) = (j : Int) := by rw [hj, IntKind.wrap_i64]; omega
  have q0 : (0 : Int) ≤ (j : Int) := by omega
  have q1 : (j : Int) ≤ (n : Int) := by omega
  have hA1 : (if c = j then A else Option.map (fun x => x.add (j * 8)) A) = cutA A c j 8 := rfl
  have hle := Lib.hid (show (rw_.drop j).length * 96 ≤ 140737488355328 by rw [List.length_drop, HN.out]; omega)
  clear h hrl hcap hj
  rw [HJ.out]
  go_enter Tryz.func49, Tryz.ntmps49
  go_wp2_with (fail)
  refine start_ (n := 16) (S := fun w' => w'.cell? ⟨g, 5, none⟩ = some (.slice A n c) ∧ w'.cell? ⟨g, 4, none⟩ = some (.int .i64 b)) (ds := [15]) #[false, false, false, false, false, false, false, false, false, false, false, false, false, false, false, false] (by kernel_rfl) rfl rfl ⟨c5, c4⟩ (fun hHeld => ?_)
  refine pure_ (i := 0) (N := some 4) (v := ?_) (a' := ?_) #[true, false, false, false, false, false, false, false, false, false, false, false, false, false, false, false] rfl rfl (by kernel_rfl) (fun _ _ _ h => h) (Or.inl ⟨by rfl, ?_⟩) ?_ ?_
  rotate_left
  · intro w'
    go_simp
    with_reducible rfl
  rotate_left
  · simp only [Act.put, List.setIfInBounds_toArray, List.set_cons_zero, List.set_cons_succ, i64_w, i32_w]
    rfl
  refine pure_ (i := 1) (N := some 5) (v := ?_) (a' := ?_) #[true, true, false, false, false, false, false, false, false, false, false, false, false, false, false, false] rfl rfl (by kernel_rfl) (fun _ _ _ h => h) (Or.inl ⟨by rfl, ?_⟩) ?_ ?_
  rotate_left
  · intro w'
    go_simp
    with_reducible rfl
  rotate_left
  · simp only [Act.put, List.setIfInBounds_toArray, List.set_cons_zero, List.set_cons_succ, i64_w, i32_w]
    rfl
  refine pure_ (i := 2) (N := some 6) (v := ?_) (a' := ?_) #[true, true, true, false, false, false, false, false, false, false, false, false, false, false, false, false] rfl rfl (by kernel_rfl) (fun _ _ _ h => h) (Or.inl ⟨by rfl, ?_⟩) ?_ ?_
  rotate_left
  · intro w'
    go_simp
    with_reducible rfl
  rotate_left
  · simp only [Act.put, List.setIfInBounds_toArray, List.set_cons_zero, List.set_cons_succ, i64_w, i32_w]
    rfl
  refine pure_ (i := 3) (N := some 7) (v := ?_) (a' := ?_) #[true, true, true, true, false, false, false, false, false, false, false, false, false, false, false, false] rfl rfl (by kernel_rfl) (fun _ _ _ h => h) (Or.inl ⟨by rfl, ?_⟩) ?_ ?_
  rotate_left
  · intro w'
    go_simp
    with_reducible rfl
  rotate_left
  · simp only [Act.put, List.setIfInBounds_toArray, List.set_cons_zero, List.set_cons_succ, i64_w, i32_w]
    rfl
  refine pure_ (i := 5) (N := some 9) (v := ?_) (a' := ?_) #[true, true, true, true, false, true, false, false, false, false, false, false, false, false, false, false] rfl rfl (by kernel_rfl) (fun _ _ _ h => h) (Or.inl ⟨by rfl, ?_⟩) ?_ ?_
  rotate_left
  · intro w'
    go_simp
    with_reducible rfl
  rotate_left
  · simp only [Act.put, List.setIfInBounds_toArray, List.set_cons_zero, List.set_cons_succ, i64_w, i32_w]
    rfl
  refine pure_ (i := 6) (N := some 10) (v := ?_) (a' := ?_) #[true, true, true, true, false, true, true, false, false, false, false, false, false, false, false, false] rfl rfl (by kernel_rfl) (fun _ _ _ h => h) (Or.inl ⟨by rfl, ?_⟩) ?_ ?_
  rotate_left
  · intro w'
    go_simp
    with_reducible rfl
  rotate_left
  · simp only [Act.put, List.setIfInBounds_toArray, List.set_cons_zero, List.set_cons_succ, i64_w, i32_w]
    rfl
  refine pure_ (i := 7) (N := some 11) (v := ?_) (a' := ?_) #[true, true, true, true, false, true, true, true, false, false, false, false, false, false, false, false] rfl rfl (by kernel_rfl) (fun _ _ _ h => h) (Or.inl ⟨by rfl, ?_⟩) ?_ ?_
  rotate_left
  · intro w'
    go_simp
    with_reducible rfl
  rotate_left
  · simp only [Act.put, List.setIfInBounds_toArray, List.set_cons_zero, List.set_cons_succ, i64_w, i32_w]
    rfl
  refine pure_ (i := 8) (N := some 12) (v := ?_) (a' := ?_) #[true, true, true, true, false, true, true, true, true, false, false, false, false, false, false, false] rfl rfl (by kernel_rfl) (fun _ _ _ h => h) (Or.inl ⟨by rfl, ?_⟩) ?_ ?_
  rotate_left
  · intro w'
    go_simp
    with_reducible rfl
  rotate_left
  · simp only [Act.put, List.setIfInBounds_toArray, List.set_cons_zero, List.set_cons_succ, i64_w, i32_w]
    rfl
  refine take_ (i := 4) (N := some 8) (v := ?_) (a' := ?_) #[true, true, true, true, true, true, true, true, true, false, false, false, false, false, false, false] rfl rfl (by kernel_rfl) (fun _ _ _ h => h) (Or.inl ⟨by rfl, ?_⟩) hHeld ?_ ?_
  rotate_left
  · rintro w' ⟨s0, s1⟩
    go_simp
    with_reducible rfl
  rotate_left
  · simp only [Act.put, List.setIfInBounds_toArray, List.set_cons_zero, List.set_cons_succ, i64_w, i32_w]
    rfl
  refine take_ (i := 9) (N := some 13) (v := ?_) (a' := ?_) #[true, true, true, true, true, true, true, true, true, true, false, false, false, false, false, false] rfl rfl (by kernel_rfl) (fun _ _ _ h => h) (Or.inl ⟨by rfl, ?_⟩) hHeld ?_ ?_
  rotate_left
  · rintro w' ⟨s0, s1⟩
    go_simp
    with_reducible rfl
  rotate_left
  · simp only [Act.put, List.setIfInBounds_toArray, List.set_cons_zero, List.set_cons_succ, i64_w, i32_w]
    rfl
  refine pure_ (i := 10) (N := some 14) (v := ?_) (a' := ?_) #[true, true, true, true, true, true, true, true, true, true, true, false, false, false, false, false] rfl rfl (by kernel_rfl) (fun _ _ _ h => h) (Or.inl ⟨by rfl, ?_⟩) ?_ ?_
  rotate_left
  · intro w'
    go_simp
    with_reducible rfl
  rotate_left
  · simp only [Act.put, List.setIfInBounds_toArray, List.set_cons_zero, List.set_cons_succ, i64_w, i32_w]
    rfl
  refine pure_ (i := 11) (N := some 15) (v := ?_) (a' := ?_) #[true, true, true, true, true, true, true, true, true, true, true, true, false, false, false, false] rfl rfl (by kernel_rfl) (fun _ _ _ h => h) (Or.inl ⟨by rfl, ?_⟩) ?_ ?_
  rotate_left
  · intro w'
    go_simp
    with_reducible rfl
  rotate_left
  · simp only [Act.put, List.setIfInBounds_toArray, List.set_cons_zero, List.set_cons_succ, i64_w, i32_w]
    rfl
  refine one_ (i := 12) (N := some 16) #[true, true, true, true, true, true, true, true, true, true, true, true, true, false, false, false] rfl rfl (by kernel_rfl) (by decide) (fun K hK => ?_)
  refine goes_ Tryz.func71 (by kernel_rfl) rfl #[(.slice (cutA A c j 8) (n - j) (c - j))] (by rfl) rfl rfl (by simp only [List.map_toArray, List.map_cons, List.map_nil]; rfl) ?_
  with_reducible refine (clone_unds _ _ _ (SUF.out.below ((Below.refl _ w).drew)) hle.out one_und (fun _ => rfl)).mono ?_
  rintro e w3 ⟨v3, rfl, hr3, hb3, hf3⟩
  obtain ⟨A3, n3, c3, rfl⟩ := hr3.some_slice
  have HB3 := Lib.hid (show Below w.heap.size w w3 from (Below.refl _ w).drew.trans hb3)
  have HR3 := Lib.hid hr3
  have HF3 := Lib.hid hf3
  have c5' := (HB3.out.cell (p := ⟨g, 5, none⟩) hgl).trans c5
  have c4' := (HB3.out.cell (p := ⟨g, 4, none⟩) hgl).trans c4
  have k5 := (HB3.out.frozen (p := ⟨g, 5, none⟩) hgl).trans f5
  have k4 := (HB3.out.frozen (p := ⟨g, 4, none⟩) hgl).trans f4
  have hgl3 : g < w3.heap.size := Nat.lt_of_lt_of_le hgl HB3.out.size
  clear hb3 hr3 hf3
  refine ⟨_, rfl, ?_⟩
  refine hK.out _ _ ⟨c5', c4'⟩ (fun hHeld => ?_)
  clear hK K
  refine norm_ (a' := ?_) ?_ ?_
  rotate_left
  · show Act.put _ (some 16) _ = _
    simp only [Act.put, List.setIfInBounds_toArray, List.set_cons_zero, List.set_cons_succ, i64_w, i32_w]
    rfl
  refine pure_ (i := 13) (N := some 17) (v := ?_) (a' := ?_) #[true, true, true, true, true, true, true, true, true, true, true, true, true, true, false, false] rfl rfl (by kernel_rfl) (fun _ _ _ h => h) (Or.inl ⟨by rfl, ?_⟩) ?_ ?_
  rotate_left
  · intro w'
    go_simp
    with_reducible rfl
  rotate_left
  · simp only [Act.put, List.setIfInBounds_toArray, List.set_cons_zero, List.set_cons_succ, i64_w, i32_w]
    rfl
  refine pure_ (i := 14) (N := some 18) (v := ?_) (a' := ?_) #[true, true, true, true, true, true, true, true, true, true, true, true, true, true, true, false] rfl rfl (by kernel_rfl) (fun _ _ _ h => h) (Or.inl ⟨by rfl, ?_⟩) ?_ ?_
  rotate_left
  · intro w'
    go_simp
    with_reducible rfl
  rotate_left
  · simp only [Act.put, List.setIfInBounds_toArray, List.set_cons_zero, List.set_cons_succ, i64_w, i32_w]
    rfl
  refine last_ (i := 15) (N := none) #[true, true, true, true, true, true, true, true, true, true, true, true, true, true, true, true] rfl rfl (by kernel_rfl) (by decide) (fun K hK => ?_)
  refine skip_ (w1 := ?_) (by rfl) rfl ?_ ?_
  rotate_left
  · go_simp
    rfl
  refine hK.out _ _ ?_
  clear hK K
  refine done_ (by kernel_rfl) ?_
  go_wp2
  go_end0
  refine ⟨rfl, ?_⟩
  have hp := H.out.below HB3.out
  have hI := (hp.ri.drop j)
  have h1 := H.out.putW (Kept.of_below HB3.out _) hI HR3.out (fun k e => .inr (HF3.out k e))
  exact h1.trans fun F1 hm => by
    obtain ⟨tb', vo', vw', vl', vt', rw', rt', hm, rfl⟩ := hm
    exact hm.putB to_
theorem MPost.below {w w1 w2 : World} {F : Nat → Prop} {g : Nat} {m : Mem} (h : MPost w F g m w1) (hb : Below w1.heap.size w1 w2) : MPost w F g m w2 := h.trans fun F1 hm => MPost.mk0 hm hb
def UndW.v (u : UndW) : Value := .agg #[.int .i64 u.client, .int .i64 u.seq, .slice u.A u.n u.c, .int .i64 u.p.client, .int .i64 u.p.seq, .slice u.p.A u.p.n u.p.c, .int .i64 u.p.at_, .int .i64 u.p.code]
set_option maxHeartbeats 4000000 in
theorem push_calls {w : World} {F : Nat → Prop} {g : Nat} {m : Mem} (h : MemAt w F g m) (u : UndW) (x : ReqT × RepT) (hx : UndIs w u x) (hb : 0 ≤ m.behind ∧ m.behind ≤ 1099511627776) (hwl : m.way.length ≤ 1000000) :
    Calls Tryz.prog 62 #[.pointer (some ⟨g, 4, none⟩), u.v] w fun e w' => e = .returned (.int .i64 (m.done + 1)) ∧ MPost w F g { m with way := m.way ++ [x] } w' := by
  obtain ⟨tb, vo, vw, vl, vt, rw_, rt, h, rfl⟩ := h
  obtain ⟨A, n, c, rfl⟩ := h.r.some_slice
  have hrl := h.ri.1
  have hle := Lib.hid (show (rw_.length + 1) * 96 ≤ 140737488355328 by rw [hrl]; omega)
  have H := Lib.hid h
  have hgl := h.b.lt
  have hrt := fun k e => h.r.typed (k := k) e
  have hg5 : ¬ (fun k => (Value.slice A n c).ownBlock = some k) g := fun e => by obtain ⟨cs, hc⟩ := hrt g e; exact hc.ne_ h.b (by decide) rfl
  have hb5 : ¬ (fun k => (Value.slice A n c).ownBlock = some k) w.heap.size := fun e => by obtain ⟨cs, hc⟩ := hrt _ e; exact absurd hc.lt (Nat.lt_irrefl _)
  have KW := Lib.hid ((Kept.refl w (fun k => (Value.slice A n c).ownBlock = some k)).alloc (.cells #[.int .i64 u.client, .int .i64 u.seq, .slice u.A u.n u.c, .int .i64 u.p.client, .int .i64 u.p.seq, .slice u.p.A u.p.n u.p.c, .int .i64 u.p.at_, .int .i64 u.p.code] 95))
  have KA := Lib.hid (Kept.refl (w.alloc (.cells #[.int .i64 u.client, .int .i64 u.seq, .slice u.A u.n u.c, .int .i64 u.p.client, .int .i64 u.p.seq, .slice u.p.A u.p.n u.p.c, .int .i64 u.p.at_, .int .i64 u.p.code] 95)) (fun k => (Value.slice A n c).ownBlock = some k))
  have HX := Blk.new w 95 #[.int .i64 u.client, .int .i64 u.seq, .slice u.A u.n u.c, .int .i64 u.p.client, .int .i64 u.p.seq, .slice u.p.A u.p.n u.p.c, .int .i64 u.p.at_, .int .i64 u.p.code]
  have HGA := h.b.alloc (.cells #[.int .i64 u.client, .int .i64 u.seq, .slice u.A u.n u.c, .int .i64 u.p.client, .int .i64 u.p.seq, .slice u.p.A u.p.n u.p.c, .int .i64 u.p.at_, .int .i64 u.p.code] 95)
  have hsa : (w.alloc (.cells #[.int .i64 u.client, .int .i64 u.seq, .slice u.A u.n u.c, .int .i64 u.p.client, .int .i64 u.p.seq, .slice u.p.A u.p.n u.p.c, .int .i64 u.p.at_, .int .i64 u.p.code] 95)).heap.size = w.heap.size + 1 := World.size_alloc ..
  have HROW := Lib.hid (((h.r.alloc (.cells #[.int .i64 u.client, .int .i64 u.seq, .slice u.A u.n u.c, .int .i64 u.p.client, .int .i64 u.p.seq, .slice u.p.A u.p.n u.p.c, .int .i64 u.p.at_, .int .i64 u.p.code] 95)).drew).alloc (.cells #[.int .i64 u.client, .int .i64 u.seq, .slice u.A u.n u.c, .int .i64 u.p.client, .int .i64 u.p.seq, .slice u.p.A u.p.n u.p.c, .int .i64 u.p.at_, .int .i64 u.p.code] 95))
  have HLIT := Lib.hid (news_lit UndW.cells (w.alloc (.cells #[.int .i64 u.client, .int .i64 u.seq, .slice u.A u.n u.c, .int .i64 u.p.client, .int .i64 u.p.seq, .slice u.p.A u.p.n u.p.c, .int .i64 u.p.at_, .int .i64 u.p.code] 95)).drew 95 u #[.int .i64 u.client, .int .i64 u.seq, .slice u.A u.n u.c, .int .i64 u.p.client, .int .i64 u.p.seq, .slice u.p.A u.p.n u.p.c, .int .i64 u.p.at_, .int .i64 u.p.code] rfl)
  rw [show ((w.alloc (.cells #[.int .i64 u.client, .int .i64 u.seq, .slice u.A u.n u.c, .int .i64 u.p.client, .int .i64 u.p.seq, .slice u.p.A u.p.n u.p.c, .int .i64 u.p.at_, .int .i64 u.p.code] 95)).drew).heap.size = w.heap.size + 1 from hsa] at HLIT
  have c5a := HGA.cell 5
  have f5a := HGA.frozen 5
  have x0 := HX.cell 0
  have x1 := HX.cell 1
  have x2 := HX.cell 2
  have x3 := HX.cell 3
  have x4 := HX.cell 4
  have x5 := HX.cell 5
  have x6 := HX.cell 6
  have x7 := HX.cell 7
  have hgl1 := HGA.lt
  have hbl := HX.lt
  have HUX := Lib.hid hx
  clear h hrl HX HGA hrt hx
  unfold UndW.v
  go_enter Tryz.func62, Tryz.ntmps62
  go_wp2_with (fail)
  generalize (w.alloc (.cells #[.int .i64 u.client, .int .i64 u.seq, .slice u.A u.n u.c, .int .i64 u.p.client, .int .i64 u.p.seq, .slice u.p.A u.p.n u.p.c, .int .i64 u.p.at_, .int .i64 u.p.code] 95)) = wa at *
  refine start_ (n := 11) (S := fun w' => w'.cell? ⟨g, 5, none⟩ = some (.slice A n c) ∧ w'.cell? ⟨w.heap.size, 0, none⟩ = some (.int .i64 u.client) ∧ w'.cell? ⟨w.heap.size, 1, none⟩ = some (.int .i64 u.seq) ∧ w'.cell? ⟨w.heap.size, 2, none⟩ = some (.slice u.A u.n u.c) ∧ w'.cell? ⟨w.heap.size, 3, none⟩ = some (.int .i64 u.p.client) ∧ w'.cell? ⟨w.heap.size, 4, none⟩ = some (.int .i64 u.p.seq) ∧ w'.cell? ⟨w.heap.size, 5, none⟩ = some (.slice u.p.A u.p.n u.p.c) ∧ w'.cell? ⟨w.heap.size, 6, none⟩ = some (.int .i64 u.p.at_) ∧ w'.cell? ⟨w.heap.size, 7, none⟩ = some (.int .i64 u.p.code)) (ds := [10]) #[false, false, false, false, false, false, false, false, false, false, false] (by kernel_rfl) rfl rfl ⟨(KA.out.drew.cell (p := ⟨g, 5, none⟩) hgl1 hg5).trans c5a, (KA.out.drew.cell (p := ⟨w.heap.size, 0, none⟩) hbl hb5).trans x0, (KA.out.drew.cell (p := ⟨w.heap.size, 1, none⟩) hbl hb5).trans x1, (KA.out.drew.cell (p := ⟨w.heap.size, 2, none⟩) hbl hb5).trans x2, (KA.out.drew.cell (p := ⟨w.heap.size, 3, none⟩) hbl hb5).trans x3, (KA.out.drew.cell (p := ⟨w.heap.size, 4, none⟩) hbl hb5).trans x4, (KA.out.drew.cell (p := ⟨w.heap.size, 5, none⟩) hbl hb5).trans x5, (KA.out.drew.cell (p := ⟨w.heap.size, 6, none⟩) hbl hb5).trans x6, (KA.out.drew.cell (p := ⟨w.heap.size, 7, none⟩) hbl hb5).trans x7⟩ (fun hHeld => ?_)
  refine pure_ (i := 0) (N := some 5) (v := ?_) (a' := ?_) #[true, false, false, false, false, false, false, false, false, false, false] rfl rfl (by kernel_rfl) (fun _ _ _ h => h) (Or.inl ⟨by rfl, ?_⟩) ?_ ?_
  rotate_left
  · intro w'
    go_simp
    with_reducible rfl
  rotate_left
  · simp only [Act.put, List.setIfInBounds_toArray, List.set_cons_zero, List.set_cons_succ, i64_w, i32_w]
    rfl
  refine pure_ (i := 1) (N := some 6) (v := ?_) (a' := ?_) #[true, true, false, false, false, false, false, false, false, false, false] rfl rfl (by kernel_rfl) (fun _ _ _ h => h) (Or.inl ⟨by rfl, ?_⟩) ?_ ?_
  rotate_left
  · intro w'
    go_simp
    with_reducible rfl
  rotate_left
  · simp only [Act.put, List.setIfInBounds_toArray, List.set_cons_zero, List.set_cons_succ, i64_w, i32_w]
    rfl
  refine pure_ (i := 2) (N := some 7) (v := ?_) (a' := ?_) #[true, true, true, false, false, false, false, false, false, false, false] rfl rfl (by kernel_rfl) (fun _ _ _ h => h) (Or.inl ⟨by rfl, ?_⟩) ?_ ?_
  rotate_left
  · intro w'
    go_simp
    with_reducible rfl
  rotate_left
  · simp only [Act.put, List.setIfInBounds_toArray, List.set_cons_zero, List.set_cons_succ, i64_w, i32_w]
    rfl
  refine pure_ (i := 3) (N := some 8) (v := ?_) (a' := ?_) #[true, true, true, true, false, false, false, false, false, false, false] rfl rfl (by kernel_rfl) (fun _ _ _ h => h) (Or.inl ⟨by rfl, ?_⟩) ?_ ?_
  rotate_left
  · intro w'
    go_simp
    with_reducible rfl
  rotate_left
  · simp only [Act.put, List.setIfInBounds_toArray, List.set_cons_zero, List.set_cons_succ, i64_w, i32_w]
    rfl
  refine take_ (i := 4) (N := some 9) (v := ?_) (a' := ?_) #[true, true, true, true, true, false, false, false, false, false, false] rfl rfl (by kernel_rfl) (fun _ _ _ h => h) (Or.inl ⟨by rfl, ?_⟩) hHeld ?_ ?_
  rotate_left
  · rintro w' ⟨s0, s1, s2, s3, s4, s5, s6, s7, s8⟩
    go_simp
    with_reducible rfl
  rotate_left
  · simp only [Act.put, List.setIfInBounds_toArray, List.set_cons_zero, List.set_cons_succ, i64_w, i32_w]
    rfl
  refine take_ (i := 5) (N := some 10) (v := ?_) (a' := ?_) #[true, true, true, true, true, true, false, false, false, false, false] rfl rfl (by kernel_rfl) (fun _ _ _ h => h) (Or.inl ⟨by rfl, ?_⟩) hHeld ?_ ?_
  rotate_left
  · rintro w' ⟨s0, s1, s2, s3, s4, s5, s6, s7, s8⟩
    go_simp
    with_reducible rfl
  rotate_left
  · simp only [Act.put, List.setIfInBounds_toArray, List.set_cons_zero, List.set_cons_succ, i64_w, i32_w]
    rfl
  refine one_ (i := 6) (N := some 11) #[true, true, true, true, true, true, true, false, false, false, false] rfl rfl (by kernel_rfl) (by decide) (fun K hK => ?_)
  refine value_ (w1 := ?_) (v := ?_) (by rfl) rfl ?_ ?_
  rotate_left 2
  · go_simp
    constructor
    · rfl
    · rfl
  have KB := Lib.hid (KA.out.drew.alloc (.cells #[.int .i64 u.client, .int .i64 u.seq, .slice u.A u.n u.c, .int .i64 u.p.client, .int .i64 u.p.seq, .slice u.p.A u.p.n u.p.c, .int .i64 u.p.at_, .int .i64 u.p.code] 95))
  refine hK.out _ _ ⟨(KB.out.cell (p := ⟨g, 5, none⟩) hgl1 hg5).trans c5a, (KB.out.cell (p := ⟨w.heap.size, 0, none⟩) hbl hb5).trans x0, (KB.out.cell (p := ⟨w.heap.size, 1, none⟩) hbl hb5).trans x1, (KB.out.cell (p := ⟨w.heap.size, 2, none⟩) hbl hb5).trans x2, (KB.out.cell (p := ⟨w.heap.size, 3, none⟩) hbl hb5).trans x3, (KB.out.cell (p := ⟨w.heap.size, 4, none⟩) hbl hb5).trans x4, (KB.out.cell (p := ⟨w.heap.size, 5, none⟩) hbl hb5).trans x5, (KB.out.cell (p := ⟨w.heap.size, 6, none⟩) hbl hb5).trans x6, (KB.out.cell (p := ⟨w.heap.size, 7, none⟩) hbl hb5).trans x7⟩ (fun hHeld => ?_)
  clear hK K
  refine norm_ (a' := ?_) ?_ ?_
  rotate_left
  · show Act.put _ (some 11) _ = _
    simp only [Act.put, List.setIfInBounds_toArray, List.set_cons_zero, List.set_cons_succ, i64_w, i32_w]
    rfl
  refine one_ (i := 7) (N := some 12) #[true, true, true, true, true, true, true, true, false, false, false] rfl rfl (by kernel_rfl) (by decide) (fun K hK => ?_)
  refine Row.append_step (by rfl) (.tmp 9) (.tmp 11) 79 95 (.agg #[.int .i64 0, .int .i64 0, .slice none 0 0, .int .i64 0, .int .i64 0, .slice none 0 0, .int .i64 0, .int .i64 0]) 8 96 (by rfl) Tryz.underlying79 info_und rfl (by decide) (by decide) (.slice A n c) rw_ [u] (by rfl) ⟨w.heap.size + 1, 0, none⟩ 1 1 (by rfl) HROW.out rfl (fun _ => rfl) HLIT.out one_und hle.out ?_
  intro v7 w7 hR hG hO
  obtain ⟨A7, n7, c7, rfl⟩ := hR.some_slice
  have K7 := Lib.hid (KB.out.grown hG (fun k e => .inl e))
  have HR7 := Lib.hid hR
  have HO7 := Lib.hid hO
  have c57 := (K7.out.cell (p := ⟨g, 5, none⟩) hgl1 hg5).trans c5a
  have k57 := (K7.out.frozen (p := ⟨g, 5, none⟩) hgl1 hg5).trans f5a
  have hgl7 : g < w7.heap.size := Nat.lt_of_lt_of_le hgl1 K7.out.size
  clear hR hG hO
  refine hK.out _ _ ⟨(K7.out.cell (p := ⟨g, 5, none⟩) hgl1 hg5).trans c5a, (K7.out.cell (p := ⟨w.heap.size, 0, none⟩) hbl hb5).trans x0, (K7.out.cell (p := ⟨w.heap.size, 1, none⟩) hbl hb5).trans x1, (K7.out.cell (p := ⟨w.heap.size, 2, none⟩) hbl hb5).trans x2, (K7.out.cell (p := ⟨w.heap.size, 3, none⟩) hbl hb5).trans x3, (K7.out.cell (p := ⟨w.heap.size, 4, none⟩) hbl hb5).trans x4, (K7.out.cell (p := ⟨w.heap.size, 5, none⟩) hbl hb5).trans x5, (K7.out.cell (p := ⟨w.heap.size, 6, none⟩) hbl hb5).trans x6, (K7.out.cell (p := ⟨w.heap.size, 7, none⟩) hbl hb5).trans x7⟩ (fun hHeld => ?_)
  clear hK K
  refine norm_ (a' := ?_) ?_ ?_
  rotate_left
  · show Act.put _ (some 12) _ = _
    simp only [Act.put, List.setIfInBounds_toArray, List.set_cons_zero, List.set_cons_succ, i64_w, i32_w]
    rfl
  refine pure_ (i := 8) (N := some 13) (v := ?_) (a' := ?_) #[true, true, true, true, true, true, true, true, true, false, false] rfl rfl (by kernel_rfl) (fun _ _ _ h => h) (Or.inl ⟨by rfl, ?_⟩) ?_ ?_
  rotate_left
  · intro w'
    go_simp
    with_reducible rfl
  rotate_left
  · simp only [Act.put, List.setIfInBounds_toArray, List.set_cons_zero, List.set_cons_succ, i64_w, i32_w]
    rfl
  refine pure_ (i := 9) (N := some 14) (v := ?_) (a' := ?_) #[true, true, true, true, true, true, true, true, true, true, false] rfl rfl (by kernel_rfl) (fun _ _ _ h => h) (Or.inl ⟨by rfl, ?_⟩) ?_ ?_
  rotate_left
  · intro w'
    go_simp
    with_reducible rfl
  rotate_left
  · simp only [Act.put, List.setIfInBounds_toArray, List.set_cons_zero, List.set_cons_succ, i64_w, i32_w]
    rfl
  refine last_ (i := 10) (N := none) #[true, true, true, true, true, true, true, true, true, true, true] rfl rfl (by kernel_rfl) (by decide) (fun K hK => ?_)
  refine skip_ (w1 := ?_) (by rfl) rfl ?_ ?_
  rotate_left
  · go_simp
    rfl
  refine hK.out _ _ ?_
  clear hK K
  refine done_ (by kernel_rfl) ?_
  have hk0 := KW.out.trans K7.out
  have hz : Frz w (fun k => (Value.slice A n c).ownBlock = some k) := ⟨fun k e cs hc => by obtain ⟨cs', hc'⟩ := H.out.r.typed e; exact hc'.ne_ hc (by decide) rfl, fun k e cs hc => by obtain ⟨cs', hc'⟩ := H.out.r.typed e; exact hc'.ne_ hc (by decide) rfl, fun k e cs hc => by obtain ⟨cs', hc'⟩ := H.out.r.typed e; exact hc'.ne_ hc (by decide) rfl⟩
  have h1 := H.out.putW hk0 ((H.out.ri.imp (fun _ _ x => x.kept hk0 hz)).snoc (HUX.out.kept hk0 hz)) HR7.out (fun k e => by
    rcases HO7.out with h | h
    · exact .inl (h ▸ e)
    · simp only [World.size_alloc, World.size_drew, hsa] at h
      rw [h] at e
      injection e with e
      right
      omega)
  have hd : m.done + 1 = m.behind + ((m.way ++ [x]).length : Int) := by unfold Mem.done; rw [List.length_append]; simp only [List.length_cons, List.length_nil]; omega
  generalize w7.setCell ⟨g, 5, none⟩ (.slice A7 n7 c7) = w8 at *
  have HP1 := Lib.hid h1
  obtain ⟨F1, hm1, _, _⟩ := h1
  obtain ⟨tb', vo', vw', vl', vt', rw', rt', hm1, _⟩ := hm1
  have d4 := hm1.b.cell 4
  have d5 := hm1.b.cell 5
  obtain ⟨A8, c8, hv8⟩ := hm1.r.shape
  subst hv8
  have hl8 := hm1.ri.1
  dsimp only at d4 hl8
  obtain ⟨i, HI⟩ : ∃ i, Hid (m.behind = i) := ⟨_, Lib.hid rfl⟩
  obtain ⟨k, HK⟩ : ∃ i, Hid (rw'.length = i) := ⟨_, Lib.hid rfl⟩
  have HE := Lib.hid (show m.done + 1 = i + (k : Int) by rw [hd, ← hl8, HK.out, HI.out])
  have hkl : k ≤ 1000001 := by rw [← HK.out, hl8, List.length_append]; simp only [List.length_cons, List.length_nil]; omega
  rw [HI.out] at d4 hb
  rw [HK.out] at d5
  have hw : IntKind.i64.wrap (i + (k : Int)) = i + (k : Int) := by rw [IntKind.wrap_i64]; omega
  clear hm1 hl8 hd hkl
  go_wp2_with (fail)
  go_quiet (fail)
  go_wp2
  go_ret
  exact ⟨by rw [HE.out]; rfl, HP1.out.below (below_drewN (Below.refl _ _) _)⟩
end Go.Proofs.YtdfdlajfjcakaaaGreat
