import Derived.Test.YtpimpdgibcjbeaaRlZp
import Derived.Test.YtpimpdgibcjbeaaWLast
namespace Go.Proofs.Ytpimpdgibcjbeaa
open Go Go.RowKit
set_option linter.unusedVariables false
set_option linter.unusedSimpArgs false
open Go.Proofs.YtpimpdgibcjbeaaW.PrintLast

/-- What is let go. -/
def LogS.cpt (s : LogS) (i : Int) : LogS × Int := if i < s.base ∨ s.base + s.l.length < i then (s, 140) else (⟨i, (s.termAt i).1, s.l.drop (i - s.base).toNat⟩, 0)
theorem LogS.okB.cpt {s : LogS} (h : s.okB) (i : Int) : (s.cpt i).1.okB := by
  have h1 := h.1
  have h2 := h.2
  unfold LogS.cpt
  split
  · exact h
  · refine ⟨by simp only; omega, ?_⟩
    simp only [List.length_drop]
    omega
theorem log_compact (F : Nat → Prop) (g : Nat) (s : LogS) (i : Int) (w : World) (h : LogAt w F g s) (hb : s.okB) :
    Calls Try.prog 23 #[.pointer (some ⟨g, 0, none⟩), .int .i64 i] w fun e w' => e = .returned (.int .i64 (s.cpt i).2) ∧ LogPost w F g (s.cpt i).1 w' := by
  have h1 := hb.1
  have h2 := hb.2
  unfold LogS.cpt
  by_cases hi : i < s.base ∨ s.base + s.l.length < i
  · rw [if_pos hi]
    refine (log_compact_bad F g s i w h h1 (by omega) (by omega) hi).mono ?_
    rintro e w' ⟨rfl, hb⟩
    exact ⟨rfl, .of_below h hb⟩
  · rw [if_neg hi]
    exact log_compact_ok F g s (i - s.base).toNat i w h h1 (by omega) (by omega) (by omega) (by omega)
theorem ref_compact (F : Nat → Prop) (g : Nat) (s : LogS) (i : Int) (w : World) (h : RAt w F g s) (hb : s.okB) :
    Calls Try.prog 38 #[.pointer (some ⟨g, 0, none⟩), .int .i64 i] w fun e w' => e = .returned (.int .i64 (s.cpt i).2) ∧ RPost w F g (s.cpt i).1 w' := by
  have h1 := hb.1
  have h2 := hb.2
  unfold LogS.cpt
  by_cases hi : i < s.base ∨ s.base + s.l.length < i
  · rw [if_pos hi]
    refine (ref_compact_bad F g s i w h h1 (by omega) (by omega) hi).mono ?_
    rintro e w' ⟨rfl, hb⟩
    exact ⟨rfl, .of_below h hb⟩
  · rw [if_neg hi]
    exact ref_compact_ok F g s (i - s.base).toNat i w h h1 (by omega) (by omega) (by omega) (by omega)
/-- What Slice says. -/
def LogS.slc (s : LogS) (i m : Int) : List Ent × Int := if i ≤ s.base ∨ s.base + s.l.length + 1 < i then ([], 140) else if m < 0 then ([], 1) else ((s.l.drop (i - s.base - 1).toNat).take m.toNat, 0)
theorem log_slice_any (F : Nat → Prop) (g : Nat) (s : LogS) (i m : Int) (n : Nat) (w : World) (h : LogAt w F g s) (hb : s.okB) (hn : (s.slc i m).1.length = n) :
    Calls Try.prog 15 #[.pointer (some ⟨g, 0, none⟩), .int .i64 i, .int .i64 m] w fun e w' => ∃ A c, e = .returned (.tuple #[.slice A n c, .int .i64 (s.slc i m).2]) ∧ Row w' 44 2 Ent.cells (.slice A n c) (s.slc i m).1 ∧ Below w.heap.size w w' ∧ ∀ k, (Value.slice A n c).ownBlock = some k → w.heap.size ≤ k := by
  have h1 := hb.1
  have h2 := hb.2
  unfold LogS.slc at hn ⊢
  by_cases hi : i ≤ s.base ∨ s.base + s.l.length + 1 < i
  · rw [if_pos hi] at hn ⊢
    obtain rfl : n = 0 := hn.symm
    refine (log_slice_index F g s i m w h h1 (by omega) (by omega) hi).mono ?_
    rintro e w' ⟨rfl, hb⟩
    exact ⟨none, 0, rfl, Row.nil_ .., hb, by simp [Value.ownBlock]⟩
  · rw [if_neg hi] at hn ⊢
    by_cases hm : m < 0
    · rw [if_pos hm] at hn ⊢
      obtain rfl : n = 0 := hn.symm
      refine (log_slice_range F g s i m w h h1 (by omega) (by omega) hi hm).mono ?_
      rintro e w' ⟨rfl, hb⟩
      exact ⟨none, 0, rfl, Row.nil_ .., hb, by simp [Value.ownBlock]⟩
    · rw [if_neg hm] at hn ⊢
      exact log_slice F g s (i - s.base - 1).toNat n i m _ w h h1 h2 (by omega) (by omega) (by omega) rfl hn
theorem ref_slice_any (F : Nat → Prop) (g : Nat) (s : LogS) (i m : Int) (n : Nat) (w : World) (h : RAt w F g s) (hb : s.okB) (hn : (s.slc i m).1.length = n) :
    Calls Try.prog 35 #[.pointer (some ⟨g, 0, none⟩), .int .i64 i, .int .i64 m] w fun e w' => ∃ A c, e = .returned (.tuple #[.slice A n c, .int .i64 (s.slc i m).2]) ∧ Row w' 44 2 Ent.cells (.slice A n c) (s.slc i m).1 ∧ Below w.heap.size w w' ∧ ∀ k, (Value.slice A n c).ownBlock = some k → w.heap.size ≤ k := by
  have h1 := hb.1
  have h2 := hb.2
  unfold LogS.slc at hn ⊢
  by_cases hi : i ≤ s.base ∨ s.base + s.l.length + 1 < i
  · rw [if_pos hi] at hn ⊢
    obtain rfl : n = 0 := hn.symm
    refine (ref_slice_index F g s i m w h h1 (by omega) (by omega) hi).mono ?_
    rintro e w' ⟨rfl, hb⟩
    exact ⟨none, 0, rfl, Row.nil_ .., hb, by simp [Value.ownBlock]⟩
  · rw [if_neg hi] at hn ⊢
    by_cases hm : m < 0
    · rw [if_pos hm] at hn ⊢
      obtain rfl : n = 0 := hn.symm
      refine (ref_slice_range F g s i m w h h1 (by omega) (by omega) hi hm).mono ?_
      rintro e w' ⟨rfl, hb⟩
      exact ⟨none, 0, rfl, Row.nil_ .., hb, by simp [Value.ownBlock]⟩
    · rw [if_neg hm] at hn ⊢
      exact ref_slice F g s (i - s.base - 1).toNat n i m _ w h h1 h2 (by omega) (by omega) (by omega) rfl hn
theorem LogS.slc_le (s : LogS) (i m : Int) : (s.slc i m).1.length ≤ s.l.length := by
  unfold LogS.slc
  split
  · simp
  · split
    · simp
    · simp only [List.length_take, List.length_drop]; omega

set_option maxRecDepth 100000 in
set_option maxHeartbeats 8000000 in
theorem step_k0 (w0 w : World) (F : Nat → Prop) (g : Nat) (G : Nat → Prop) (h : Nat) (s : LogS) (kd ps tm nn : Int) (LA : Option Addr) (Lc : Nat) (L : List Ent) (MA : Option Addr) (Mc : Nat) (M : List Int) (H : Duo w0 w F g G h s s) (hs : s.okB) (hx : (ActR.mk kd ps tm nn LA Lc L MA Mc M).fits w0) (hk : amg kd 7 = 0) :
    Calls Try.prog 20 #[.pointer (some ⟨g, 0, none⟩), .pointer (some ⟨h, 0, none⟩), .agg #[.int .i64 kd, .int .i64 ps, .int .i64 tm, .int .i64 nn, .slice LA L.length Lc, .slice MA M.length Mc]] w fun e w' => e = .returned (.bool true) ∧ ∃ F' G' s', Duo w0 w' F' g G' h s' s' ∧ s'.okB := by
  have D1 := Lib.hid (H.below ((Below.refl _ w).alloc (Nat.le_refl _) (.cells #[.int .i64 kd, .int .i64 ps, .int .i64 tm, .int .i64 nn, .slice LA L.length Lc, .slice MA M.length Mc] 55)))
  have X1 := Lib.hid (Blk.new w 55 #[.int .i64 kd, .int .i64 ps, .int .i64 tm, .int .i64 nn, .slice LA L.length Lc, .slice MA M.length Mc])
  have HX := Lib.hid hx
  have HS := Lib.hid hs
  have hXlt := X1.out.lt
  have HXF := Lib.hid (show ∀ k, F k → k < w.heap.size from fun k hk => (H.lf k hk).2)
  have HXG := Lib.hid (show ∀ k, G k → k < w.heap.size from fun k hk => (H.rf k hk).2)
  have HZ := Lib.hid (show w0.heap.size ≤ w.heap.size from H.back.size)
  have ham := among_calls kd 7 (w.alloc (.cells #[.int .i64 kd, .int .i64 ps, .int .i64 tm, .int .i64 nn, .slice LA L.length Lc, .slice MA M.length Mc] 55)) (by decide)
  rw [hk] at ham
  have hb00 := hs.1
  have hb01 := hs.2
  have hb02 : s.base ≤ 1048576 := by omega
  have hb03 : s.l.length ≤ 1048576 := by omega
  have x0 := X1.out.cell 0
  clear H hx hs hk
  go_enter Try.func20, Try.ntmps20
  go_wp2_with (fail)
  generalize hW1 : w.alloc (.cells #[.int .i64 kd, .int .i64 ps, .int .i64 tm, .int .i64 nn, .slice LA L.length Lc, .slice MA M.length Mc] 55) = W1 at *
  clear hW1
  have x1 := X1.out.cell 1
  have x2 := X1.out.cell 2
  have x3 := X1.out.cell 3
  have x4 := X1.out.cell 4
  have x5 := X1.out.cell 5
  refine ham.mono ?_
  rintro e wz ⟨rfl, hwz⟩
  obtain rfl := hwz.symm
  clear hwz ham
  have HW1 := Lib.hid (show w.heap.size < W1.heap.size from X1.out.lt)
  rcases Nat.eq_zero_or_pos L.length with hL | hL
  · have D2 := Lib.hid (D1.out.below ((Below.refl _ W1).alloc (Nat.le_refl _) (.cells #[.int .i64 tm, .string ⟨#[]⟩] 44)))
    have E2 := Lib.hid (Blk.new W1 44 #[.int .i64 tm, .string ⟨#[]⟩])
    go_wp2_with (fail)
    generalize hW2 : W1.alloc (.cells #[.int .i64 tm, .string ⟨#[]⟩] 44) = W2 at *
    clear hW2
    have ha := log_append F g s ⟨tm, ⟨#[]⟩⟩ W2 D2.out.l hb00 (by unfold LogS.last; exact hb01) (by simp [ByteArray.size])
    go_wp2_with (fail)
    refine ha.mono ?_
    rintro e W3 ⟨rfl, h3⟩
    have D3 := Lib.hid (D2.out.left h3)
    have E3 := Lib.hid (E2.out.kept h3.1 (fun hf => by have h1 := HXF.out _ hf; have h2 := HW1.out; omega))
    have z0 := E3.out.cell 0
    have z1 := E3.out.cell 1
    clear ha h3 D2
    have ha := ref_append G h s ⟨tm, ⟨#[]⟩⟩ W3 D3.out.r hb00 (by unfold LogS.last; exact hb01) (by simp [ByteArray.size])
    go_wp2_with (fail)
    refine ha.mono ?_
    rintro e W4 ⟨rfl, h4⟩
    have D4 := Lib.hid (D3.out.right h4)
    clear ha h4 D3
    go_wp2
    go_ret
    exact ⟨rfl, _, _, _, D4.out, HS.out.app _⟩

  · obtain ⟨ad, c', hv, _⟩ := HX.out.L.form hL
    simp only [Value.slice.injEq] at hv
    obtain ⟨rfl, _, _⟩ := hv
    have hs1 := HX.out.L.kept0 (Kept.of_below D1.out.back fun _ => False) (fun _ _ _ h => h)
    have y0 := hs1.cell (sz := 2) (fun _ => rfl) 0 0 hL (by omega)
    have y1 := hs1.cell (sz := 2) (fun _ => rfl) 0 1 hL (by omega)
    have HE := Lib.hid (HX.out.Ld _ (List.getElem_mem hL))
    generalize L[0] = y at y0 y1 HE
    simp only [Ent.cells, adr, Nat.zero_mul, List.getElem?_cons_zero, List.getElem?_cons_succ, Nat.zero_add, show ad.add 0 = ad from by unfold Addr.add; simp] at y0 y1
    have hadl := World.block_lt_of_cell? _ _ y0
    have g1 : (0 : Int) < (L.length : Int) := by omega
    have D2 := Lib.hid (D1.out.below ((Below.refl _ W1).alloc (Nat.le_refl _) (.cells #[.int .i64 y.term, .string y.data] 44)))
    have E2 := Lib.hid (Blk.new W1 44 #[.int .i64 y.term, .string y.data])
    clear hs1
    go_wp2_with (fail)
    generalize hW2 : W1.alloc (.cells #[.int .i64 y.term, .string y.data] 44) = W2 at *
    clear hW2
    have ha := log_append F g s y W2 D2.out.l hb00 (by unfold LogS.last; exact hb01) (by have := HE.out; omega)
    go_wp2_with (fail)
    refine ha.mono ?_
    rintro e W3 ⟨rfl, h3⟩
    have D3 := Lib.hid (D2.out.left h3)
    have E3 := Lib.hid (E2.out.kept h3.1 (fun hf => by have h1 := HXF.out _ hf; have h2 := HW1.out; omega))
    have z0 := E3.out.cell 0
    have z1 := E3.out.cell 1
    clear ha h3 D2
    have ha := ref_append G h s y W3 D3.out.r hb00 (by unfold LogS.last; exact hb01) (by have := HE.out; omega)
    go_wp2_with (fail)
    refine ha.mono ?_
    rintro e W4 ⟨rfl, h4⟩
    have D4 := Lib.hid (D3.out.right h4)
    clear ha h4 D3
    go_wp2
    go_ret
    exact ⟨rfl, _, _, _, D4.out, HS.out.app _⟩
set_option maxRecDepth 100000 in
set_option maxHeartbeats 8000000 in
theorem step_k1 (w0 w : World) (F : Nat → Prop) (g : Nat) (G : Nat → Prop) (h : Nat) (s : LogS) (kd ps tm nn : Int) (LA : Option Addr) (Lc : Nat) (L : List Ent) (MA : Option Addr) (Mc : Nat) (M : List Int) (H : Duo w0 w F g G h s s) (hs : s.okB) (hx : (ActR.mk kd ps tm nn LA Lc L MA Mc M).fits w0) (hk : amg kd 7 = 1) :
    Calls Try.prog 20 #[.pointer (some ⟨g, 0, none⟩), .pointer (some ⟨h, 0, none⟩), .agg #[.int .i64 kd, .int .i64 ps, .int .i64 tm, .int .i64 nn, .slice LA L.length Lc, .slice MA M.length Mc]] w fun e w' => e = .returned (.bool true) ∧ ∃ F' G' s', Duo w0 w' F' g G' h s' s' ∧ s'.okB := by
  have D1 := Lib.hid (H.below ((Below.refl _ w).alloc (Nat.le_refl _) (.cells #[.int .i64 kd, .int .i64 ps, .int .i64 tm, .int .i64 nn, .slice LA L.length Lc, .slice MA M.length Mc] 55)))
  have X1 := Lib.hid (Blk.new w 55 #[.int .i64 kd, .int .i64 ps, .int .i64 tm, .int .i64 nn, .slice LA L.length Lc, .slice MA M.length Mc])
  have HX := Lib.hid hx
  have HS := Lib.hid hs
  have hXlt := X1.out.lt
  have HXF := Lib.hid (show ∀ k, F k → k < w.heap.size from fun k hk => (H.lf k hk).2)
  have HXG := Lib.hid (show ∀ k, G k → k < w.heap.size from fun k hk => (H.rf k hk).2)
  have HZ := Lib.hid (show w0.heap.size ≤ w.heap.size from H.back.size)
  have ham := among_calls kd 7 (w.alloc (.cells #[.int .i64 kd, .int .i64 ps, .int .i64 tm, .int .i64 nn, .slice LA L.length Lc, .slice MA M.length Mc] 55)) (by decide)
  rw [hk] at ham
  have hb00 := hs.1
  have hb01 := hs.2
  have hb02 : s.base ≤ 1048576 := by omega
  have hb03 : s.l.length ≤ 1048576 := by omega
  have x0 := X1.out.cell 0
  clear H hx hs hk
  go_enter Try.func20, Try.ntmps20
  go_wp2_with (fail)
  generalize hW1 : w.alloc (.cells #[.int .i64 kd, .int .i64 ps, .int .i64 tm, .int .i64 nn, .slice LA L.length Lc, .slice MA M.length Mc] 55) = W1 at *
  clear hW1
  have x1 := X1.out.cell 1
  have x2 := X1.out.cell 2
  have x3 := X1.out.cell 3
  have x4 := X1.out.cell 4
  have x5 := X1.out.cell 5
  refine ham.mono ?_
  rintro e wz ⟨rfl, hwz⟩
  obtain rfl := hwz.symm
  clear hwz ham
  have hLl := HX.out.Ll
  have HLl := Lib.hid hLl
  have HSG := Lib.hid (HX.out.L.kept0 (Kept.of_below D1.out.back fun _ => False) (fun _ _ _ h => h))
  have HLn := Lib.hid HX.out.Ln
  go_wp2_with (at_builtin; refine SegG.append_list (by rfl) (.tmp 75) (.tmp 77) 36 44 (.agg #[.int .i64 0, .string ⟨#[]⟩]) 2 24 rfl Try.underlying36 info_entries rfl (by decide) (by decide) (.slice (some ⟨W1.heap.size, 0, none⟩) 0 0) LA L.length Lc [] L rfl rfl (Row.empty _ _ 2 Ent.cells) (HSG.out.alloc _) rfl HLn.out (fun _ => rfl) one_ent (by simp only [List.length_nil]; omega) ?_)
  intro v6 W2 hR hG hO
  replace hR : Row W2 44 2 Ent.cells v6 L := by simpa using hR
  obtain ⟨Ao, co, rfl⟩ := hR.shape_n rfl
  have hb2 : Below W1.heap.size W1 W2 := ((Below.refl _ W1).alloc (Nat.le_refl _) _).grown hG (by simp) (fun q e => by simp [Value.ownBlock] at e; omega)
  have HRo := Lib.hid hR
  have HO1 := Lib.hid (own_ge (n := W1.heap.size) (b := W1.heap.size) hO ⟨rfl, Nat.le_refl _⟩ (by simp))
  have D2 := Lib.hid (D1.out.below hb2)
  have X2 := Lib.hid (X1.out.kept (Kept.of_below hb2 fun _ => False) (fun h => h))
  have u1 := X2.out.cell 1
  have u2 := X2.out.cell 2
  have HF1 := Lib.hid (show ∀ q, F q → q < W1.heap.size from fun q hf => (D1.out.lf q hf).2)
  have HG1 := Lib.hid (show ∀ q, G q → q < W1.heap.size from fun q hf => (D1.out.rf q hf).2)
  have HZ1 := Lib.hid (show w0.heap.size ≤ W1.heap.size from D1.out.back.size)
  have HRl := Lib.hid (show ∀ q, (Value.slice Ao L.length co).ownBlock = some q → q < W2.heap.size from fun q e => hR.lt e)
  clear hR hG hO hb2 x1 x2 x4
  have hm := log_merge F g s ps tm (.slice Ao L.length co) L W2 D2.out.l hb00 hb01 (Seg.of_row HRo.out) (by omega)
  go_wp2_with (fail)
  refine hm.mono ?_
  rintro e W3 ⟨rfl, h3⟩
  have D3 := Lib.hid (D2.out.left h3)
  have HR3 := Lib.hid (HRo.out.kept h3.1 (fun q e hf => by have h1 := HO1.out q e; have h2 := HF1.out q hf; omega))
  have X3 := Lib.hid (X2.out.kept h3.1 (fun hf => by have h1 := HXF.out _ hf; omega))
  have HZ2 := Lib.hid h3.1.size
  have u1 := X3.out.cell 1
  have u2 := X3.out.cell 2
  have u4 := X3.out.cell 4
  clear hm h3 HRo
  have hm := ref_merge G h s ps tm (.slice LA L.length Lc) L W3 D3.out.r hb00 hb01 (HX.out.L.kept0 (Kept.of_below D3.out.back fun _ => False) (fun _ _ _ h => h)) (by omega) (fun h0 q e hg => by
    obtain ⟨ad, c9, hv, _⟩ := HX.out.L.form h0
    have h5 := HX.out.L
    rw [hv] at h5
    have h6 := World.block_lt_of_cell? w0 _ ((h5.cell (sz := 2) (fun _ => rfl) 0 0 h0 (by omega)).trans (by rfl))
    rw [adr_eq, add_block] at h6
    rw [hv] at e
    simp only [Value.ownBlock, Option.map_some, Option.some.injEq] at e
    have h7 := (D3.out.rf q hg).1
    omega)
  go_wp2_with (fail)
  refine hm.mono ?_
  rintro e W4 ⟨rfl, h4⟩
  have D4 := Lib.hid (D3.out.right h4)
  have HR4 := Lib.hid (HR3.out.kept h4.1 (fun q e hf => by have h1 := HO1.out q e; have h2 := HG1.out q hf; omega))
  have X4 := Lib.hid (X3.out.kept h4.1 (fun hf => by have h1 := HXG.out _ hf; omega))
  have u4 := X4.out.cell 4
  have HO := Lib.hid (show ∀ q, (Value.slice Ao L.length co).ownBlock = some q → ¬ grow F W2 W3 q ∧ ¬ grow G W3 W4 q ∧ w0.heap.size ≤ q from fun q e => by
    have h1 := HO1.out q e
    have h2 := HRl.out q e
    have h3 := HZ1.out
    have h5 := HZ2.out
    refine ⟨fun hf => ?_, fun hf => ?_, by omega⟩
    · rcases hf with hf | hf
      · have := HF1.out q hf; omega
      · omega
    · rcases hf with hf | hf
      · have := HG1.out q hf; omega
      · omega)
  have hse := same_g (.slice Ao L.length co) (.slice LA L.length Lc) L W4 (SegG.of_seg (Seg.of_row HR4.out)) (HX.out.L.kept0 (Kept.of_below D4.out.back fun _ => False) (fun _ _ _ h => h)) (by omega)
  clear hm h4 HR3 X3
  go_wp2_with (fail)
  refine hse.mono ?_
  rintro e W5 ⟨rfl, hb5⟩
  have D5 := Lib.hid (D4.out.below hb5)
  have HRo := Lib.hid (HR4.out.kept (Kept.of_below hb5 fun _ => False) (fun _ _ h => h))
  clear hse hb5 HR4

  obtain ⟨wq, hwq⟩ : ∃ wq, wq = W5 := ⟨_, rfl⟩
  subst W5
  go_wp2_with (fail)
  go_loopg [20] (L.length) (fun gg s20 wr => ∃ (i : Nat) (l' : List Ent), i ≤ L.length ∧ L.length - i ≤ gg ∧ s20 = .int .i64 i ∧ l'.length = L.length ∧ Hid (Row wr 44 2 Ent.cells (.slice Ao (L.length) co) l') ∧ Hid (Kept wq wr (fun q => (Value.slice Ao (L.length) co).ownBlock = some q)))
  case atStart => exact ⟨0, _, Nat.zero_le _, by omega, rfl, rfl, HRo, Lib.hid (Kept.refl _ _)⟩
  case round =>
    obtain ⟨i, l', hi, hgi, rfl, hl', HRw, HKw⟩ := hrel
    by_cases hin : i < L.length
    · have hil : i < l'.length := by rw [hl']; exact hin
      obtain ⟨b1, d1, hv1, hlt1, hcl1⟩ := HRw.out.form (by omega)
      injection hv1 with hA1 hnn hc1
      clear hnn
      subst hA1 hc1
      have y0 := HRw.out.cell (fun _ => rfl) i 0 hil (by omega)
      have y1 := HRw.out.cell (fun _ => rfl) i 1 hil (by omega)
      have f0 := HRw.out.frozen (i * 2)
      have f1 := HRw.out.frozen (i * 2 + 1)
      have hset := HRw.out.set_ (fun _ => rfl) one_ent i ⟨-3, ⟨#[]⟩⟩ hil
      generalize l'[i] = yy at y0 y1
      simp only [Ent.cells, List.getElem?_cons_zero, List.getElem?_cons_succ, Nat.add_zero, Nat.mul_one] at y0 y1
      have g6 : (i : Int) < ((L.length : Nat) : Int) := by omega
      have g7 : (0 : Int) ≤ (i : Int) := by omega
      have HSET := Lib.hid hset
      have HL9 := Lib.hid hl'
      clear hset hl'
      go_wp2
      go_roundg (L.length - (i + 1))
      case measure => omega
      case rel => exact ⟨i + 1, l'.set i ⟨-3, ⟨#[]⟩⟩, by omega, Nat.le_refl _, by go_num, by rw [List.length_set]; exact HL9.out, Lib.hid HSET.out.1, Lib.hid (HKw.out.trans ((Kept.of_grown HSET.out.2).mono (fun q _ e => by rw [e]; rfl)))⟩
    · have g6 : ¬ (i : Int) < ((L.length : Nat) : Int) := by omega
      have DF := Lib.hid (D5.out.kept HKw.out (fun q hf e => (HO.out q e).1 hf) (fun q hf e => (HO.out q e).2.1 hf) (fun q e => (HO.out q e).2.2))
      clear hin
      go_wp2
      go_ret
      exact ⟨rfl, _, _, _, DF.out, HS.out.merge _ _ _⟩
set_option maxRecDepth 100000 in
set_option maxHeartbeats 8000000 in
theorem step_k2 (w0 w : World) (F : Nat → Prop) (g : Nat) (G : Nat → Prop) (h : Nat) (s : LogS) (kd ps tm nn : Int) (LA : Option Addr) (Lc : Nat) (L : List Ent) (MA : Option Addr) (Mc : Nat) (M : List Int) (H : Duo w0 w F g G h s s) (hs : s.okB) (hx : (ActR.mk kd ps tm nn LA Lc L MA Mc M).fits w0) (hk : amg kd 7 = 2) :
    Calls Try.prog 20 #[.pointer (some ⟨g, 0, none⟩), .pointer (some ⟨h, 0, none⟩), .agg #[.int .i64 kd, .int .i64 ps, .int .i64 tm, .int .i64 nn, .slice LA L.length Lc, .slice MA M.length Mc]] w fun e w' => e = .returned (.bool true) ∧ ∃ F' G' s', Duo w0 w' F' g G' h s' s' ∧ s'.okB := by
  have D1 := Lib.hid (H.below ((Below.refl _ w).alloc (Nat.le_refl _) (.cells #[.int .i64 kd, .int .i64 ps, .int .i64 tm, .int .i64 nn, .slice LA L.length Lc, .slice MA M.length Mc] 55)))
  have X1 := Lib.hid (Blk.new w 55 #[.int .i64 kd, .int .i64 ps, .int .i64 tm, .int .i64 nn, .slice LA L.length Lc, .slice MA M.length Mc])
  have HX := Lib.hid hx
  have HS := Lib.hid hs
  have hXlt := X1.out.lt
  have HXF := Lib.hid (show ∀ k, F k → k < w.heap.size from fun k hk => (H.lf k hk).2)
  have HXG := Lib.hid (show ∀ k, G k → k < w.heap.size from fun k hk => (H.rf k hk).2)
  have HZ := Lib.hid (show w0.heap.size ≤ w.heap.size from H.back.size)
  have ham := among_calls kd 7 (w.alloc (.cells #[.int .i64 kd, .int .i64 ps, .int .i64 tm, .int .i64 nn, .slice LA L.length Lc, .slice MA M.length Mc] 55)) (by decide)
  rw [hk] at ham
  have hb00 := hs.1
  have hb01 := hs.2
  have hb02 : s.base ≤ 1048576 := by omega
  have hb03 : s.l.length ≤ 1048576 := by omega
  have x0 := X1.out.cell 0
  clear H hx hs hk
  go_enter Try.func20, Try.ntmps20
  go_wp2_with (fail)
  generalize hW1 : w.alloc (.cells #[.int .i64 kd, .int .i64 ps, .int .i64 tm, .int .i64 nn, .slice LA L.length Lc, .slice MA M.length Mc] 55) = W1 at *
  clear hW1
  have x1 := X1.out.cell 1
  have x2 := X1.out.cell 2
  have x3 := X1.out.cell 3
  have x4 := X1.out.cell 4
  have x5 := X1.out.cell 5
  refine ham.mono ?_
  rintro e wz ⟨rfl, hwz⟩
  obtain rfl := hwz.symm
  clear hwz ham
  obtain ⟨n, hn⟩ : ∃ n, (s.slc ps nn).1.length = n := ⟨_, rfl⟩
  have HNL := Lib.hid hn
  have hnle : n ≤ 1048576 := by have := s.slc_le ps nn; omega
  have hsl := log_slice_any F g s ps nn n W1 D1.out.l HS.out hn
  go_wp2_with (fail)
  refine hsl.mono ?_
  rintro e W2 ⟨Ao, co, rfl, hR2, hb2, hf2⟩
  have D2 := Lib.hid (D1.out.below hb2)
  have X2 := Lib.hid (X1.out.kept (Kept.of_below hb2 fun _ => False) (fun h => h))
  have HRx := Lib.hid hR2
  have HO := Lib.hid (show ∀ q, (Value.slice Ao n co).ownBlock = some q → ¬ F q ∧ ¬ G q ∧ w0.heap.size ≤ q from fun q e => by
    have h1 := hf2 q e
    have h2 := D1.out.back.size
    exact ⟨fun hf => by have := (D1.out.lf q hf).2; omega, fun hf => by have := (D1.out.rf q hf).2; omega, by omega⟩)
  have u1 := X2.out.cell 1
  have u3 := X2.out.cell 3
  clear hsl hR2 hb2 hf2
  have hsl := ref_slice_any G h s ps nn n W2 D2.out.r HS.out hn
  clear hn
  go_wp2_with (fail)
  refine hsl.mono ?_
  rintro e W3 ⟨A3, c3, rfl, hR3, hb3, _⟩
  have D3 := Lib.hid (D2.out.below hb3)
  have HR3 := Lib.hid (HRx.out.kept (Kept.of_below hb3 fun _ => False) (fun _ _ h => h))
  have hse := same_true (.slice Ao n co) (.slice A3 n c3) _ W3 HR3.out hR3 (by rw [HNL.out]; omega)
  clear hsl hR3 hb3
  go_wp2_with (fail)
  refine hse.mono ?_
  rintro e W4 ⟨rfl, hb4⟩
  have D4 := Lib.hid (D3.out.below hb4)
  have HRo := Lib.hid (HR3.out.kept (Kept.of_below hb4 fun _ => False) (fun _ _ h => h))
  clear hse hb4

  obtain ⟨wq, hwq⟩ : ∃ wq, wq = W4 := ⟨_, rfl⟩
  subst W4
  go_wp2_with (fail)
  go_loopg [26] (n) (fun gg s26 wr => ∃ (i : Nat) (l' : List Ent), i ≤ n ∧ n - i ≤ gg ∧ s26 = .int .i64 i ∧ l'.length = n ∧ Hid (Row wr 44 2 Ent.cells (.slice Ao (n) co) l') ∧ Hid (Kept wq wr (fun q => (Value.slice Ao (n) co).ownBlock = some q)))
  case atStart => exact ⟨0, _, Nat.zero_le _, by omega, rfl, HNL.out, HRo, Lib.hid (Kept.refl _ _)⟩
  case round =>
    obtain ⟨i, l', hi, hgi, rfl, hl', HRw, HKw⟩ := hrel
    by_cases hin : i < n
    · have hil : i < l'.length := by rw [hl']; exact hin
      obtain ⟨b1, d1, hv1, hlt1, hcl1⟩ := HRw.out.form (by omega)
      injection hv1 with hA1 hnn hc1
      clear hnn
      subst hA1 hc1
      have y0 := HRw.out.cell (fun _ => rfl) i 0 hil (by omega)
      have y1 := HRw.out.cell (fun _ => rfl) i 1 hil (by omega)
      have f0 := HRw.out.frozen (i * 2)
      have f1 := HRw.out.frozen (i * 2 + 1)
      have hset := HRw.out.set_ (fun _ => rfl) one_ent i ⟨-3, ⟨#[]⟩⟩ hil
      generalize l'[i] = yy at y0 y1
      simp only [Ent.cells, List.getElem?_cons_zero, List.getElem?_cons_succ, Nat.add_zero, Nat.mul_one] at y0 y1
      have g6 : (i : Int) < ((n : Nat) : Int) := by omega
      have g7 : (0 : Int) ≤ (i : Int) := by omega
      have HSET := Lib.hid hset
      have HL9 := Lib.hid hl'
      clear hset hl'
      go_wp2
      go_roundg (n - (i + 1))
      case measure => omega
      case rel => exact ⟨i + 1, l'.set i ⟨-3, ⟨#[]⟩⟩, by omega, Nat.le_refl _, by go_num, by rw [List.length_set]; exact HL9.out, Lib.hid HSET.out.1, Lib.hid (HKw.out.trans ((Kept.of_grown HSET.out.2).mono (fun q _ e => by rw [e]; rfl)))⟩
    · have g6 : ¬ (i : Int) < ((n : Nat) : Int) := by omega
      have DF := Lib.hid (D4.out.kept HKw.out (fun q hf e => (HO.out q e).1 hf) (fun q hf e => (HO.out q e).2.1 hf) (fun q e => (HO.out q e).2.2))
      clear hin
      go_wp2
      go_ret
      exact ⟨rfl, _, _, _, DF.out, HS.out⟩
set_option maxRecDepth 100000 in
set_option maxHeartbeats 8000000 in
theorem step_k3 (w0 w : World) (F : Nat → Prop) (g : Nat) (G : Nat → Prop) (h : Nat) (s : LogS) (kd ps tm nn : Int) (LA : Option Addr) (Lc : Nat) (L : List Ent) (MA : Option Addr) (Mc : Nat) (M : List Int) (H : Duo w0 w F g G h s s) (hs : s.okB) (hx : (ActR.mk kd ps tm nn LA Lc L MA Mc M).fits w0) (hk : amg kd 7 = 3) :
    Calls Try.prog 20 #[.pointer (some ⟨g, 0, none⟩), .pointer (some ⟨h, 0, none⟩), .agg #[.int .i64 kd, .int .i64 ps, .int .i64 tm, .int .i64 nn, .slice LA L.length Lc, .slice MA M.length Mc]] w fun e w' => e = .returned (.bool true) ∧ ∃ F' G' s', Duo w0 w' F' g G' h s' s' ∧ s'.okB := by
  have D1 := Lib.hid (H.below ((Below.refl _ w).alloc (Nat.le_refl _) (.cells #[.int .i64 kd, .int .i64 ps, .int .i64 tm, .int .i64 nn, .slice LA L.length Lc, .slice MA M.length Mc] 55)))
  have X1 := Lib.hid (Blk.new w 55 #[.int .i64 kd, .int .i64 ps, .int .i64 tm, .int .i64 nn, .slice LA L.length Lc, .slice MA M.length Mc])
  have HX := Lib.hid hx
  have HS := Lib.hid hs
  have hXlt := X1.out.lt
  have HXF := Lib.hid (show ∀ k, F k → k < w.heap.size from fun k hk => (H.lf k hk).2)
  have HXG := Lib.hid (show ∀ k, G k → k < w.heap.size from fun k hk => (H.rf k hk).2)
  have HZ := Lib.hid (show w0.heap.size ≤ w.heap.size from H.back.size)
  have ham := among_calls kd 7 (w.alloc (.cells #[.int .i64 kd, .int .i64 ps, .int .i64 tm, .int .i64 nn, .slice LA L.length Lc, .slice MA M.length Mc] 55)) (by decide)
  rw [hk] at ham
  have hb00 := hs.1
  have hb01 := hs.2
  have hb02 : s.base ≤ 1048576 := by omega
  have hb03 : s.l.length ≤ 1048576 := by omega
  have x0 := X1.out.cell 0
  clear H hx hs hk
  go_enter Try.func20, Try.ntmps20
  go_wp2_with (fail)
  generalize hW1 : w.alloc (.cells #[.int .i64 kd, .int .i64 ps, .int .i64 tm, .int .i64 nn, .slice LA L.length Lc, .slice MA M.length Mc] 55) = W1 at *
  clear hW1
  have x1 := X1.out.cell 1
  have x2 := X1.out.cell 2
  have x3 := X1.out.cell 3
  have x4 := X1.out.cell 4
  have x5 := X1.out.cell 5
  refine ham.mono ?_
  rintro e wz ⟨rfl, hwz⟩
  obtain rfl := hwz.symm
  clear hwz ham
  have Q0 := Lib.hid (show Duo w0 W1.drew F g G h s s ∧ Blk W1.drew w.heap.size 55 #[.int .i64 kd, .int .i64 ps, .int .i64 tm, .int .i64 nn, .slice LA L.length Lc, .slice MA M.length Mc] from ⟨D1.out.below ((Below.refl _ W1).drew), X1.out.drew⟩)
  go_wp2_with (fail)
  refine start_ (n := 14) (S := fun w' => w'.cell? ⟨w.heap.size, 1, none⟩ = some (.int .i64 ps) ∧ w'.cell? ⟨w.heap.size, 2, none⟩ = some (.int .i64 tm)) (ds := []) #[false, false, false, false, false, false, false, false, false, false, false, false, false, false] (by kernel_rfl) rfl rfl ⟨Q0.out.2.cell 1, Q0.out.2.cell 2⟩ (fun hHeld => ?_)
  refine pure_ (i := 0) (N := some 173) (v := ?_) (a' := ?_) #[true, false, false, false, false, false, false, false, false, false, false, false, false, false] rfl rfl (by kernel_rfl) (fun _ _ _ h => h) (Or.inl ⟨by rfl, ?_⟩) ?_ ?_
  rotate_left
  · intro w'
    go_simp
    with_reducible rfl
  rotate_left
  · simp only [Act.put, List.setIfInBounds_toArray, List.set_cons_zero, List.set_cons_succ, i64_w, i32_w]
    rfl
  refine pure_ (i := 1) (N := some 174) (v := ?_) (a' := ?_) #[true, true, false, false, false, false, false, false, false, false, false, false, false, false] rfl rfl (by kernel_rfl) (fun _ _ _ h => h) (Or.inl ⟨by rfl, ?_⟩) ?_ ?_
  rotate_left
  · intro w'
    go_simp
    with_reducible rfl
  rotate_left
  · simp only [Act.put, List.setIfInBounds_toArray, List.set_cons_zero, List.set_cons_succ, i64_w, i32_w]
    rfl
  refine pure_ (i := 3) (N := some 176) (v := ?_) (a' := ?_) #[true, true, false, true, false, false, false, false, false, false, false, false, false, false] rfl rfl (by kernel_rfl) (fun _ _ _ h => h) (Or.inl ⟨by rfl, ?_⟩) ?_ ?_
  rotate_left
  · intro w'
    go_simp
    with_reducible rfl
  rotate_left
  · simp only [Act.put, List.setIfInBounds_toArray, List.set_cons_zero, List.set_cons_succ, i64_w, i32_w]
    rfl
  refine pure_ (i := 6) (N := some 179) (v := ?_) (a' := ?_) #[true, true, false, true, false, false, true, false, false, false, false, false, false, false] rfl rfl (by kernel_rfl) (fun _ _ _ h => h) (Or.inl ⟨by rfl, ?_⟩) ?_ ?_
  rotate_left
  · intro w'
    go_simp
    with_reducible rfl
  rotate_left
  · simp only [Act.put, List.setIfInBounds_toArray, List.set_cons_zero, List.set_cons_succ, i64_w, i32_w]
    rfl
  refine pure_ (i := 7) (N := some 180) (v := ?_) (a' := ?_) #[true, true, false, true, false, false, true, true, false, false, false, false, false, false] rfl rfl (by kernel_rfl) (fun _ _ _ h => h) (Or.inl ⟨by rfl, ?_⟩) ?_ ?_
  rotate_left
  · intro w'
    go_simp
    with_reducible rfl
  rotate_left
  · simp only [Act.put, List.setIfInBounds_toArray, List.set_cons_zero, List.set_cons_succ, i64_w, i32_w]
    rfl
  refine pure_ (i := 9) (N := some 182) (v := ?_) (a' := ?_) #[true, true, false, true, false, false, true, true, false, true, false, false, false, false] rfl rfl (by kernel_rfl) (fun _ _ _ h => h) (Or.inl ⟨by rfl, ?_⟩) ?_ ?_
  rotate_left
  · intro w'
    go_simp
    with_reducible rfl
  rotate_left
  · simp only [Act.put, List.setIfInBounds_toArray, List.set_cons_zero, List.set_cons_succ, i64_w, i32_w]
    rfl
  refine take_ (i := 2) (N := some 175) (v := ?_) (a' := ?_) #[true, true, true, true, false, false, true, true, false, true, false, false, false, false] rfl rfl (by kernel_rfl) (fun _ _ _ h => h) (Or.inl ⟨by rfl, ?_⟩) hHeld ?_ ?_
  rotate_left
  · rintro w' ⟨s0, s1⟩
    go_simp
    with_reducible rfl
  rotate_left
  · simp only [Act.put, List.setIfInBounds_toArray, List.set_cons_zero, List.set_cons_succ, i64_w, i32_w]
    rfl
  refine take_ (i := 4) (N := some 177) (v := ?_) (a' := ?_) #[true, true, true, true, true, false, true, true, false, true, false, false, false, false] rfl rfl (by kernel_rfl) (fun _ _ _ h => h) (Or.inl ⟨by rfl, ?_⟩) hHeld ?_ ?_
  rotate_left
  · rintro w' ⟨s0, s1⟩
    go_simp
    with_reducible rfl
  rotate_left
  · simp only [Act.put, List.setIfInBounds_toArray, List.set_cons_zero, List.set_cons_succ, i64_w, i32_w]
    rfl
  refine take_ (i := 8) (N := some 181) (v := ?_) (a' := ?_) #[true, true, true, true, true, false, true, true, true, true, false, false, false, false] rfl rfl (by kernel_rfl) (fun _ _ _ h => h) (Or.inl ⟨by rfl, ?_⟩) hHeld ?_ ?_
  rotate_left
  · rintro w' ⟨s0, s1⟩
    go_simp
    with_reducible rfl
  rotate_left
  · simp only [Act.put, List.setIfInBounds_toArray, List.set_cons_zero, List.set_cons_succ, i64_w, i32_w]
    rfl
  refine take_ (i := 10) (N := some 183) (v := ?_) (a' := ?_) #[true, true, true, true, true, false, true, true, true, true, true, false, false, false] rfl rfl (by kernel_rfl) (fun _ _ _ h => h) (Or.inl ⟨by rfl, ?_⟩) hHeld ?_ ?_
  rotate_left
  · rintro w' ⟨s0, s1⟩
    go_simp
    with_reducible rfl
  rotate_left
  · simp only [Act.put, List.setIfInBounds_toArray, List.set_cons_zero, List.set_cons_succ, i64_w, i32_w]
    rfl
  refine one_ (i := 5) (N := some 178) #[true, true, true, true, true, true, true, true, true, true, true, false, false, false] rfl rfl (by kernel_rfl) (by decide) (fun K hK => ?_)
  refine goes_ Try.func24 (by kernel_rfl) rfl #[.pointer (some ⟨g, 0, none⟩), .int .i64 ps, .int .i64 tm] (by rfl) rfl rfl (by simp only [List.map_toArray, List.map_cons, List.map_nil]; rfl) ?_
  with_reducible refine (log_behind F g s ps tm _ Q0.out.1.l hb00 hb02 hb03).mono ?_
  rintro e w4 ⟨rfl, hb4⟩
  refine ⟨_, rfl, ?_⟩
  have Q4 := Lib.hid (And.intro (Q0.out.1.below hb4) (Q0.out.2.kept (Kept.of_below hb4 fun _ => False) (fun h => h)))
  clear hb4
  refine hK.out _ _ ⟨Q4.out.2.cell 1, Q4.out.2.cell 2⟩ (fun hHeld => ?_)
  clear hK K
  refine norm_ (a' := ?_) ?_ ?_
  rotate_left
  · show Act.put _ (some 178) _ = _
    simp only [Act.put, List.setIfInBounds_toArray, List.set_cons_zero, List.set_cons_succ, i64_w, i32_w]
    rfl
  refine one_ (i := 11) (N := some 184) #[true, true, true, true, true, true, true, true, true, true, true, true, false, false] rfl rfl (by kernel_rfl) (by decide) (fun K hK => ?_)
  refine goes_ Try.func36 (by kernel_rfl) rfl #[.pointer (some ⟨h, 0, none⟩), .int .i64 ps, .int .i64 tm] (by rfl) rfl rfl (by simp only [List.map_toArray, List.map_cons, List.map_nil]; rfl) ?_
  with_reducible refine (ref_behind G h s ps tm _ Q4.out.1.r hb00 hb02 hb03).mono ?_
  rintro e w5 ⟨rfl, hb5⟩
  refine ⟨_, rfl, ?_⟩
  have Q5 := Lib.hid (And.intro (Q4.out.1.below hb5) (Q4.out.2.kept (Kept.of_below hb5 fun _ => False) (fun h => h)))
  clear hb5
  refine hK.out _ _ ⟨Q5.out.2.cell 1, Q5.out.2.cell 2⟩ (fun hHeld => ?_)
  clear hK K
  refine norm_ (a' := ?_) ?_ ?_
  rotate_left
  · show Act.put _ (some 184) _ = _
    simp only [Act.put, List.setIfInBounds_toArray, List.set_cons_zero, List.set_cons_succ, i64_w, i32_w]
    rfl
  refine pure_ (i := 12) (N := some 185) (v := ?_) (a' := ?_) #[true, true, true, true, true, true, true, true, true, true, true, true, true, false] rfl rfl (by kernel_rfl) (fun _ _ _ h => h) (Or.inl ⟨by rfl, ?_⟩) ?_ ?_
  rotate_left
  · intro w'
    go_simp
    with_reducible rfl
  rotate_left
  · simp only [Act.put, List.setIfInBounds_toArray, List.set_cons_zero, List.set_cons_succ, i64_w, i32_w]
    rfl
  refine pure_ (i := 13) (N := some 6) (v := ?_) (a' := ?_) #[true, true, true, true, true, true, true, true, true, true, true, true, true, true] rfl rfl (by kernel_rfl) (fun _ _ _ h => h) (Or.inl ⟨by rfl, ?_⟩) ?_ ?_
  rotate_left
  · intro w'
    go_simp
    with_reducible rfl
  rotate_left
  · simp only [Act.put, List.setIfInBounds_toArray, List.set_cons_zero, List.set_cons_succ, i64_w, i32_w]
    rfl
  refine done_ (by kernel_rfl) ?_


  go_wp2
  go_ret
  exact ⟨by simp, _, _, s, Q5.out.1, HS.out⟩
set_option maxRecDepth 100000 in
set_option maxHeartbeats 8000000 in
theorem step_k4 (w0 w : World) (F : Nat → Prop) (g : Nat) (G : Nat → Prop) (h : Nat) (s : LogS) (kd ps tm nn : Int) (LA : Option Addr) (Lc : Nat) (L : List Ent) (MA : Option Addr) (Mc : Nat) (M : List Int) (H : Duo w0 w F g G h s s) (hs : s.okB) (hx : (ActR.mk kd ps tm nn LA Lc L MA Mc M).fits w0) (hk : amg kd 7 = 4) :
    Calls Try.prog 20 #[.pointer (some ⟨g, 0, none⟩), .pointer (some ⟨h, 0, none⟩), .agg #[.int .i64 kd, .int .i64 ps, .int .i64 tm, .int .i64 nn, .slice LA L.length Lc, .slice MA M.length Mc]] w fun e w' => e = .returned (.bool true) ∧ ∃ F' G' s', Duo w0 w' F' g G' h s' s' ∧ s'.okB := by
  have D1 := Lib.hid (H.below ((Below.refl _ w).alloc (Nat.le_refl _) (.cells #[.int .i64 kd, .int .i64 ps, .int .i64 tm, .int .i64 nn, .slice LA L.length Lc, .slice MA M.length Mc] 55)))
  have X1 := Lib.hid (Blk.new w 55 #[.int .i64 kd, .int .i64 ps, .int .i64 tm, .int .i64 nn, .slice LA L.length Lc, .slice MA M.length Mc])
  have HX := Lib.hid hx
  have HS := Lib.hid hs
  have hXlt := X1.out.lt
  have HXF := Lib.hid (show ∀ k, F k → k < w.heap.size from fun k hk => (H.lf k hk).2)
  have HXG := Lib.hid (show ∀ k, G k → k < w.heap.size from fun k hk => (H.rf k hk).2)
  have HZ := Lib.hid (show w0.heap.size ≤ w.heap.size from H.back.size)
  have ham := among_calls kd 7 (w.alloc (.cells #[.int .i64 kd, .int .i64 ps, .int .i64 tm, .int .i64 nn, .slice LA L.length Lc, .slice MA M.length Mc] 55)) (by decide)
  rw [hk] at ham
  have hb00 := hs.1
  have hb01 := hs.2
  have hb02 : s.base ≤ 1048576 := by omega
  have hb03 : s.l.length ≤ 1048576 := by omega
  have x0 := X1.out.cell 0
  clear H hx hs hk
  go_enter Try.func20, Try.ntmps20
  go_wp2_with (fail)
  generalize hW1 : w.alloc (.cells #[.int .i64 kd, .int .i64 ps, .int .i64 tm, .int .i64 nn, .slice LA L.length Lc, .slice MA M.length Mc] 55) = W1 at *
  clear hW1
  have x1 := X1.out.cell 1
  have x2 := X1.out.cell 2
  have x3 := X1.out.cell 3
  have x4 := X1.out.cell 4
  have x5 := X1.out.cell 5
  refine ham.mono ?_
  rintro e wz ⟨rfl, hwz⟩
  obtain rfl := hwz.symm
  clear hwz ham
  have hMl := HX.out.Ml
  have HMl := Lib.hid hMl
  have HSG := Lib.hid (HX.out.M.kept0 (Kept.of_below D1.out.back fun _ => False) (fun _ _ _ h => h))
  have HMn := Lib.hid HX.out.Mn
  go_wp2_with (at_builtin; refine SegG.append_list (by rfl) (.tmp 188) (.tmp 190) 22 3 (.int .i64 0) 1 8 rfl Try.underlying22 info_int rfl (by decide) (by decide) (.slice (some ⟨W1.heap.size, 0, none⟩) 0 0) MA M.length Mc [] M rfl rfl (Row.empty _ _ 1 icell) (HSG.out.alloc _) rfl HMn.out (fun _ => rfl) one_int (by simp only [List.length_nil]; omega) ?_)
  intro v6 W2 hR hG hO
  replace hR : Row W2 3 1 icell v6 M := by simpa using hR
  obtain ⟨Ao, co, rfl⟩ := hR.shape_n rfl
  have hb2 : Below W1.heap.size W1 W2 := ((Below.refl _ W1).alloc (Nat.le_refl _) _).grown hG (by simp) (fun q e => by simp [Value.ownBlock] at e; omega)
  have HRo := Lib.hid hR
  have D2 := Lib.hid (D1.out.below hb2)
  have X2 := Lib.hid (X1.out.kept (Kept.of_below hb2 fun _ => False) (fun h => h))
  have u2 := X2.out.cell 2
  have u3 := X2.out.cell 3
  clear hR hG hO hb2 x1 x2 x3 x5
  have hm := log_agreed F g s (.slice Ao M.length co) M tm nn W2 D2.out.l hb00 hb01 (Seg.of_row HRo.out) hMl
  go_wp2_with (fail)
  refine hm.mono ?_
  rintro e W3 ⟨rfl, hb3⟩
  have D3 := Lib.hid (D2.out.below hb3)
  have X3 := Lib.hid (X2.out.kept (Kept.of_below hb3 fun _ => False) (fun h => h))
  have HR3 := Lib.hid (HRo.out.kept (Kept.of_below hb3 fun _ => False) (fun _ _ h => h))
  have u2 := X3.out.cell 2
  have u3 := X3.out.cell 3
  have u5 := X3.out.cell 5
  clear hm hb3 HRo
  have hm := ref_agreed G h s (.slice MA M.length Mc) M tm nn W3 D3.out.r hb00 hb01 (HX.out.M.kept0 (Kept.of_below D3.out.back fun _ => False) (fun _ _ _ h => h)) (by omega)
  go_wp2_with (fail)
  refine hm.mono ?_
  rintro e W4 ⟨rfl, hb4⟩
  have D4 := Lib.hid (D3.out.below hb4)
  have X4 := Lib.hid (X3.out.kept (Kept.of_below hb4 fun _ => False) (fun h => h))
  have HR4 := Lib.hid (HR3.out.kept (Kept.of_below hb4 fun _ => False) (fun _ _ h => h))
  clear hm hb4 HR3 u2 u3 u5
  obtain ⟨wq, hwq⟩ : ∃ wq, wq = W4 := ⟨_, rfl⟩
  subst W4
  go_wp2_with (fail)
  go_loopg [32] M.length (fun gg s32 wr => ∃ (i : Nat), i ≤ M.length ∧ M.length - i ≤ gg ∧ s32 = .int .i64 i ∧ Hid (Below wq.heap.size wq wr))
  case atStart => exact ⟨0, Nat.zero_le _, by omega, rfl, Lib.hid (Below.refl _ _)⟩
  case round =>
    obtain ⟨i, hi, hgi, rfl, HBi⟩ := hrel
    by_cases hin : i < M.length
    · have R := SegG.of_seg ((Seg.of_row HR4.out).below HBi.out)
      have R' : SegG wr icell (.slice MA M.length Mc) M := (HX.out.M.kept0 (Kept.of_below D4.out.back fun _ => False) (fun _ _ _ h => h)).below HBi.out
      have u5 := (X4.out.kept (Kept.of_below HBi.out fun _ => False) (fun h => h)).cell 5
      obtain ⟨gb, c2, hv, _, _⟩ := R.form (by omega)
      obtain ⟨gb', c2', hv', _, _⟩ := R'.form (by omega)
      injection hv with hA hq1 hc
      injection hv' with hA' hq2 hc'
      clear hq1 hq2
      subst hA hc hA' hc'
      have y0 := R.cell (sz := 1) (fun _ => rfl) i 0 hin (by omega)
      have z0 := R'.cell (sz := 1) (fun _ => rfl) i 0 hin (by omega)
      generalize M[i] = y at y0 z0
      simp only [icell, adr, List.getElem?_cons_zero, Nat.add_zero, Nat.mul_one] at y0 z0
      have g1 : (i : Int) < (M.length : Int) := by omega
      have g0 : (0 : Int) ≤ (i : Int) := by omega
      clear R R'
      go_wp2_with (fail)
      go_quiet (fail)
      go_wp2
      go_roundg (M.length - (i + 1))
      case measure => omega
      case rel => exact ⟨i + 1, by omega, Nat.le_refl _, by go_num, Lib.hid (pw_drewN HBi.out _)⟩
    · have g1 : ¬ (i : Int) < (M.length : Int) := by omega
      have D5 := Lib.hid (D4.out.below HBi.out)
      clear hin
      go_wp2
      go_ret
      exact ⟨rfl, _, _, s, D5.out, HS.out⟩
set_option maxRecDepth 100000 in
set_option maxHeartbeats 8000000 in
theorem step_k5 (w0 w : World) (F : Nat → Prop) (g : Nat) (G : Nat → Prop) (h : Nat) (s : LogS) (kd ps tm nn : Int) (LA : Option Addr) (Lc : Nat) (L : List Ent) (MA : Option Addr) (Mc : Nat) (M : List Int) (H : Duo w0 w F g G h s s) (hs : s.okB) (hx : (ActR.mk kd ps tm nn LA Lc L MA Mc M).fits w0) (hk : amg kd 7 = 5) :
    Calls Try.prog 20 #[.pointer (some ⟨g, 0, none⟩), .pointer (some ⟨h, 0, none⟩), .agg #[.int .i64 kd, .int .i64 ps, .int .i64 tm, .int .i64 nn, .slice LA L.length Lc, .slice MA M.length Mc]] w fun e w' => e = .returned (.bool true) ∧ ∃ F' G' s', Duo w0 w' F' g G' h s' s' ∧ s'.okB := by
  have D1 := Lib.hid (H.below ((Below.refl _ w).alloc (Nat.le_refl _) (.cells #[.int .i64 kd, .int .i64 ps, .int .i64 tm, .int .i64 nn, .slice LA L.length Lc, .slice MA M.length Mc] 55)))
  have X1 := Lib.hid (Blk.new w 55 #[.int .i64 kd, .int .i64 ps, .int .i64 tm, .int .i64 nn, .slice LA L.length Lc, .slice MA M.length Mc])
  have HX := Lib.hid hx
  have HS := Lib.hid hs
  have hXlt := X1.out.lt
  have HXF := Lib.hid (show ∀ k, F k → k < w.heap.size from fun k hk => (H.lf k hk).2)
  have HXG := Lib.hid (show ∀ k, G k → k < w.heap.size from fun k hk => (H.rf k hk).2)
  have HZ := Lib.hid (show w0.heap.size ≤ w.heap.size from H.back.size)
  have ham := among_calls kd 7 (w.alloc (.cells #[.int .i64 kd, .int .i64 ps, .int .i64 tm, .int .i64 nn, .slice LA L.length Lc, .slice MA M.length Mc] 55)) (by decide)
  rw [hk] at ham
  have hb00 := hs.1
  have hb01 := hs.2
  have hb02 : s.base ≤ 1048576 := by omega
  have hb03 : s.l.length ≤ 1048576 := by omega
  have x0 := X1.out.cell 0
  clear H hx hs hk
  go_enter Try.func20, Try.ntmps20
  go_wp2_with (fail)
  generalize hW1 : w.alloc (.cells #[.int .i64 kd, .int .i64 ps, .int .i64 tm, .int .i64 nn, .slice LA L.length Lc, .slice MA M.length Mc] 55) = W1 at *
  clear hW1
  have x1 := X1.out.cell 1
  have x2 := X1.out.cell 2
  have x3 := X1.out.cell 3
  have x4 := X1.out.cell 4
  have x5 := X1.out.cell 5
  refine ham.mono ?_
  rintro e wz ⟨rfl, hwz⟩
  obtain rfl := hwz.symm
  clear hwz ham
  have Q0 := Lib.hid (show Duo w0 W1.drew F g G h s s ∧ Blk W1.drew w.heap.size 55 #[.int .i64 kd, .int .i64 ps, .int .i64 tm, .int .i64 nn, .slice LA L.length Lc, .slice MA M.length Mc] from ⟨D1.out.below ((Below.refl _ W1).drew), X1.out.drew⟩)
  go_wp2_with (fail)
  refine start_ (n := 10) (S := fun w' => w'.cell? ⟨w.heap.size, 1, none⟩ = some (.int .i64 ps)) (ds := []) #[false, false, false, false, false, false, false, false, false, false] (by kernel_rfl) rfl rfl (Q0.out.2.cell 1) (fun hHeld => ?_)
  refine pure_ (i := 0) (N := some 239) (v := ?_) (a' := ?_) #[true, false, false, false, false, false, false, false, false, false] rfl rfl (by kernel_rfl) (fun _ _ _ h => h) (Or.inl ⟨by rfl, ?_⟩) ?_ ?_
  rotate_left
  · intro w'
    go_simp
    with_reducible rfl
  rotate_left
  · simp only [Act.put, List.setIfInBounds_toArray, List.set_cons_zero, List.set_cons_succ, i64_w, i32_w]
    rfl
  refine pure_ (i := 1) (N := some 240) (v := ?_) (a' := ?_) #[true, true, false, false, false, false, false, false, false, false] rfl rfl (by kernel_rfl) (fun _ _ _ h => h) (Or.inl ⟨by rfl, ?_⟩) ?_ ?_
  rotate_left
  · intro w'
    go_simp
    with_reducible rfl
  rotate_left
  · simp only [Act.put, List.setIfInBounds_toArray, List.set_cons_zero, List.set_cons_succ, i64_w, i32_w]
    rfl
  refine pure_ (i := 4) (N := some 243) (v := ?_) (a' := ?_) #[true, true, false, false, true, false, false, false, false, false] rfl rfl (by kernel_rfl) (fun _ _ _ h => h) (Or.inl ⟨by rfl, ?_⟩) ?_ ?_
  rotate_left
  · intro w'
    go_simp
    with_reducible rfl
  rotate_left
  · simp only [Act.put, List.setIfInBounds_toArray, List.set_cons_zero, List.set_cons_succ, i64_w, i32_w]
    rfl
  refine pure_ (i := 5) (N := some 244) (v := ?_) (a' := ?_) #[true, true, false, false, true, true, false, false, false, false] rfl rfl (by kernel_rfl) (fun _ _ _ h => h) (Or.inl ⟨by rfl, ?_⟩) ?_ ?_
  rotate_left
  · intro w'
    go_simp
    with_reducible rfl
  rotate_left
  · simp only [Act.put, List.setIfInBounds_toArray, List.set_cons_zero, List.set_cons_succ, i64_w, i32_w]
    rfl
  refine take_ (i := 2) (N := some 241) (v := ?_) (a' := ?_) #[true, true, true, false, true, true, false, false, false, false] rfl rfl (by kernel_rfl) (fun _ _ _ h => h) (Or.inl ⟨by rfl, ?_⟩) hHeld ?_ ?_
  rotate_left
  · intro w' s0
    go_simp
    with_reducible rfl
  rotate_left
  · simp only [Act.put, List.setIfInBounds_toArray, List.set_cons_zero, List.set_cons_succ, i64_w, i32_w]
    rfl
  refine take_ (i := 6) (N := some 245) (v := ?_) (a' := ?_) #[true, true, true, false, true, true, true, false, false, false] rfl rfl (by kernel_rfl) (fun _ _ _ h => h) (Or.inl ⟨by rfl, ?_⟩) hHeld ?_ ?_
  rotate_left
  · intro w' s0
    go_simp
    with_reducible rfl
  rotate_left
  · simp only [Act.put, List.setIfInBounds_toArray, List.set_cons_zero, List.set_cons_succ, i64_w, i32_w]
    rfl
  refine one_ (i := 3) (N := some 242) #[true, true, true, true, true, true, true, false, false, false] rfl rfl (by kernel_rfl) (by decide) (fun K hK => ?_)
  refine goes_ Try.func23 (by kernel_rfl) rfl #[.pointer (some ⟨g, 0, none⟩), .int .i64 ps] (by rfl) rfl rfl (by simp only [List.map_toArray, List.map_cons, List.map_nil]; rfl) ?_
  with_reducible refine (log_compact F g s ps _ Q0.out.1.l HS.out).mono ?_
  rintro e w4 ⟨rfl, hb4⟩
  refine ⟨_, rfl, ?_⟩
  have Q4 := Lib.hid (And.intro (Q0.out.1.left hb4) (Q0.out.2.kept hb4.1 (fun hf => by have h1 := HXF.out _ hf; omega)))
  clear hb4
  refine hK.out _ _ (Q4.out.2.cell 1) (fun hHeld => ?_)
  clear hK K
  refine norm_ (a' := ?_) ?_ ?_
  rotate_left
  · show Act.put _ (some 242) _ = _
    simp only [Act.put, List.setIfInBounds_toArray, List.set_cons_zero, List.set_cons_succ, i64_w, i32_w]
    rfl
  refine one_ (i := 7) (N := some 246) #[true, true, true, true, true, true, true, true, false, false] rfl rfl (by kernel_rfl) (by decide) (fun K hK => ?_)
  refine goes_ Try.func38 (by kernel_rfl) rfl #[.pointer (some ⟨h, 0, none⟩), .int .i64 ps] (by rfl) rfl rfl (by simp only [List.map_toArray, List.map_cons, List.map_nil]; rfl) ?_
  with_reducible refine (ref_compact G h s ps _ Q4.out.1.r HS.out).mono ?_
  rintro e w5 ⟨rfl, hb5⟩
  refine ⟨_, rfl, ?_⟩
  have Q5 := Lib.hid (And.intro (Q4.out.1.right hb5) (Q4.out.2.kept hb5.1 (fun hf => by have h1 := HXG.out _ hf; omega)))
  clear hb5
  refine hK.out _ _ (Q5.out.2.cell 1) (fun hHeld => ?_)
  clear hK K
  refine norm_ (a' := ?_) ?_ ?_
  rotate_left
  · show Act.put _ (some 246) _ = _
    simp only [Act.put, List.setIfInBounds_toArray, List.set_cons_zero, List.set_cons_succ, i64_w, i32_w]
    rfl
  refine pure_ (i := 8) (N := some 247) (v := ?_) (a' := ?_) #[true, true, true, true, true, true, true, true, true, false] rfl rfl (by kernel_rfl) (fun _ _ _ h => h) (Or.inl ⟨by rfl, ?_⟩) ?_ ?_
  rotate_left
  · intro w'
    go_simp
    with_reducible rfl
  rotate_left
  · simp only [Act.put, List.setIfInBounds_toArray, List.set_cons_zero, List.set_cons_succ, i64_w, i32_w]
    rfl
  refine pure_ (i := 9) (N := some 6) (v := ?_) (a' := ?_) #[true, true, true, true, true, true, true, true, true, true] rfl rfl (by kernel_rfl) (fun _ _ _ h => h) (Or.inl ⟨by rfl, ?_⟩) ?_ ?_
  rotate_left
  · intro w'
    go_simp
    with_reducible rfl
  rotate_left
  · simp only [Act.put, List.setIfInBounds_toArray, List.set_cons_zero, List.set_cons_succ, i64_w, i32_w]
    rfl
  refine done_ (by kernel_rfl) ?_


  go_wp2
  go_ret
  exact ⟨by simp, _, _, _, Q5.out.1, HS.out.cpt ps⟩
set_option maxRecDepth 100000 in
set_option maxHeartbeats 8000000 in
theorem step_k6 (w0 w : World) (F : Nat → Prop) (g : Nat) (G : Nat → Prop) (h : Nat) (s : LogS) (kd ps tm nn : Int) (LA : Option Addr) (Lc : Nat) (L : List Ent) (MA : Option Addr) (Mc : Nat) (M : List Int) (H : Duo w0 w F g G h s s) (hs : s.okB) (hx : (ActR.mk kd ps tm nn LA Lc L MA Mc M).fits w0) (hk : amg kd 7 = 6) :
    Calls Try.prog 20 #[.pointer (some ⟨g, 0, none⟩), .pointer (some ⟨h, 0, none⟩), .agg #[.int .i64 kd, .int .i64 ps, .int .i64 tm, .int .i64 nn, .slice LA L.length Lc, .slice MA M.length Mc]] w fun e w' => e = .returned (.bool true) ∧ ∃ F' G' s', Duo w0 w' F' g G' h s' s' ∧ s'.okB := by
  have D1 := Lib.hid (H.below ((Below.refl _ w).alloc (Nat.le_refl _) (.cells #[.int .i64 kd, .int .i64 ps, .int .i64 tm, .int .i64 nn, .slice LA L.length Lc, .slice MA M.length Mc] 55)))
  have X1 := Lib.hid (Blk.new w 55 #[.int .i64 kd, .int .i64 ps, .int .i64 tm, .int .i64 nn, .slice LA L.length Lc, .slice MA M.length Mc])
  have HX := Lib.hid hx
  have HS := Lib.hid hs
  have hXlt := X1.out.lt
  have HXF := Lib.hid (show ∀ k, F k → k < w.heap.size from fun k hk => (H.lf k hk).2)
  have HXG := Lib.hid (show ∀ k, G k → k < w.heap.size from fun k hk => (H.rf k hk).2)
  have HZ := Lib.hid (show w0.heap.size ≤ w.heap.size from H.back.size)
  have ham := among_calls kd 7 (w.alloc (.cells #[.int .i64 kd, .int .i64 ps, .int .i64 tm, .int .i64 nn, .slice LA L.length Lc, .slice MA M.length Mc] 55)) (by decide)
  rw [hk] at ham
  have hb00 := hs.1
  have hb01 := hs.2
  have hb02 : s.base ≤ 1048576 := by omega
  have hb03 : s.l.length ≤ 1048576 := by omega
  have x0 := X1.out.cell 0
  clear H hx hs hk
  go_enter Try.func20, Try.ntmps20
  go_wp2_with (fail)
  generalize hW1 : w.alloc (.cells #[.int .i64 kd, .int .i64 ps, .int .i64 tm, .int .i64 nn, .slice LA L.length Lc, .slice MA M.length Mc] 55) = W1 at *
  clear hW1
  have x1 := X1.out.cell 1
  have x2 := X1.out.cell 2
  have x3 := X1.out.cell 3
  have x4 := X1.out.cell 4
  have x5 := X1.out.cell 5
  refine ham.mono ?_
  rintro e wz ⟨rfl, hwz⟩
  obtain rfl := hwz.symm
  clear hwz ham
  have ht := log_term F g s ps W1 D1.out.l hb00 hb02 hb03
  go_wp2_with (fail)
  refine ht.mono ?_
  rintro e W2 ⟨rfl, hb2⟩
  have D2 := Lib.hid (D1.out.below hb2)
  have X2 := Lib.hid (X1.out.kept (Kept.of_below hb2 fun _ => False) (fun h => h))
  have y1 := X2.out.cell 1
  clear ht hb2
  have ht := ref_term G h s ps W2 D2.out.r hb00 hb02 hb03
  go_wp2_with (fail)
  refine ht.mono ?_
  rintro e W3 ⟨rfl, hb3⟩
  have D3 := Lib.hid (D2.out.below hb3)
  clear ht hb3
  go_wp2
  go_ret
  exact ⟨rfl, _, _, s, D3.out, HS.out⟩
end Go.Proofs.Ytpimpdgibcjbeaa
