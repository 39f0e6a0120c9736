import Derived.Test.YtpimpdgibcjbeaaRlJ
namespace Go.Proofs.Ytpimpdgibcjbeaa
open Go Go.RowKit
set_option linter.unusedVariables false
set_option linter.unusedSimpArgs false

set_option maxRecDepth 100000 in
set_option maxHeartbeats 4000000 in
theorem log_compact_ok (F : Nat → Prop) (g : Nat) (s : LogS) (j : Nat) (i : Int) (w : World) (h : LogAt w F g s) (hb0 : 0 ≤ s.base) (hb1 : s.base ≤ 1048576) (hl : s.l.length ≤ 1048576) (hj : i = s.base + j) (hjl : j ≤ s.l.length) :
    Calls Try.prog 23 #[.pointer (some ⟨g, 0, none⟩), .int .i64 i] w fun e w' => e = .returned (.int .i64 0) ∧ LogPost w F g ⟨i, (s.termAt i).1, s.l.drop j⟩ w' := by
  have ht := log_term F g s i w h hb0 hb1 hl
  have e1 : (s.termAt i).2 = 0 := by
    unfold LogS.termAt
    rw [if_neg (by omega)]
    split <;> rfl
  rw [e1] at ht
  generalize (s.termAt i).1 = t0 at ht ⊢
  have H := Lib.hid h
  have HJ := Lib.hid hj
  have hw3 : IntKind.i64.wrap (i - s.base) = (j : Int) := by rw [IntKind.wrap_i64]; omega
  clear h e1 hj
  go_enter Try.func23, Try.ntmps23
  go_wp2_with (fail)
  refine ht.mono ?_
  rintro e w2 ⟨rfl, hb2⟩
  have hk0 := Lib.hid (Kept.of_below hb2 (fun _ => False))
  clear hb2 ht
  obtain ⟨vl, hb, h1, hg, f1⟩ := H.out
  have HB := Lib.hid hb
  have H1 := Lib.hid h1
  have hB0 := Lib.hid (hb.kept hk0.out (fun h => h))
  have hR0 := Lib.hid (h1.kept hk0.out (fun _ _ h => h))
  have b0 := hB0.out.cell 0
  have b2 := hB0.out.cell 2
  have fg := hB0.out.frozen 2
  have hgW := hB0.out.lt
  have j1 : (j : Int) ≤ (s.l.length : Int) := by omega
  rcases h1.2 with ⟨rfl, h0⟩ | ⟨gb, c, cur, rfl, hcb, hgb, hcl, hcm, _⟩
  · obtain rfl : j = 0 := by omega
    have HE := Lib.hid (show s.l.drop 0 = [] from List.eq_nil_of_length_eq_zero (by simpa using h0))
    have he := Go.Proofs.enters_of Try.func29 (by kernel_rfl) rfl
    have HH0 := Lib.hid h0
    clear hb h1 h0 j1 hjl hl
    simp only [Int.natCast_zero, Int.cast_ofNat_Int] at hw3
    go_wp2_with (fail)
    go_region_law (first
      | (refine step_call he #[.tmp 27] _ #[.slice none 0 0] (by rfl) (by rfl) (by simp only [List.map_toArray, List.map_cons, List.map_nil]; rfl) ?_; (with_reducible refine (clone_none _).mono ?_); rintro e w4 ⟨rfl, hw4⟩; have hR4 : Row w4 44 2 Ent.cells (.slice none 0 0) (s.l.drop 0) := (by rw [HE.out]; exact Row.nil_ ..); refine ⟨_, rfl, ?_⟩; have HR4 := Lib.hid hR4; have hB4 : Hid (Blk w4 g 62 #[.int .i64 s.base, .int .i64 s.term, .slice none 0 0]) := Lib.hid (by rw [hw4]; exact hB0.out); have hK4 : Hid (Kept w w4 (fun _ => False)) := Lib.hid (by rw [hw4]; first | exact hk0.out.drew | exact hk0.out.drew.drew | exact hk0.out); have d2 := hB4.out.cell 2; have d2f := hB4.out.frozen 2; have d2l := hB4.out.lt; clear hR4 hw4)
      | fail)
    all_goals
      have d0 := hB4.out.cell 0
      have d1 := hB4.out.cell 1
      have d0f := hB4.out.frozen 0
      have d1f := hB4.out.frozen 1
      go_wp2
      go_ret
      have hks := ((((Kept.refl w4 (fun k => k = g)).setCell (p := ⟨g, 2, none⟩) (.inl rfl) (.slice none 0 0)).setCell (p := ⟨g, 0, none⟩) (.inl rfl) (.int .i64 i)).setCell (p := ⟨g, 1, none⟩) (.inl rfl) (.int .i64 t0))
      refine ⟨rfl, ?_, ?_⟩
      · exact (((hK4.out.mono (S' := F) (fun k _ h => h.elim)).setCell (p := ⟨g, 2, none⟩) (.inl hg) _).setCell (p := ⟨g, 0, none⟩) (.inl hg) _).setCell (p := ⟨g, 1, none⟩) (.inl hg) _
      · refine ⟨_, ((hB4.out.set_ 2 _).set_ 0 _).set_ 1 _, HR4.out.kept hks (fun k e h => HR4.out.ne_blk hB4.out (by decide) (h ▸ e)), .inl hg, fun k e => by simp [Value.ownBlock] at e⟩

  · have hcm2 : c ≤ 9223372036854775807 := by unfold maxLen at hcm; omega
    have j2 : (j : Int) ≤ (c : Int) := by omega
    have n2 : (s.l.length : Int) ≤ (c : Int) := by omega
    have he := Go.Proofs.enters_of Try.func29 (by kernel_rfl) rfl
    have hgl0 : gb < w.heap.size := (Array.getElem?_eq_some_iff.1 hgb).1
    clear hb h1 hgb hcm hcl
    by_cases hcj : c = j
    · have hgl : gb < w2.heap.size := Nat.lt_of_lt_of_le hgl0 hk0.out.size
      have hnews := Lib.hid (show ∀ t u, ((s.l.drop j).flatMap Ent.cells)[t]? = some u → w2.cell? ⟨gb, j * 2 + t, none⟩ = some u from fun t u hu => by
        have := hR0.out.news (j * 2 + t) u (flat_cut s.l j s.l.length t u (by rw [List.take_of_length_le (by rw [List.length_drop]; omega)]; exact hu))
        rw [addr0] at this
        exact this)
      have HLD := Lib.hid (show (s.l.drop j).length = s.l.length - j from List.length_drop ..)
      have hls := Lib.hid hl
      have HE := Lib.hid (show s.l.drop j = [] from List.drop_eq_nil_of_le (by omega))
      go_wp2_with (fail)
      go_region_law (first
        | (refine step_call he #[.tmp 27] _ #[.slice (some ⟨gb, 0, none⟩) (s.l.length - j) 0] (by rfl) (by rfl) (by simp only [List.map_toArray, List.map_cons, List.map_nil]; rfl) ?_; rw [← HLD.out]; (with_reducible refine (clone_some ⟨gb, 0, none⟩ 0 (s.l.drop j) _ (by simpa using hgl) (fun t u hu => by rw [HE.out] at hu; simp at hu) (by have := HLD.out; have := hls.out; omega)).mono ?_); rintro e w4 ⟨v4, rfl, hR4, hb4, hf4⟩; obtain ⟨A4, m4, c4, rfl⟩ := hR4.some_slice; refine ⟨_, rfl, ?_⟩; have HR4 := Lib.hid hR4; have HF4 := Lib.hid hf4; have hB4 : Hid (Blk w4 g 62 #[.int .i64 s.base, .int .i64 s.term, .slice (some ⟨gb, 0, none⟩) s.l.length c]) := Lib.hid (Blk.kept (by exact hB0.out) (Kept.of_below hb4 fun _ => False) (fun h => h)); have hK4 : Hid (Kept w w4 (fun _ => False)) := Lib.hid (Kept.trans (by first | exact hk0.out.drew | exact hk0.out.drew.drew | exact hk0.out) (Kept.of_below hb4 fun _ => False)); have d2 := hB4.out.cell 2; have d2f := hB4.out.frozen 2; have d2l := hB4.out.lt; clear hR4 hb4 hf4)
        | fail)
      all_goals
        have d0 := hB4.out.cell 0
        have d1 := hB4.out.cell 1
        have d0f := hB4.out.frozen 0
        have d1f := hB4.out.frozen 1
        go_wp2
        go_ret
        have hks := ((((Kept.refl w4 (fun k => k = g)).setCell (p := ⟨g, 2, none⟩) (.inl rfl) (.slice A4 m4 c4)).setCell (p := ⟨g, 0, none⟩) (.inl rfl) (.int .i64 i)).setCell (p := ⟨g, 1, none⟩) (.inl rfl) (.int .i64 t0))
        refine ⟨rfl, ?_, ?_⟩
        · exact (((hK4.out.mono (S' := F) (fun k _ h => h.elim)).setCell (p := ⟨g, 2, none⟩) (.inl hg) _).setCell (p := ⟨g, 0, none⟩) (.inl hg) _).setCell (p := ⟨g, 1, none⟩) (.inl hg) _
        · refine ⟨_, ((hB4.out.set_ 2 _).set_ 0 _).set_ 1 _, HR4.out.kept hks (fun k e h => HR4.out.ne_blk hB4.out (by decide) (h ▸ e)), .inl hg, fun k e => .inr ⟨?_, by simpa using HR4.out.lt e⟩⟩
          have h1 := HF4.out k e
          have h2 := hk0.out.size
          simp at h1
          omega
    · have hgl : gb < w2.heap.size := Nat.lt_of_lt_of_le hgl0 hk0.out.size
      have hnews := Lib.hid (show ∀ t u, ((s.l.drop j).flatMap Ent.cells)[t]? = some u → w2.cell? ⟨gb, j * 2 + t, none⟩ = some u from fun t u hu => by
        have := hR0.out.news (j * 2 + t) u (flat_cut s.l j s.l.length t u (by rw [List.take_of_length_le (by rw [List.length_drop]; omega)]; exact hu))
        rw [addr0] at this
        exact this)
      have HLD := Lib.hid (show (s.l.drop j).length = s.l.length - j from List.length_drop ..)
      have hls := Lib.hid hl
      go_wp2_with (fail)
      go_region_law (first
        | (refine step_call he #[.tmp 27] _ #[.slice (some ⟨gb, j * 2, none⟩) (s.l.length - j) (c - j)] (by rfl) (by rfl) (by simp only [List.map_toArray, List.map_cons, List.map_nil]; rfl) ?_; rw [← HLD.out]; (with_reducible refine (clone_some ⟨gb, j * 2, none⟩ (c - j) (s.l.drop j) _ (by simpa using hgl) (fun t u hu => by have := hnews.out t u hu; unfold Addr.add; split <;> simp_all) (by have := HLD.out; have := hls.out; omega)).mono ?_); rintro e w4 ⟨v4, rfl, hR4, hb4, hf4⟩; obtain ⟨A4, m4, c4, rfl⟩ := hR4.some_slice; refine ⟨_, rfl, ?_⟩; have HR4 := Lib.hid hR4; have HF4 := Lib.hid hf4; have hB4 : Hid (Blk w4 g 62 #[.int .i64 s.base, .int .i64 s.term, .slice (some ⟨gb, 0, none⟩) s.l.length c]) := Lib.hid (Blk.kept (by exact hB0.out) (Kept.of_below hb4 fun _ => False) (fun h => h)); have hK4 : Hid (Kept w w4 (fun _ => False)) := Lib.hid (Kept.trans (by first | exact hk0.out.drew | exact hk0.out.drew.drew | exact hk0.out) (Kept.of_below hb4 fun _ => False)); have d2 := hB4.out.cell 2; have d2f := hB4.out.frozen 2; have d2l := hB4.out.lt; clear hR4 hb4 hf4)
        | fail)
      all_goals
        have d0 := hB4.out.cell 0
        have d1 := hB4.out.cell 1
        have d0f := hB4.out.frozen 0
        have d1f := hB4.out.frozen 1
        go_wp2
        go_ret
        have hks := ((((Kept.refl w4 (fun k => k = g)).setCell (p := ⟨g, 2, none⟩) (.inl rfl) (.slice A4 m4 c4)).setCell (p := ⟨g, 0, none⟩) (.inl rfl) (.int .i64 i)).setCell (p := ⟨g, 1, none⟩) (.inl rfl) (.int .i64 t0))
        refine ⟨rfl, ?_, ?_⟩
        · exact (((hK4.out.mono (S' := F) (fun k _ h => h.elim)).setCell (p := ⟨g, 2, none⟩) (.inl hg) _).setCell (p := ⟨g, 0, none⟩) (.inl hg) _).setCell (p := ⟨g, 1, none⟩) (.inl hg) _
        · refine ⟨_, ((hB4.out.set_ 2 _).set_ 0 _).set_ 1 _, HR4.out.kept hks (fun k e h => HR4.out.ne_blk hB4.out (by decide) (h ▸ e)), .inl hg, fun k e => .inr ⟨?_, by simpa using HR4.out.lt e⟩⟩
          have h1 := HF4.out k e
          have h2 := hk0.out.size
          simp at h1
          omega
end Go.Proofs.Ytpimpdgibcjbeaa
