import Derived.Test.YtaghdopickgpgaaDoorDkO
namespace Go.Proofs.YtaghdopickgpgaaDoor
open Go Go.RowKit
set_option linter.unusedVariables false
set_option linter.unusedSimpArgs false

/-! The chapter's example. -/
def sA : ByteArray := ⟨#[97]⟩
theorem ex1 : DkS.append ⟨9, 0, [], false, false, 0⟩ ⟨#[97]⟩ ⟨#[120]⟩ = (⟨9, 1, [(⟨#[97]⟩, ⟨⟨#[120]⟩, 0⟩)], false, false, 0⟩, 0) := by kernel_rfl
theorem ex2 : DkS.sync ⟨9, 1, [(⟨#[97]⟩, ⟨⟨#[120]⟩, 0⟩)], false, false, 0⟩ = (⟨9, 1, [(⟨#[97]⟩, ⟨⟨#[120]⟩, 1⟩)], false, false, 0⟩, 0) := by kernel_rfl
theorem ex3 : DkS.append ⟨9, 1, [(⟨#[97]⟩, ⟨⟨#[120]⟩, 1⟩)], false, false, 0⟩ ⟨#[97]⟩ ⟨#[121, 122]⟩ = (⟨9, 3, [(⟨#[97]⟩, ⟨⟨#[120, 121, 122]⟩, 1⟩)], false, false, 0⟩, 0) := by kernel_rfl
theorem ex4 : DkS.append ⟨9, 3, [(⟨#[97]⟩, ⟨⟨#[120, 121, 122]⟩, 1⟩)], false, false, 0⟩ ⟨#[98]⟩ ⟨#[113]⟩ = (⟨9, 4, [(⟨#[97]⟩, ⟨⟨#[120, 121, 122]⟩, 1⟩), (⟨#[98]⟩, ⟨⟨#[113]⟩, 0⟩)], false, false, 0⟩, 0) := by kernel_rfl
theorem ex5 : DkS.crashed ⟨9, 4, [(⟨#[97]⟩, ⟨⟨#[120, 121, 122]⟩, 1⟩), (⟨#[98]⟩, ⟨⟨#[113]⟩, 0⟩)], false, false, 0⟩ [1, 0] = ⟨9, 2, [(⟨#[97]⟩, ⟨⟨#[120, 121]⟩, 2⟩), (⟨#[98]⟩, ⟨⟨#[]⟩, 0⟩)], false, false, 0⟩ := by kernel_rfl
theorem ex6 : DkS.append ⟨9, 2, [(⟨#[97]⟩, ⟨⟨#[120, 121]⟩, 2⟩), (⟨#[98]⟩, ⟨⟨#[]⟩, 0⟩)], false, false, 0⟩ ⟨#[97]⟩ ⟨#[49, 50, 51, 52, 53, 54, 55, 56]⟩ = (⟨9, 2, [(⟨#[97]⟩, ⟨⟨#[120, 121]⟩, 2⟩), (⟨#[98]⟩, ⟨⟨#[]⟩, 0⟩)], false, false, 0⟩, 22) := by kernel_rfl
theorem ex7 : (fileAt [(⟨#[97]⟩, ⟨⟨#[120, 121]⟩, 2⟩), (⟨#[98]⟩, ⟨⟨#[]⟩, 0⟩)] ⟨#[97]⟩).has = ⟨#[120, 121]⟩ := by kernel_rfl
theorem ex8 : (fileAt [(⟨#[97]⟩, ⟨⟨#[120, 121]⟩, 2⟩), (⟨#[98]⟩, ⟨⟨#[]⟩, 0⟩)] ⟨#[98]⟩).has = ⟨#[]⟩ := by kernel_rfl
theorem ex9 : knownE [(⟨#[97]⟩, ⟨⟨#[120, 121]⟩, 2⟩), (⟨#[98]⟩, ⟨⟨#[]⟩, 0⟩)] ⟨#[97]⟩ = 0 := by kernel_rfl
theorem ex10 : knownE [(⟨#[97]⟩, ⟨⟨#[120, 121]⟩, 2⟩), (⟨#[98]⟩, ⟨⟨#[]⟩, 0⟩)] ⟨#[98]⟩ = 0 := by kernel_rfl
set_option maxRecDepth 100000 in
set_option maxHeartbeats 4000000 in
theorem works_calls (w : World) : Calls Tryd.prog 11 #[] w fun e w' => e = .returned (.bool true) ∧ Below w.heap.size w w' := by
  have hn := LoneK.new (w0 := w) (w := w) 9 (Below.refl _ _) (by decide) (by decide)
  go_enter Tryd.func11, Tryd.ntmps11
  go_wp2_with (fail)
  refine hn.mono ?_
  rintro e w1 ⟨g, F, rfl, h, _⟩
  have H1 := Lib.hid h
  clear hn h
  have hc := H1.out.append ⟨#[97]⟩ ⟨#[120]⟩ (by decide) (by decide)
  rw [ex1] at hc
  go_wp2_with (fail)
  refine hc.mono ?_
  rintro e w2 ⟨rfl, h, _⟩
  have H2 := Lib.hid h
  clear hc h H1
  have hc := H2.out.sync
  rw [ex2] at hc
  go_wp2_with (fail)
  refine hc.mono ?_
  rintro e w3 ⟨rfl, h, _⟩
  have H3 := Lib.hid h
  clear hc h H2
  have hc := H3.out.append ⟨#[97]⟩ ⟨#[121, 122]⟩ (by decide) (by decide)
  rw [ex3] at hc
  go_wp2_with (fail)
  refine hc.mono ?_
  rintro e w4 ⟨rfl, h, _⟩
  have H4 := Lib.hid h
  clear hc h H3
  have hc := H4.out.append ⟨#[98]⟩ ⟨#[113]⟩ (by decide) (by decide)
  rw [ex4] at hc
  go_wp2_with (fail)
  refine hc.mono ?_
  rintro e w5 ⟨rfl, h, _⟩
  have H5 := Lib.hid (h.below ((Below.refl _ w5).alloc (Nat.le_refl _) (.cells #[.int .i64 1, .int .i64 0] 3)))
  have hlt := h.at_.foot (k := w5.heap.size)
  have hnF : ¬ F w5.heap.size := fun hF => absurd (hlt hF) (Nat.lt_irrefl _)
  have hD : Draws (w5.alloc (.cells #[.int .i64 1, .int .i64 0] 3)) F (some ⟨w5.heap.size, 0, none⟩) [1, 0] := fun _ => ⟨_, rfl, by simp, hnF, fun i x hi => by
    have hb := Blk.new w5 3 #[.int .i64 1, .int .i64 0]
    rw [addr0, hb.cell]
    match i, hi with
    | 0, hi => cases hi; rfl
    | 1, hi => cases hi; rfl
    | i + 2, hi => simp at hi⟩
  have hc := H5.out.crash _ [1, 0] 2 hD (by decide) (by decide)
  rw [ex5] at hc
  clear h H4 hlt hnF hD
  go_wp2_with (fail)
  refine hc.mono ?_
  rintro e w6 ⟨rfl, h, _⟩
  have H6 := Lib.hid h
  clear hc h H5
  have hc := H6.out.read ⟨#[97]⟩ (by decide)
  rw [ex7, ex9] at hc
  go_wp2_with (fail)
  refine hc.mono ?_
  rintro e w7 ⟨rfl, h, _⟩
  have H7 := Lib.hid h
  clear hc h H6
  have hc := H7.out.read ⟨#[98]⟩ (by decide)
  rw [ex8, ex10] at hc
  go_wp2_with (fail)
  refine hc.mono ?_
  rintro e w8 ⟨rfl, h, _⟩
  have H8 := Lib.hid h
  clear hc h H7
  have hc := H8.out.append ⟨#[97]⟩ ⟨#[49, 50, 51, 52, 53, 54, 55, 56]⟩ (by decide) (by decide)
  rw [ex6] at hc
  go_wp2_with (fail)
  refine hc.mono ?_
  rintro e w9 ⟨rfl, h, _⟩
  have H9 := Lib.hid h
  clear hc h H8
  have hc := H9.out.used
  go_wp2_with (fail)
  refine hc.mono ?_
  rintro e w10 ⟨rfl, rfl⟩
  go_wp2
  go_ret
  exact ⟨rfl, H9.out.back⟩

/-! Each file's name and bytes. -/
def allOf (fs : Files) : List ByteArray := fs.flatMap fun p => [p.1, p.2.has]
theorem allOf_cons (p : ByteArray × DF) (fs : Files) : allOf (p :: fs) = [p.1, p.2.has] ++ allOf fs := by unfold allOf; rw [List.flatMap_cons]
theorem allOf_take (fs : Files) (k : Nat) (h : k < fs.length) : allOf (fs.take (k + 1)) = allOf (fs.take k) ++ [fs[k].1, fs[k].2.has] := by
  unfold allOf
  rw [List.take_succ_eq_append_getElem h, List.flatMap_append]
  rfl
theorem allOf_len (fs : Files) : (allOf fs).length = 2 * fs.length := by
  induction fs with
  | nil => rfl
  | cons p fs ih => rw [allOf_cons, List.length_append, ih]; simp; omega
theorem file_at {fs : Files} (h : fs.Pairwise fun p q => p.1 ≠ q.1) (k : Nat) (hk : k < fs.length) : look fs fs[k].1 = some fs[k].2 := by
  induction fs generalizing k with
  | nil => simp at hk
  | cons p fs ih =>
    obtain ⟨h1, h2⟩ := List.pairwise_cons.1 h
    rw [look_cons]
    cases k with
    | zero => simp
    | succ k =>
      have hk' : k < fs.length := by simpa using hk
      rw [if_neg (by simpa using h1 _ (List.getElem_mem hk'))]
      simpa using ih h2 k hk'
theorem info_str : (Tryd.prog.info? 9).map (fun i => (i.zero, i.size, i.bytes)) = some (some (.string ⟨#[]⟩), 1, 16) := by kernel_rfl
theorem one_str : ∀ (x : ByteArray), ∀ u ∈ scells x, u.oneCell' = true := by intro x u hu; simp [scells] at hu; subst hu; rfl
set_option maxRecDepth 100000 in
set_option maxHeartbeats 4000000 in
theorem all_calls (w0 w : World) (F : Nat → Prop) (g : Nat) (s : DkS) (H : LoneK w0 w F g s) : Calls Tryd.prog 24 #[.pointer (some ⟨g, 0, none⟩)] w fun e w' => ∃ v, e = .returned v ∧ Row w' 9 1 scells v (allOf s.fs) ∧ LoneK w0 w' F g s ∧ Below w.heap.size w w' ∧ ∀ k, v.ownBlock = some k → w.heap.size ≤ k := by
  have hnames := H.names
  have hs := H.ok
  have hn64 := hs.n
  have hnl : (namesOf s.fs).length = s.fs.length := List.length_map ..
  have HS := Lib.hid hs
  go_enter Tryd.func24, Tryd.ntmps24
  go_wp2_with (fail)
  refine hnames.mono ?_
  rintro e w2 ⟨v, rfl, hrow, h2, hb2, hfresh⟩
  obtain ⟨An, cn, rfl⟩ := hrow.shape
  rw [hnl]
  have HROW := Lib.hid hrow
  have HFR := Lib.hid hfresh
  have H2 := Lib.hid h2
  have HB2 := Lib.hid hb2
  clear hnames hrow hfresh h2 hs hb2
  go_wp2_with (fail)
  go_loopg [3, 5, 6, 7, 11] s.fs.length (fun gg s3 _ _ _ s11 wr => ∃ (k : Nat), k ≤ s.fs.length ∧ s.fs.length - k ≤ gg ∧ s11 = .int .i64 k ∧ Hid (LoneK w0 wr F g s) ∧ Hid (Below w2.heap.size w2 wr) ∧ Hid (Row wr 9 1 scells s3 (allOf (s.fs.take k))) ∧ Hid (∀ k, s3.ownBlock = some k → w2.heap.size ≤ k))
  case atStart => exact ⟨0, Nat.zero_le _, by omega, by go_num, H2, Lib.hid (Below.refl _ _), Lib.hid (Row.nil_ ..), Lib.hid (fun k e => by simp [Value.ownBlock] at e)⟩
  case round =>
    obtain ⟨k, hk, hgg, rfl, HL, HB, HR, HO⟩ := hrel
    by_cases hlt' : k < s.fs.length
    · obtain ⟨gb, cn', hv, hgl, hcl⟩ := HROW.out.form (by rw [hnl]; omega)
      injection hv with hA _ hc
      subst hA hc
      have r := HROW.out.kept (Kept.of_below HB.out fun _ => False) (fun _ _ h => h)
      have c0 := r.cell (fun _ => rfl) k 0 (by rw [hnl]; exact hlt') (by omega)
      obtain ⟨kn, fo, hp⟩ : ∃ kn fo, s.fs[k] = (kn, fo) := ⟨_, _, rfl⟩
      have c0' : wr.cell? ⟨gb, k, none⟩ = some (.string kn) := by
        have : (namesOf s.fs)[k]'(by rw [hnl]; exact hlt') = kn := by simp [namesOf, hp]
        rw [this] at c0
        simpa [scells] using c0
      clear c0 r
      have hmem : (kn, fo) ∈ s.fs := hp ▸ List.getElem_mem hlt'
      have hok32 : kn.size ≤ 32 := by
        have := HS.out.names (kn, fo) hmem
        unfold okName at this
        simp at this
        exact this.1.2
      have hread := HL.out.read kn (by simp only [maxLen]; omega)
      have hfi : (fileAt s.fs kn).has = fo.has := by
        have := file_at (sorted_nodup HS.out.sorted) k hlt'
        rw [hp] at this
        unfold fileAt
        rw [this]
        rfl
      rw [hfi] at hread
      have HT := Lib.hid (allOf_take s.fs k hlt')
      rw [hp] at HT
      generalize knownE s.fs kn = er at hread
      have hlz : (k : Int) < (s.fs.length : Int) := by omega
      clear hfi hmem hp
      go_wp2_with (fail)
      refine hread.mono ?_
      rintro e w3 ⟨rfl, h3, hb3⟩
      have H3 := Lib.hid h3
      have HB3 := Lib.hid (HB.out.trans (hb3.mono HB.out.size))
      have HR3 := Lib.hid (HR.out.kept (Kept.of_below hb3 fun _ => False) (fun _ _ h => h))
      obtain ⟨A3, n3, c3, rfl⟩ := HR.out.some_slice
      clear hread h3 hb3 HB HR HL c0'
      have hw3 : Row (w3.alloc (.cells #[.string kn, .string fo.has] 9)) 9 1 scells (.slice A3 n3 c3) (allOf (s.fs.take k)) := HR3.out.alloc _
      have HW3 := Lib.hid hw3
      clear hw3
      have hlen : (allOf (s.fs.take k)).length = 2 * k := by rw [allOf_len, List.length_take]; omega
      go_wp2_with (first
        | (refine Row.append_list (by rfl) (.tmp 21) (.tmp 24) 22 9 (.string ⟨#[]⟩) 1 16 (by rfl) Tryd.underlying22 info_str rfl (by decide) (by decide) (.slice A3 n3 c3) (allOf (s.fs.take k)) [kn, fo.has] (by rfl) ⟨w3.heap.size, 0, none⟩ 2 2 (by rfl) HW3.out rfl (fun _ => rfl) ?_ one_str (by rw [hlen]; omega) ?_
           · exact fun j u hu => World.news_of_block (heap_alloc_new w3 _) j u (by simpa [scells] using hu)
           intro v4 w4 hR hG hO
           have HR4 := Lib.hid hR
           have HG4 := Lib.hid hG
           have HO4 := Lib.hid hO
           clear hR hG hO)
        | fail)
      have HB4 := Lib.hid (HB3.out.trans ((((Kept.refl w3 fun k => w2.heap.size ≤ k).alloc _).grown HG4.out (fun k e => .inl (HO.out k e))).below HB3.out.size (fun k hk hge => by omega)))
      have hw3s : w2.heap.size ≤ w3.heap.size := HB3.out.size
      obtain ⟨A4, n4, c4, rfl⟩ := HR4.out.some_slice
      go_wp2
      go_roundg (s.fs.length - (k + 1))
      case measure => omega
      case rel => exact ⟨k + 1, hlt', Nat.le_refl _, by go_num, Lib.hid (H2.out.below HB4.out), HB4, Lib.hid (by rw [HT.out]; exact HR4.out), Lib.hid (fun j e => by
          rcases HO4.out with h | h
          · exact HO.out j (h ▸ e)
          · rw [h] at e; injection e with e; rw [← e, World.size_alloc]; omega)⟩
    · go_wp2
      go_ret
      have hk' : k = s.fs.length := by omega
      refine ⟨_, rfl, ?_, HL.out, HB2.out.trans (HB.out.mono HB2.out.size), fun j e => Nat.le_trans HB2.out.size (HO.out j e)⟩
      have := HR.out
      rwa [hk', List.take_length] at this
end Go.Proofs.YtaghdopickgpgaaDoor
