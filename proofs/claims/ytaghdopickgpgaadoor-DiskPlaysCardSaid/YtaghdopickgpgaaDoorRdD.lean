import Derived.Test.YtaghdopickgpgaaDoorRdC
namespace Go.Proofs.YtaghdopickgpgaaDoor
open Go Go.RowKit
set_option linter.unusedVariables false
set_option linter.unusedSimpArgs false

theorem info_file : (Tryd.prog.info? 79).map (fun i => (i.zero, i.size, i.bytes)) = some (some (.agg #[.string ⟨#[]⟩, .string ⟨#[]⟩, .int .i64 0]), 3, 40) := by kernel_rfl
theorem one_file : ∀ (x : ByteArray × DF), ∀ u ∈ FE x, u.oneCell' = true := by
  intro x u hu
  simp [FE] at hu
  rcases hu with rfl | rfl | rfl <;> rfl
/-- What holds all through a step that lays the list anew. -/
structure PF (w W : World) (g : Nat) (s : DkS) (lf : Int) (vl : Value) : Prop where
  b : Blk W g 77 #[.int .i64 s.room, vl, .bool s.fused, .int .i64 lf, .bool s.down]
  r : Row W 79 3 FE vl s.fs
  k : Below w.heap.size w W
  g : g < w.heap.size
  v : ∀ k, vl.ownBlock = some k → k < w.heap.size
section
variable {w W W' : World} {g : Nat} {s : DkS} {lf : Int} {vl : Value}
theorem PF.below (h : PF w W g s lf vl) (hb : Below W.heap.size W W') : PF w W' g s lf vl := ⟨h.b.kept (Kept.of_below hb fun _ => False) (fun h => h), h.r.kept (Kept.of_below hb fun _ => False) (fun _ _ h => h), h.k.trans (hb.mono h.k.size), h.g, h.v⟩
theorem PF.alloc (h : PF w W g s lf vl) (o : Obj) : PF w (W.alloc o) g s lf vl := ⟨h.b.alloc o, h.r.alloc o, h.k.alloc h.k.size o, h.g, h.v⟩
theorem PF.drew (h : PF w W g s lf vl) : PF w W.drew g s lf vl := ⟨h.b, h.r, h.k.drew, h.g, h.v⟩
theorem PF.grownV {row : Option Nat} (h : PF w W g s lf vl) (hg : W.grownBy W' row) (hr : ∀ k, row = some k → w.heap.size ≤ k) : PF w W' g s lf vl :=
  ⟨h.b.grown hg (fun e => by have := hr _ e.symm; have := h.g; omega), h.r.grown hg (fun k e e2 => by have := hr _ e2.symm; have := h.v k e; omega), h.k.grown hg h.k.size (fun k e => hr k e), h.g, h.v⟩
end
/-- The list laid anew, behind the store. -/
theorem PF.reset {w W : World} {G : Nat → Prop} {g : Nat} {s s' : DkS} {lf : Int} {vl v9 : Value} (h : PF w W g s lf vl) (hG : ∀ k, w.heap.size ≤ k → G k) (hg : G g) (hl : s.fused = true → lf = s.left) (h1 : s'.room = s.room) (h2 : s'.fused = s.fused) (h3 : s'.down = s.down) (h4 : s'.left = s.left) (hr : Row W 79 3 FE v9 s'.fs) (hv : ∀ k, v9.ownBlock = some k → w.heap.size ≤ k) : RkPost w G g s' (W.setCell ⟨g, 1, none⟩ v9) := by
  have hk : Kept W (W.setCell ⟨g, 1, none⟩ v9) (fun k => k = g) := (Kept.refl W fun k => k = g).setCell (p := ⟨g, 1, none⟩) (.inl rfl) _
  refine ⟨(Kept.of_below h.k fun k => k = g).setCell (p := ⟨g, 1, none⟩) (.inl rfl) _, v9, lf, ?_, hr.kept hk (fun k e hh => by have := hv k e; have := h.g; omega), by rw [h2, h4]; exact hl, hg, fun k e => hG k (hv k e)⟩
  rw [h1, h2, h3]
  exact h.b.set_ 1 v9
theorem putF_pos {fs : Files} (h : fs.Pairwise fun p q => ltB p.1 q.1 = true) (k : ByteArray) (f : DF) : (([] ++ fs.take (posF fs k)) ++ [(k, f)]) ++ fs.drop (posF fs k + if hasF fs k = true then 1 else 0) = putF fs k f := by
  obtain ⟨h1, h2, _⟩ := pos_all h k
  unfold putF
  rw [h1, h2, List.nil_append, List.append_assoc]
  rfl
set_option maxRecDepth 100000 in
set_option maxHeartbeats 8000000 in
theorem refd_put (G : Nat → Prop) (g : Nat) (s : DkS) (k : ByteArray) (f : DF) (w : World) (h : RkAt w G g s) (hs : s.Ok) (hG : ∀ k, w.heap.size ≤ k → G k) :
    Calls Tryd.prog 55 #[.pointer (some ⟨g, 0, none⟩), .agg #[.string k, .string f.has, .int .i64 f.safe]] w fun e w' => e = .returned (.tuple #[]) ∧ RkPost w G g (s.set k f) w' := by
  have hb0 := (Below.refl w.heap.size w).alloc (Nat.le_refl _) (.cells #[.string k, .string f.has, .int .i64 f.safe] 79)
  have HX0 := Lib.hid (Blk.new w 79 #[.string k, .string f.has, .int .i64 f.safe])
  have hpl := refd_place G g s k _ (h.below hb0) hs.n
  have hn64 := hs.n
  have hpos := posF_le s.fs k
  have HPUT := Lib.hid (putF_pos hs.sorted k f)
  have hat := @hasF_at s.fs hs.sorted k
  obtain ⟨vl, lf, hb, h1, hlf, hg, f1⟩ := h
  obtain ⟨A, c, rfl⟩ := h1.shape
  have P0 := Lib.hid (show PF w w g s lf (.slice A s.fs.length c) from ⟨hb, h1, Below.refl _ _, hb.lt, fun k e => h1.lt e⟩)
  have P1 := Lib.hid (P0.out.alloc (.cells #[.string k, .string f.has, .int .i64 f.safe] 79))
  have hcap := h1.cap
  have hc1 : s.fs.length ≤ c := hcap.2.1
  have hc2 : c ≤ 9223372036854775807 := hcap.2.2
  have hgl := hb.lt
  have HHG := Lib.hid hG
  have HLF := Lib.hid hlf
  have HG0 := Lib.hid hg
  have hnone : A = none → c = 0 := fun e => by
    rcases h1.2 with ⟨hv, h0⟩ | ⟨g', cap, cur, hv, _⟩
    · injection hv
    · rw [e] at hv; simp at hv
  have hsz0 : (w.alloc (.cells #[.string k, .string f.has, .int .i64 f.safe] 79)).heap.size = w.heap.size + 1 := by simp
  have hpo2 : posF s.fs k + (if hasF s.fs k = true then 1 else 0) ≤ s.fs.length := by
    split
    · rename_i hh; obtain ⟨hi, _⟩ := hat hh; omega
    · omega
  generalize posF s.fs k = po at *
  obtain ⟨pj, hpj⟩ : ∃ pj, po + (if hasF s.fs k = true then 1 else 0) = pj := ⟨_, rfl⟩
  rw [hpj] at HPUT hpo2
  have hpj2 : (if hasF s.fs k = true then (po : Int) + 1 else po) = (pj : Int) := by rw [← hpj]; split <;> simp
  have HNONE := Lib.hid hnone
  clear hb h1 hs hlf hg f1 hG hat hcap hb0 hpj hnone
  generalize hasF s.fs k = there at *
  cases there with
  | false =>
    obtain rfl : po = pj := by simp at hpj2; omega
    clear hpj2
    go_enter Tryd.func55, Tryd.ntmps55
    have x0 := HX0.out.cell 0
    go_wp2_with (fail)
    generalize (w.alloc (.cells #[.string k, .string f.has, .int .i64 f.safe] 79)) = wa at *
    refine hpl.mono ?_
    rintro e w2 ⟨rfl, hb2⟩
    have P2 := Lib.hid (P1.out.below hb2)
    have HX2 := Lib.hid (HX0.out.kept (Kept.of_below hb2 fun _ => False) (fun h => h))
    have hs2 := hb2.size
    clear hpl hb2 P1 HX0 x0
    have c1 := P2.out.b.cell 1
    have hlt2 : (s.fs.take po).length = po := by rw [List.length_take]; omega
    have hlj : (s.fs.drop po).length = s.fs.length - po := List.length_drop ..
    have SUF := Lib.hid (fun W (h : PF w W g s lf (.slice A s.fs.length c)) => h.r.suffix po hpo2 (fun _ => rfl))
    obtain ⟨AJ, hAJ⟩ : ∃ AJ, cutA A c po 3 = AJ := ⟨_, rfl⟩
    rw [hAJ] at SUF
    have hAJ2 : (if c = po then A else A.map fun x => x.add (po * 3)) = AJ := hAJ
    have hAJn : AJ = none → c - po = 0 := fun e => by
      rw [← hAJ] at e
      unfold cutA at e
      split at e
      · omega
      · have : A = none := by simpa using e
        have := HNONE.out this
        omega
    have HAJN := Lib.hid hAJn
    clear hAJ hAJn
    have z0 : (0 : Int) ≤ (po : Int) := by omega
    have z1 : (po : Int) ≤ (s.fs.length : Int) := by omega
    have z2 : (po : Int) ≤ (c : Int) := by omega
    have hwpo : IntKind.i64.wrap ((po : Int) + 1) = (po : Int) + 1 := by rw [IntKind.wrap_i64]; omega
    go_wp2_with (first
      | (refine Row.appendRow_list (by rfl) (.tmp 14) (.tmp 20) 75 79 (.agg #[.string ⟨#[]⟩, .string ⟨#[]⟩, .int .i64 0]) 3 40 (by rfl) Tryd.underlying75 info_file rfl (by decide) (by decide) (.slice none 0 0) (.slice A po c) [] (s.fs.take po) (by rfl) (by rfl) (Row.nil_ ..) (P2.out.r.prefix_ po hpos (fun _ => rfl)) (fun _ => rfl) one_file (by rw [hlt2]; simp; omega) ?_
         intro v3 w3 hR hGr hO
         have P3 := Lib.hid (P2.out.grownV hGr (fun k e => by simp [Value.ownBlock] at e))
         have HX3 := Lib.hid (HX2.out.grown hGr (by simp [Value.ownBlock]))
         have R3 := Lib.hid hR
         have V3 := Lib.hid (own_ge2 (n := w.heap.size) hO (fun k e => by simp [Value.ownBlock] at e) (by omega))
         have hs3 := hGr.size
         obtain ⟨A3, n3, c3, rfl⟩ := hR.some_slice
         have y0 := HX3.out.cell 0
         have y1 := HX3.out.cell 1
         have y2 := HX3.out.cell 2
         clear hR hGr hO P2 HX2 c1
         have R3' := Lib.hid (R3.out.alloc (.cells #[.string k, .string f.has, .int .i64 f.safe] 79)))
      | (refine Row.append_list (by rfl) (.tmp 22) (.tmp 24) 75 79 (.agg #[.string ⟨#[]⟩, .string ⟨#[]⟩, .int .i64 0]) 3 40 (by rfl) Tryd.underlying75 info_file rfl (by decide) (by decide) (.slice A3 n3 c3) ([] ++ s.fs.take po) [(k, f)] (by rfl) ⟨w3.heap.size, 0, none⟩ 1 1 (by rfl) R3'.out rfl (fun _ => rfl) (news_lit FE w3 _ (k, f) _ rfl) one_file (by rw [List.nil_append, hlt2]; omega) ?_
         intro v4 w4 hR hGr hO
         have P4 := Lib.hid ((P3.out.alloc (.cells #[.string k, .string f.has, .int .i64 f.safe] 79)).grownV hGr V3.out)
         have R4 := Lib.hid hR
         have V4 := Lib.hid (own_ge2 hO V3.out (by rw [World.size_alloc]; omega))
         have hs4 := hGr.size
         rw [World.size_alloc] at hs4
         obtain ⟨A4, n4, c4, rfl⟩ := hR.some_slice
         have c1 := P4.out.b.cell 1
         clear hR hGr hO P3 HX3 R3 R3' V3 y0 y1 y2)
      | (refine SegG.append_list (by rfl) (.tmp 30) (.tmp 36) 75 79 (.agg #[.string ⟨#[]⟩, .string ⟨#[]⟩, .int .i64 0]) 3 40 (by rfl) Tryd.underlying75 info_file rfl (by decide) (by decide) (.slice A4 n4 c4) AJ (s.fs.length - po) (c - po) (([] ++ s.fs.take po) ++ [(k, f)]) (s.fs.drop po) (by rfl) (by rfl) R4.out (SUF.out _ P4.out) hlj HAJN.out (fun _ => rfl) one_file (by simp only [List.nil_append, List.length_append, hlt2, List.length_cons, List.length_nil]; omega) ?_
         intro v5 w5 hR hGr hO
         obtain ⟨A5, n5, c5, rfl⟩ := hR.some_slice
         have P5 := Lib.hid (P4.out.grownV hGr V4.out)
         have R5 := Lib.hid hR
         have V5 := Lib.hid (own_ge2 hO V4.out (by omega))
         have c1 := P5.out.b.cell 1
         have cf := P5.out.b.frozen 1
         have hg5 := P5.out.b.lt
         clear hR hGr hO P4 R4 V4)
      | fail)
    go_end0
    rw [HPUT.out] at R5
    exact ⟨rfl, P5.out.reset HHG.out HG0.out HLF.out rfl rfl rfl rfl R5.out V5.out⟩
  | true =>
    obtain rfl : pj = po + 1 := by simp at hpj2; omega
    clear hpj2
    go_enter Tryd.func55, Tryd.ntmps55
    have x0 := HX0.out.cell 0
    go_wp2_with (fail)
    generalize (w.alloc (.cells #[.string k, .string f.has, .int .i64 f.safe] 79)) = wa at *
    refine hpl.mono ?_
    rintro e w2 ⟨rfl, hb2⟩
    have P2 := Lib.hid (P1.out.below hb2)
    have HX2 := Lib.hid (HX0.out.kept (Kept.of_below hb2 fun _ => False) (fun h => h))
    have hs2 := hb2.size
    clear hpl hb2 P1 HX0 x0
    have c1 := P2.out.b.cell 1
    have q0 : (0 : Int) ≤ (po : Int) := by omega
    have q1 : (po : Int) ≤ (s.fs.length : Int) := by omega
    have q2 : (po : Int) ≤ (c : Int) := by omega
    have hlt2 : (s.fs.take po).length = po := by rw [List.length_take]; omega
    have hlj : (s.fs.drop (po + 1)).length = s.fs.length - (po + 1) := List.length_drop ..
    have SUF := Lib.hid (fun W (h : PF w W g s lf (.slice A s.fs.length c)) => h.r.suffix (po + 1) hpo2 (fun _ => rfl))
    obtain ⟨AJ, hAJ⟩ : ∃ AJ, cutA A c (po + 1) 3 = AJ := ⟨_, rfl⟩
    rw [hAJ] at SUF
    have hAJ2 : (if c = (po + 1) then A else A.map fun x => x.add ((po + 1) * 3)) = AJ := hAJ
    have hAJn : AJ = none → c - (po + 1) = 0 := fun e => by
      rw [← hAJ] at e
      unfold cutA at e
      split at e
      · omega
      · have : A = none := by simpa using e
        have := HNONE.out this
        omega
    have HAJN := Lib.hid hAJn
    clear hAJ hAJn
    have z0 : (0 : Int) ≤ ((po : Int) + 1) := by omega
    have z1 : ((po : Int) + 1) ≤ (s.fs.length : Int) := by omega
    have z2 : ((po : Int) + 1) ≤ (c : Int) := by omega
    have hwpo : IntKind.i64.wrap ((po : Int) + 1) = (po : Int) + 1 := by rw [IntKind.wrap_i64]; omega
    go_wp2_with (first
      | (refine Row.appendRow_list (by rfl) (.tmp 14) (.tmp 20) 75 79 (.agg #[.string ⟨#[]⟩, .string ⟨#[]⟩, .int .i64 0]) 3 40 (by rfl) Tryd.underlying75 info_file rfl (by decide) (by decide) (.slice none 0 0) (.slice A po c) [] (s.fs.take po) (by rfl) (by rfl) (Row.nil_ ..) (P2.out.r.prefix_ po hpos (fun _ => rfl)) (fun _ => rfl) one_file (by rw [hlt2]; simp; omega) ?_
         intro v3 w3 hR hGr hO
         have P3 := Lib.hid (P2.out.grownV hGr (fun k e => by simp [Value.ownBlock] at e))
         have HX3 := Lib.hid (HX2.out.grown hGr (by simp [Value.ownBlock]))
         have R3 := Lib.hid hR
         have V3 := Lib.hid (own_ge2 (n := w.heap.size) hO (fun k e => by simp [Value.ownBlock] at e) (by omega))
         have hs3 := hGr.size
         obtain ⟨A3, n3, c3, rfl⟩ := hR.some_slice
         have y0 := HX3.out.cell 0
         have y1 := HX3.out.cell 1
         have y2 := HX3.out.cell 2
         clear hR hGr hO P2 HX2 c1
         have R3' := Lib.hid (R3.out.alloc (.cells #[.string k, .string f.has, .int .i64 f.safe] 79)))
      | (refine Row.append_list (by rfl) (.tmp 22) (.tmp 24) 75 79 (.agg #[.string ⟨#[]⟩, .string ⟨#[]⟩, .int .i64 0]) 3 40 (by rfl) Tryd.underlying75 info_file rfl (by decide) (by decide) (.slice A3 n3 c3) ([] ++ s.fs.take po) [(k, f)] (by rfl) ⟨w3.heap.size, 0, none⟩ 1 1 (by rfl) R3'.out rfl (fun _ => rfl) (news_lit FE w3 _ (k, f) _ rfl) one_file (by rw [List.nil_append, hlt2]; omega) ?_
         intro v4 w4 hR hGr hO
         have P4 := Lib.hid ((P3.out.alloc (.cells #[.string k, .string f.has, .int .i64 f.safe] 79)).grownV hGr V3.out)
         have R4 := Lib.hid hR
         have V4 := Lib.hid (own_ge2 hO V3.out (by rw [World.size_alloc]; omega))
         have hs4 := hGr.size
         rw [World.size_alloc] at hs4
         obtain ⟨A4, n4, c4, rfl⟩ := hR.some_slice
         have c1 := P4.out.b.cell 1
         clear hR hGr hO P3 HX3 R3 R3' V3 y0 y1 y2)
      | (refine SegG.append_list (by rfl) (.tmp 30) (.tmp 36) 75 79 (.agg #[.string ⟨#[]⟩, .string ⟨#[]⟩, .int .i64 0]) 3 40 (by rfl) Tryd.underlying75 info_file rfl (by decide) (by decide) (.slice A4 n4 c4) AJ (s.fs.length - (po + 1)) (c - (po + 1)) (([] ++ s.fs.take po) ++ [(k, f)]) (s.fs.drop (po + 1)) (by rfl) (by rfl) R4.out (SUF.out _ P4.out) hlj HAJN.out (fun _ => rfl) one_file (by simp only [List.nil_append, List.length_append, hlt2, List.length_cons, List.length_nil]; omega) ?_
         intro v5 w5 hR hGr hO
         obtain ⟨A5, n5, c5, rfl⟩ := hR.some_slice
         have P5 := Lib.hid (P4.out.grownV hGr V4.out)
         have R5 := Lib.hid hR
         have V5 := Lib.hid (own_ge2 hO V4.out (by omega))
         have c1 := P5.out.b.cell 1
         have cf := P5.out.b.frozen 1
         have hg5 := P5.out.b.lt
         clear hR hGr hO P4 R4 V4)
      | fail)
    go_end0
    rw [HPUT.out] at R5
    exact ⟨rfl, P5.out.reset HHG.out HG0.out HLF.out rfl rfl rfl rfl R5.out V5.out⟩
end Go.Proofs.YtaghdopickgpgaaDoor
