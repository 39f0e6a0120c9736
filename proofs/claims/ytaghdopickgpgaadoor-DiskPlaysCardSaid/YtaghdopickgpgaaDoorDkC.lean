import Derived.Test.YtaghdopickgpgaaDoorDkB
namespace Go.Proofs.YtaghdopickgpgaaDoor
open Go Go.RowKit
set_option linter.unusedVariables false
set_option linter.unusedSimpArgs false

def ltB (a b : ByteArray) : Bool := decide (a.data.toList < b.data.toList)
def putF (fs : Files) (k : ByteArray) (f : DF) : Files := fs.filter (fun p => ltB p.1 k) ++ (k, f) :: fs.filter (fun p => ltB k p.1)
theorem putF_perm (fs : Files) (k : ByteArray) (f : DF) : ((k, f) :: sans fs k).Perm (putF fs k f) := by
  unfold putF
  refine (List.Perm.cons _ ?_).trans List.perm_middle.symm
  unfold sans
  induction fs with
  | nil => exact .nil
  | cons p fs ih =>
    by_cases h0 : p.1 = k
    · have l1 : ltB p.1 k = false := by rw [h0]; exact decide_eq_false (List.lt_irrefl _)
      have l2 : ltB k p.1 = false := by rw [h0]; exact decide_eq_false (List.lt_irrefl _)
      rw [List.filter_cons_of_neg (by simp [h0]), List.filter_cons_of_neg (by simp [l1]), List.filter_cons_of_neg (by simp [l2])]
      exact ih
    · have hne : p.1.data.toList ≠ k.data.toList := fun e => h0 (ByteArray.ext (Array.toList_inj.1 e))
      by_cases h1 : p.1.data.toList < k.data.toList
      · have l1 : ltB p.1 k = true := decide_eq_true h1
        have l2 : ltB k p.1 = false := decide_eq_false (fun h => List.lt_irrefl _ (List.lt_trans h h1))
        rw [List.filter_cons_of_pos (by simpa using h0), List.filter_cons_of_pos (by simpa using l1), List.filter_cons_of_neg (by simp [l2])]
        exact .cons _ ih
      · have h2 : k.data.toList < p.1.data.toList := by
          rcases List.le_iff_lt_or_eq.1 (List.not_lt.1 h1) with h | h
          · exact h
          · exact absurd h.symm hne
        have l1 : ltB p.1 k = false := decide_eq_false h1
        have l2 : ltB k p.1 = true := decide_eq_true h2
        rw [List.filter_cons_of_pos (by simpa using h0), List.filter_cons_of_neg (by simp [l1]), List.filter_cons_of_pos (by simpa using l2)]
        exact (List.Perm.cons _ ih).trans List.perm_middle.symm
def fileAt (fs : Files) (k : ByteArray) : DF := (look fs k).getD ⟨⟨#[]⟩, 0⟩
def sizeAt (fs : Files) (k : ByteArray) : Int := ((fileAt fs k).has.size : Int)
def DkS.set (s : DkS) (k : ByteArray) (f : DF) : DkS := { s with used := s.used + ((f.has.size : Int) - sizeAt s.fs k), fs := putF s.fs k f }
def DkS.drop (s : DkS) (k : ByteArray) : DkS := { s with used := s.used - sizeAt s.fs k, fs := sans s.fs k }
theorem zero_file (w : World) : (zeroValue 64).run Tryd.prog w = .ok (DF.val ⟨⟨#[]⟩, 0⟩) w := Tryd.zeroValue64 w
theorem file_run {w : World} {b : Nat} {fs : Files} (h : SMap w 9 b DF.val fs) (k : ByteArray) (hs : k.size ≤ maxLen) :
    (Instr.lookup 60 (.map (some b)) (.string k) false).run Tryd.prog w = .ok (.agg #[.string (fileAt fs k).has, .int .i64 (fileAt fs k).safe]) w := by
  rw [h.look_run Tryd.underlying9 Tryd.underlying60 zero_file k hs]
  unfold fileAt
  cases look fs k <;> rfl
theorem fileOk_run {w : World} {b : Nat} {fs : Files} (h : SMap w 9 b DF.val fs) (k : ByteArray) (hs : k.size ≤ maxLen) :
    (Instr.lookup 60 (.map (some b)) (.string k) true).run Tryd.prog w = .ok (.tuple #[.agg #[.string (fileAt fs k).has, .int .i64 (fileAt fs k).safe], .bool (look fs k).isSome]) w := by
  rw [h.lookOk_run Tryd.underlying9 Tryd.underlying60 zero_file k hs]
  unfold fileAt
  cases look fs k <;> rfl
theorem field_has (a : ByteArray) (b : Int) (w : World) : (Instr.field 64 (Value.agg #[.string a, .int .i64 b]) 0).run Tryd.prog w = .ok (.string a) w := by kernel_rfl
set_option maxHeartbeats 1000000 in
theorem disk_set (F : Nat → Prop) (g : Nat) (s : DkS) (k : ByteArray) (f : DF) (w : World) (h : DkAt w F g s) (hk : k.size ≤ maxLen) (hu0 : 0 ≤ s.used) (hu1 : s.used ≤ 262144) (hf : f.has.size ≤ 140737488355328) (ho : (fileAt s.fs k).has.size ≤ 140737488355328) (hn : s.fs.length ≤ 64) :
    Calls Tryd.prog 31 #[.pointer (some ⟨g, 0, none⟩), .string k, .agg #[.string f.has, .int .i64 f.safe]] w fun e w' => e = .returned (.tuple #[]) ∧ DkPost w F g (s.set k f) w' := by
  obtain ⟨b, hb, hm, hg, f1, fz⟩ := h
  have hne := blk_map hb hm
  have hlt := hb.lt
  have hb2 := hb.alloc (.cells #[.string f.has, .int .i64 f.safe] 64)
  have hm2 := hm.alloc (.cells #[.string f.has, .int .i64 f.safe] 64)
  have hx2 := Blk.new w 64 #[.string f.has, .int .i64 f.safe]
  have hka := Lib.hid ((Kept.refl w F).alloc (.cells #[.string f.has, .int .i64 f.safe] 64))
  have hgx : g ≠ w.heap.size := by omega
  have hbx : b ≠ w.heap.size := by have := hm.lt; omega
  unfold DkS.set
  have hz1 : (sizeAt s.fs k) = ((fileAt s.fs k).has.size : Int) := rfl
  rw [hz1]
  have HL := Lib.hid (fun W (hW : SMap W 9 b DF.val s.fs) => file_run hW k hk)
  have hfl := field_has (fileAt s.fs k).has (fileAt s.fs k).safe
  clear hz1 hb hm
  generalize fileAt s.fs k = fo at *
  go_enter Tryd.func31, Tryd.ntmps31
  go_wp2_with (fail)
  generalize hwa : w.alloc (.cells #[.string f.has, .int .i64 f.safe] 64) = wa at *
  have hsz : wa.heap.size = w.heap.size + 1 := by rw [← hwa]; simp
  clear hwa
  have hl := HL.out wa.drew (hm2.drewN 1)
  have c1 := hb2.cell 1
  have c2 := hb2.cell 2
  have z1 := hb2.frozen 1
  have x0 := hx2.cell 0
  have x1 := hx2.cell 1
  have hw1 : IntKind.i64.wrap ((f.has.size : Int) - (fo.has.size : Int)) = (f.has.size : Int) - (fo.has.size : Int) := by rw [IntKind.wrap_i64]; omega
  have hw2 : IntKind.i64.wrap (s.used + ((f.has.size : Int) - (fo.has.size : Int))) = s.used + ((f.has.size : Int) - (fo.has.size : Int)) := by rw [IntKind.wrap_i64]; omega
  have HB := Lib.hid hb2
  have HM := Lib.hid hm2
  have HX := Lib.hid hx2
  clear hb2 hm2 hx2
  go_region
  have hb3 := HB.out.set_ 1 (.int .i64 (s.used + ((f.has.size : Int) - (fo.has.size : Int))))
  have hk3 := (Kept.refl wa fun k => k = g).setCell (p := ⟨g, 1, none⟩) (.inl rfl) (.int .i64 (s.used + ((f.has.size : Int) - (fo.has.size : Int))))
  have hm3 := HM.out.kept hk3 (fun e => hne e.symm)
  have hx3 := HX.out.kept hk3 (fun e => hgx e.symm)
  have hka3 := Lib.hid (hka.out.setCell (p := ⟨g, 1, none⟩) (.inl hg) (.int .i64 (s.used + ((f.has.size : Int) - (fo.has.size : Int)))))
  clear hk3 HB HM HX hl c1 c2 z1 x0 x1 hka
  go_wp2_with (fail)
  generalize (wa.setCell ⟨g, 1, none⟩ (.int .i64 (s.used + ((f.has.size : Int) - (fo.has.size : Int))))) = wb at *
  have d2 : wb.drew.cell? ⟨g, 2, none⟩ = some (.map (some b)) := by
    have := hb3.cell 2
    simpa using this
  have y0 := hx3.cell 0
  have y1 := hx3.cell 1
  obtain ⟨w3, hrun, hm4, hg4, hs4⟩ := SMap.store_run Tryd.underlying9 Tryd.underlying60 (SMap.drewN (SMap.drewN hm3 1) 1) (by simp only [maxLen]; omega) k hk f
  have HB3 := Lib.hid hb3
  clear hb3 hm3 hx3
  have hrun2 : (Instr.mapUpdate 60 (.map (some b)) (.string k) (.agg #[.string f.has, .int .i64 f.safe])).run Tryd.prog wb.drew.drew = .ok () w3 := hrun
  clear hrun
  have HG4 := Lib.hid hg4
  have HM4 := Lib.hid hm4
  clear hg4 hm4
  go_region
  go_wp2
  go_end0
  have hkk : Kept (wb.drewN 2) w3 (fun k => k = b) := (Kept.refl _ _).grown HG4.out (fun k e => by cases e; exact .inl rfl)
  refine ⟨rfl, (hka3.out.drewN 2).grown HG4.out (fun k e => by cases e; exact .inl f1), b, (HB3.out.drewN 2).kept hkk hne, HM4.out.perm (putF_perm _ _ _), hg, f1, fun k h => Nat.lt_of_lt_of_le (fz k h) (Nat.le_trans hka3.out.size hkk.size)⟩
set_option maxRecDepth 100000 in
set_option maxHeartbeats 1000000 in
theorem disk_drop (F : Nat → Prop) (g : Nat) (s : DkS) (k : ByteArray) (w : World) (h : DkAt w F g s) (hk : k.size ≤ maxLen) (hu0 : 0 ≤ s.used) (hu1 : s.used ≤ 262144) (ho : (fileAt s.fs k).has.size ≤ 140737488355328) :
    Calls Tryd.prog 33 #[.pointer (some ⟨g, 0, none⟩), .string k] w fun e w' => e = .returned (.tuple #[]) ∧ DkPost w F g (s.drop k) w' := by
  obtain ⟨b, hb, hm, hg, f1, fz⟩ := h
  have hne := blk_map hb hm
  have hlt := hb.lt
  have hfl := field_has (fileAt s.fs k).has (fileAt s.fs k).safe
  have hl := file_run (w := w.drew) (hm.drewN 1) k hk
  unfold DkS.drop
  have hz1 : (sizeAt s.fs k) = ((fileAt s.fs k).has.size : Int) := rfl
  rw [hz1]
  clear hz1
  have c1 := hb.cell 1
  have c2 := hb.cell 2
  have z1 := hb.frozen 1
  generalize fileAt s.fs k = fo at *
  have hw1 : IntKind.i64.wrap (s.used - (fo.has.size : Int)) = s.used - (fo.has.size : Int) := by rw [IntKind.wrap_i64]; omega
  have HB := Lib.hid hb
  have HM := Lib.hid hm
  clear hb hm
  go_enter Tryd.func33, Tryd.ntmps33
  go_wp2_with (fail)
  go_region
  have hb3 := HB.out.set_ 1 (.int .i64 (s.used - (fo.has.size : Int)))
  have hk3 := (Kept.refl w fun k => k = g).setCell (p := ⟨g, 1, none⟩) (.inl rfl) (.int .i64 (s.used - (fo.has.size : Int)))
  have hm3 := HM.out.kept hk3 (fun e => hne e.symm)
  have hka3 := Lib.hid ((Kept.refl w F).setCell (p := ⟨g, 1, none⟩) (.inl hg) (.int .i64 (s.used - (fo.has.size : Int))))
  clear hk3 HB HM hl c1 c2 z1
  generalize (w.setCell ⟨g, 1, none⟩ (.int .i64 (s.used - (fo.has.size : Int)))) = wb at *
  have d2 : wb.drew.cell? ⟨g, 2, none⟩ = some (.map (some b)) := by
    have := hb3.cell 2
    simpa using this
  have HB3 := Lib.hid hb3
  obtain ⟨w3, hrun, hm4, hg4, hs4⟩ := SMap.del_run (ty := 0) Tryd.underlying9 Tryd.underlying60 (SMap.drewN hm3 1) k hk
  have hrun2 : (Builtin.delete_ #[60, 9] 0 #[.map (some b), .string k]).run Tryd.prog wb.drew = .ok (.tuple #[]) w3 := hrun
  clear hb3 hm3 hrun
  have HG4 := Lib.hid hg4
  have HM4 := Lib.hid hm4
  clear hg4 hm4
  go_wp2
  go_end0
  have hkk : Kept (wb.drewN 1) w3 (fun k => k = b) := (Kept.refl _ _).grown HG4.out (fun k e => by cases e; exact .inl rfl)
  refine ⟨rfl, (hka3.out.drewN 1).grown HG4.out (fun k e => by cases e; exact .inl f1), b, (HB3.out.drewN 1).kept hkk hne, HM4.out, hg, f1, fun k h => Nat.lt_of_lt_of_le (fz k h) (Nat.le_trans hka3.out.size hkk.size)⟩
end Go.Proofs.YtaghdopickgpgaaDoor
