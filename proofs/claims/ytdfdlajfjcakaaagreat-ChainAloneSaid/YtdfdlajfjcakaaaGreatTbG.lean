import Derived.Test.YtdfdlajfjcakaaaGreatTbF
namespace Go.Proofs.YtdfdlajfjcakaaaGreat
open Go Go.RowKit
set_option linter.unusedVariables false
set_option linter.unusedSimpArgs false
set_option maxRecDepth 100000

/-! write. -/
theorem set4 {w : World} {b ty : Nat} {a0 a1 a2 a3 : Value} (h : Blk w b ty #[a0, a1, a2, a3]) (x0 x1 x2 x3 : Value) :
    Blk ((((w.setCell ⟨b, 0, none⟩ x0).setCell ⟨b, 1, none⟩ x1).setCell ⟨b, 2, none⟩ x2).setCell ⟨b, 3, none⟩ x3) b ty #[x0, x1, x2, x3] ∧
    Kept w ((((w.setCell ⟨b, 0, none⟩ x0).setCell ⟨b, 1, none⟩ x1).setCell ⟨b, 2, none⟩ x2).setCell ⟨b, 3, none⟩ x3) (fun k => k = b) := by
  refine ⟨?_, ((((Kept.refl w fun k => k = b).setCell (p := ⟨b, 0, none⟩) (.inl rfl) x0).setCell (p := ⟨b, 1, none⟩) (.inl rfl) x1).setCell (p := ⟨b, 2, none⟩) (.inl rfl) x2).setCell (p := ⟨b, 3, none⟩) (.inl rfl) x3⟩
  have := (((h.set_ 0 x0).set_ 1 x1).set_ 2 x2).set_ 3 x3
  simpa using this
def resV (c s : Int) (v : ByteArray) : Value := .agg #[.int .i64 c, .int .i64 s, .string v, .slice none 0 0]
set_option maxHeartbeats 1000000 in
theorem refused_calls (c s : Int) (w : World) :
    Calls Tryz.prog 67 #[.int .i64 c, .int .i64 s] w fun e w' => e = .returned (.agg #[.int .i64 c, .int .i64 s, .string ⟨#[]⟩, .slice none 0 0]) ∧ Below w.heap.size w w' := by
  go_enter Tryz.func67, Tryz.ntmps67
  go_wp2
  have h4 := Blk.new w 87 #[.int .i64 c, .int .i64 s, .string ⟨#[]⟩, .slice none 0 0]
  have g0 := h4.cell 0
  have g1 := h4.cell 1
  have g2 := h4.cell 2
  have g3 := h4.cell 3
  refine bodyPost_ret (v := .agg #[.int .i64 c, .int .i64 s, .string ⟨#[]⟩, .slice none 0 0]) ?_ rfl ⟨rfl, (Below.refl _ _).alloc (Nat.le_refl _) _⟩
  simp [results, Tryz.results67, go_sem, g0, g1, g2, g3]
theorem below_drewN {B : Nat} {a w : World} (h : Below B a w) (n : Nat) : Below B a (w.drewN n) := ⟨h.os, h.tape, h.output, h.size, h.block⟩
/-- What is left behind a result that is laid. -/
theorem tab_left {w w3 : World} {g b : Nat} {l : List RowT} {cs : Array Value} (hT : TabAt w3 g l) (hK : Kept w w3 fun k => k = g) (hb : Blk w3 b 87 cs) (hw : w.heap.size ≤ b) (hg : g < w.heap.size) {w4 : World} (h4 : Kept w3 w4 fun k => k = b) : TabAt w4 g l ∧ Kept w w4 fun k => k = g := by
  refine ⟨hT.kept h4 (by omega) (fun k e cs' hc => ?_), hK.then_ h4 (fun i h => .inr ?_)⟩
  · subst e
    exact hc.ne_ hb (by decide) rfl
  · omega
set_option maxHeartbeats 8000000 in
theorem tab_write (g : Nat) (l : List RowT) (x : OpT) (w : World) (h : TabAt w g l) (hr : RowsOk l) :
    Calls Tryz.prog 66 #[.pointer (some ⟨g, 0, none⟩), x.v] w fun e w' => e = .returned (resV (writeT l x).1.code (writeT l x).1.stamp (writeT l x).1.val) ∧ (writeT l x).1.rows = [] ∧ TabAt w' g (writeT l x).2 ∧ Kept w w' (fun k => k = g) := by
  obtain ⟨kd, key, val, st, te, mo⟩ := x
  have HA := Lib.hid (((Below.refl w.heap.size w).alloc (Nat.le_refl _) (.cells #[.int .i64 kd, .string key, .string val, .int .i64 st, .int .i64 te, .int .i64 mo] 85)).alloc (by simp) (.cells #[.int .i64 0, .int .i64 0, .string ⟨#[]⟩, .slice none 0 0] 87))
  have HX := Lib.hid ((Blk.new w 85 #[.int .i64 kd, .string key, .string val, .int .i64 st, .int .i64 te, .int .i64 mo]).alloc (.cells #[.int .i64 0, .int .i64 0, .string ⟨#[]⟩, .slice none 0 0] 87))
  have HZ := Lib.hid (show Blk _ (w.heap.size + 1) 87 _ from by have := Blk.new (w.alloc (.cells #[.int .i64 kd, .string key, .string val, .int .i64 st, .int .i64 te, .int .i64 mo] 85)) 87 #[.int .i64 0, .int .i64 0, .string ⟨#[]⟩, .slice none 0 0]; rw [World.size_alloc] at this; exact this)
  have HT := Lib.hid (h.below HA.out)
  have HR := Lib.hid hr
  have hg := h.lt
  have hat := tab_at g l key _ HT.out (by have := hr.few; omega) hr.rise
  have hl : l.length ≤ 4096 := hr.few
  have x1 := HX.out.cell 1
  clear h hr
  unfold OpT.v
  dsimp only
  go_enter Tryz.func66, Tryz.ntmps66
  go_wp2_with (fail)
  generalize ((w.alloc (.cells #[.int .i64 kd, .string key, .string val, .int .i64 st, .int .i64 te, .int .i64 mo] 85)).alloc (.cells #[.int .i64 0, .int .i64 0, .string ⟨#[]⟩, .slice none 0 0] 87)) = wa at *
  refine hat.mono ?_
  rintro e w2 ⟨rfl, hb2⟩
  have HX2 := Lib.hid (HX.out.kept (Kept.of_below hb2 fun _ => False) (fun h => h))
  have HZ2 := Lib.hid (show Blk w2 (w.heap.size + 1) 87 #[.int .i64 0, .int .i64 0, .string ⟨#[]⟩, .slice none 0 0] from Blk.kept HZ.out (Kept.of_below hb2 fun _ => False) (fun h => h))
  have HT2 := Lib.hid (HT.out.below hb2)
  have HB2 := Lib.hid (HA.out.trans (hb2.mono HA.out.size))
  clear x1
  have x0 := HX2.out.cell 0
  have x1 := HX2.out.cell 1
  have x2 := HX2.out.cell 2
  have x3 := HX2.out.cell 3
  have x4 := HX2.out.cell 4
  have hzl := HZ2.out.lt
  obtain ⟨tv, htb, hts, htt⟩ := HT2.out
  have c0 := htb.cell 0
  obtain ⟨tA, tc, rfl, htc, _⟩ := hts.shape
  have HS := Lib.hid hts
  have hpl := posK_le l key
  obtain ⟨p, HP⟩ : ∃ p, Hid (posK l key = p) := ⟨_, Lib.hid rfl⟩
  rw [HP.out] at hpl
  clear hat hb2 HX HZ HT HA htb hts htt
  cases hq : hasK l key with
  | true =>
    have hpp := (has_pos hq).1
    rw [HP.out] at hpp
    obtain ⟨ad, hA, y0, y1, y2⟩ := rowT_at HS.out hpp
    subst hA
    obtain ⟨s, HSS⟩ : ∃ s, Hid (l[p].stamp = s) := ⟨_, Lib.hid rfl⟩
    have HRT := Lib.hid (show (rowT l (posK l key)).stamp = s by unfold rowT; rw [HP.out, List.getElem?_eq_getElem hpp]; exact HSS.out)
    rw [HSS.out] at y1
    have hp0 : (0 : Int) ≤ (p : Int) := by omega
    have hpz : (p : Int) < (l.length : Int) := by omega
    have hw : IntKind.i64.wrap ((p : Int) + 1) = (p : Int) + 1 := by rw [IntKind.wrap_i64]; omega
    clear y0 y2
    rw [HP.out]
    by_cases hk1 : kd = 1
    · have HE := Lib.hid (show writeT l ⟨kd, key, val, st, te, mo⟩ = (refT 90 s, l) by unfold writeT; rw [if_pos hq, if_pos hk1, HRT.out])
      have q1 : (kd == 1) = true := by simpa using hk1
      clear hk1
      have hrc := fun W => refused_calls 90 s W
      go_wp2_with (fail)
      refine (hrc _).mono ?_
      rintro e w3 ⟨rfl, hb3⟩
      have HZ3 := Lib.hid (HZ2.out.kept (Kept.of_below (S := fun _ => False) hb3) (fun h => h))
      have HT3 := Lib.hid (HT2.out.below hb3)
      have HB3 := Lib.hid (HB2.out.trans (hb3.mono HB2.out.size))
      clear hrc hb3 x0 x1 x2 x3 x4 c0
      have z0 := HZ3.out.cell 0
      have z1 := HZ3.out.cell 1
      have z2 := HZ3.out.cell 2
      have z3 := HZ3.out.cell 3
      have f0 := HZ3.out.frozen 0
      have f1 := HZ3.out.frozen 1
      have f2 := HZ3.out.frozen 2
      have f3 := HZ3.out.frozen 3
      have hz3 := HZ3.out.lt
      go_wp2
      have h4 := set4 HZ3.out (.int .i64 90) (.int .i64 s) (.string ⟨#[]⟩) (.slice none 0 0)
      have hf := tab_left HT3.out (Kept.of_below HB3.out _) HZ3.out (by omega) hg h4.2
      generalize ((((w3.setCell ⟨w.heap.size + 1, 0, none⟩ (.int .i64 90)).setCell ⟨w.heap.size + 1, 1, none⟩ (.int .i64 s)).setCell ⟨w.heap.size + 1, 2, none⟩ (.string ⟨#[]⟩)).setCell ⟨w.heap.size + 1, 3, none⟩ (.slice none 0 0)) = w4 at *
      have g0 := h4.1.cell 0
      have g1 := h4.1.cell 1
      have g2 := h4.1.cell 2
      have g3 := h4.1.cell 3
      refine bodyPost_ret (v := resV 90 s ⟨#[]⟩) ?_ rfl ⟨by rw [HE.out]; rfl, by rw [HE.out]; rfl, by rw [HE.out]; exact hf.1, hf.2⟩
      simp [results, Tryz.results66, go_sem, resV, g0, g1, g2, g3]
    have q1 : (kd == 1) = false := by simpa using hk1
    rcases (show (te ≠ 0 ∧ te ≠ s) ∨ (te ≠ 0 ∧ te = s ∧ st ≤ s) ∨ (te = 0 ∧ st ≤ s) ∨ (te ≠ 0 ∧ te = s ∧ ¬ st ≤ s) ∨ (te = 0 ∧ ¬ st ≤ s) by omega) with hh | hh | hh | hh | hh
    · have hk2 : te ≠ 0 ∧ te ≠ s ∨ st ≤ s := by omega
      have q5 : (te != 0) = true := by simp; omega
      have q6 : (te != s) = true := by simp; omega
      clear hh
      have HE := Lib.hid (show writeT l ⟨kd, key, val, st, te, mo⟩ = (refT 92 s, l) by unfold writeT; rw [if_pos hq, if_neg hk1, HRT.out, if_pos hk2])
      clear hk1 hk2
      go_wp2_with (fail)
      go_quiet (fail)
      replace HZ2 := Lib.hid (HZ2.out.drewN nq)
      replace HX2 := Lib.hid (HX2.out.drewN nq)
      replace HT2 := Lib.hid (show TabAt (w2.drewN nq) g l from HT2.out.below (below_drewN (Below.refl _ w2) nq))
      replace HB2 := Lib.hid (below_drewN HB2.out nq)
      replace x0 : (w2.drewN nq).cell? ⟨w.heap.size, 0, none⟩ = some (.int .i64 kd) := x0
      replace x1 : (w2.drewN nq).cell? ⟨w.heap.size, 1, none⟩ = some (.string key) := x1
      replace x2 : (w2.drewN nq).cell? ⟨w.heap.size, 2, none⟩ = some (.string val) := x2
      replace x3 : (w2.drewN nq).cell? ⟨w.heap.size, 3, none⟩ = some (.int .i64 st) := x3
      replace x4 : (w2.drewN nq).cell? ⟨w.heap.size, 4, none⟩ = some (.int .i64 te) := x4
      replace c0 : (w2.drewN nq).cell? ⟨g, 0, none⟩ = some (.slice (some ad) l.length tc) := c0
      replace y1 : (w2.drewN nq).cell? ⟨(ad.add (p * 3)).block, (ad.add (p * 3)).off + 1, none⟩ = some (.int .i64 s) := y1
      replace hzl : w.heap.size + 1 < (w2.drewN nq).heap.size := hzl
      generalize w2.drewN nq = w2 at *
      have hrc := fun W => refused_calls 92 s W
      go_wp2_with (fail)
      refine (hrc _).mono ?_
      rintro e w3 ⟨rfl, hb3⟩
      have HZ3 := Lib.hid (HZ2.out.kept (Kept.of_below (S := fun _ => False) hb3) (fun h => h))
      have HT3 := Lib.hid (HT2.out.below hb3)
      have HB3 := Lib.hid (HB2.out.trans (hb3.mono HB2.out.size))
      clear hrc hb3 x0 x1 x2 x3 x4 c0
      have z0 := HZ3.out.cell 0
      have z1 := HZ3.out.cell 1
      have z2 := HZ3.out.cell 2
      have z3 := HZ3.out.cell 3
      have f0 := HZ3.out.frozen 0
      have f1 := HZ3.out.frozen 1
      have f2 := HZ3.out.frozen 2
      have f3 := HZ3.out.frozen 3
      have hz3 := HZ3.out.lt
      go_wp2
      have h4 := set4 HZ3.out (.int .i64 92) (.int .i64 s) (.string ⟨#[]⟩) (.slice none 0 0)
      have hf := tab_left HT3.out (Kept.of_below HB3.out _) HZ3.out (by omega) hg h4.2
      generalize ((((w3.setCell ⟨w.heap.size + 1, 0, none⟩ (.int .i64 92)).setCell ⟨w.heap.size + 1, 1, none⟩ (.int .i64 s)).setCell ⟨w.heap.size + 1, 2, none⟩ (.string ⟨#[]⟩)).setCell ⟨w.heap.size + 1, 3, none⟩ (.slice none 0 0)) = w4 at *
      have g0 := h4.1.cell 0
      have g1 := h4.1.cell 1
      have g2 := h4.1.cell 2
      have g3 := h4.1.cell 3
      refine bodyPost_ret (v := resV 92 s ⟨#[]⟩) ?_ rfl ⟨by rw [HE.out]; rfl, by rw [HE.out]; rfl, by rw [HE.out]; exact hf.1, hf.2⟩
      simp [results, Tryz.results66, go_sem, resV, g0, g1, g2, g3]
    · have hk2 : te ≠ 0 ∧ te ≠ s ∨ st ≤ s := by omega
      have q5 : (te != 0) = true := by simp; omega
      have q6 : (te != s) = false := by simp; omega
      have q7 : decide (st ≤ s) = true := by simp; omega
      clear hh
      have HE := Lib.hid (show writeT l ⟨kd, key, val, st, te, mo⟩ = (refT 92 s, l) by unfold writeT; rw [if_pos hq, if_neg hk1, HRT.out, if_pos hk2])
      clear hk1 hk2
      go_wp2_with (fail)
      go_quiet (fail)
      replace HZ2 := Lib.hid (HZ2.out.drewN nq)
      replace HX2 := Lib.hid (HX2.out.drewN nq)
      replace HT2 := Lib.hid (show TabAt (w2.drewN nq) g l from HT2.out.below (below_drewN (Below.refl _ w2) nq))
      replace HB2 := Lib.hid (below_drewN HB2.out nq)
      replace x0 : (w2.drewN nq).cell? ⟨w.heap.size, 0, none⟩ = some (.int .i64 kd) := x0
      replace x1 : (w2.drewN nq).cell? ⟨w.heap.size, 1, none⟩ = some (.string key) := x1
      replace x2 : (w2.drewN nq).cell? ⟨w.heap.size, 2, none⟩ = some (.string val) := x2
      replace x3 : (w2.drewN nq).cell? ⟨w.heap.size, 3, none⟩ = some (.int .i64 st) := x3
      replace x4 : (w2.drewN nq).cell? ⟨w.heap.size, 4, none⟩ = some (.int .i64 te) := x4
      replace c0 : (w2.drewN nq).cell? ⟨g, 0, none⟩ = some (.slice (some ad) l.length tc) := c0
      replace y1 : (w2.drewN nq).cell? ⟨(ad.add (p * 3)).block, (ad.add (p * 3)).off + 1, none⟩ = some (.int .i64 s) := y1
      replace hzl : w.heap.size + 1 < (w2.drewN nq).heap.size := hzl
      generalize w2.drewN nq = w2 at *
      have hrc := fun W => refused_calls 92 s W
      go_wp2_with (fail)
      refine (hrc _).mono ?_
      rintro e w3 ⟨rfl, hb3⟩
      have HZ3 := Lib.hid (HZ2.out.kept (Kept.of_below (S := fun _ => False) hb3) (fun h => h))
      have HT3 := Lib.hid (HT2.out.below hb3)
      have HB3 := Lib.hid (HB2.out.trans (hb3.mono HB2.out.size))
      clear hrc hb3 x0 x1 x2 x3 x4 c0
      have z0 := HZ3.out.cell 0
      have z1 := HZ3.out.cell 1
      have z2 := HZ3.out.cell 2
      have z3 := HZ3.out.cell 3
      have f0 := HZ3.out.frozen 0
      have f1 := HZ3.out.frozen 1
      have f2 := HZ3.out.frozen 2
      have f3 := HZ3.out.frozen 3
      have hz3 := HZ3.out.lt
      go_wp2
      have h4 := set4 HZ3.out (.int .i64 92) (.int .i64 s) (.string ⟨#[]⟩) (.slice none 0 0)
      have hf := tab_left HT3.out (Kept.of_below HB3.out _) HZ3.out (by omega) hg h4.2
      generalize ((((w3.setCell ⟨w.heap.size + 1, 0, none⟩ (.int .i64 92)).setCell ⟨w.heap.size + 1, 1, none⟩ (.int .i64 s)).setCell ⟨w.heap.size + 1, 2, none⟩ (.string ⟨#[]⟩)).setCell ⟨w.heap.size + 1, 3, none⟩ (.slice none 0 0)) = w4 at *
      have g0 := h4.1.cell 0
      have g1 := h4.1.cell 1
      have g2 := h4.1.cell 2
      have g3 := h4.1.cell 3
      refine bodyPost_ret (v := resV 92 s ⟨#[]⟩) ?_ rfl ⟨by rw [HE.out]; rfl, by rw [HE.out]; rfl, by rw [HE.out]; exact hf.1, hf.2⟩
      simp [results, Tryz.results66, go_sem, resV, g0, g1, g2, g3]
    · have hk2 : te ≠ 0 ∧ te ≠ s ∨ st ≤ s := by omega
      have q5 : (te != 0) = false := by simp; omega
      have q6 : decide (st ≤ s) = true := by simp; omega
      clear hh
      have HE := Lib.hid (show writeT l ⟨kd, key, val, st, te, mo⟩ = (refT 92 s, l) by unfold writeT; rw [if_pos hq, if_neg hk1, HRT.out, if_pos hk2])
      clear hk1 hk2
      go_wp2_with (fail)
      go_quiet (fail)
      replace HZ2 := Lib.hid (HZ2.out.drewN nq)
      replace HX2 := Lib.hid (HX2.out.drewN nq)
      replace HT2 := Lib.hid (show TabAt (w2.drewN nq) g l from HT2.out.below (below_drewN (Below.refl _ w2) nq))
      replace HB2 := Lib.hid (below_drewN HB2.out nq)
      replace x0 : (w2.drewN nq).cell? ⟨w.heap.size, 0, none⟩ = some (.int .i64 kd) := x0
      replace x1 : (w2.drewN nq).cell? ⟨w.heap.size, 1, none⟩ = some (.string key) := x1
      replace x2 : (w2.drewN nq).cell? ⟨w.heap.size, 2, none⟩ = some (.string val) := x2
      replace x3 : (w2.drewN nq).cell? ⟨w.heap.size, 3, none⟩ = some (.int .i64 st) := x3
      replace x4 : (w2.drewN nq).cell? ⟨w.heap.size, 4, none⟩ = some (.int .i64 te) := x4
      replace c0 : (w2.drewN nq).cell? ⟨g, 0, none⟩ = some (.slice (some ad) l.length tc) := c0
      replace y1 : (w2.drewN nq).cell? ⟨(ad.add (p * 3)).block, (ad.add (p * 3)).off + 1, none⟩ = some (.int .i64 s) := y1
      replace hzl : w.heap.size + 1 < (w2.drewN nq).heap.size := hzl
      generalize w2.drewN nq = w2 at *
      have hrc := fun W => refused_calls 92 s W
      go_wp2_with (fail)
      refine (hrc _).mono ?_
      rintro e w3 ⟨rfl, hb3⟩
      have HZ3 := Lib.hid (HZ2.out.kept (Kept.of_below (S := fun _ => False) hb3) (fun h => h))
      have HT3 := Lib.hid (HT2.out.below hb3)
      have HB3 := Lib.hid (HB2.out.trans (hb3.mono HB2.out.size))
      clear hrc hb3 x0 x1 x2 x3 x4 c0
      have z0 := HZ3.out.cell 0
      have z1 := HZ3.out.cell 1
      have z2 := HZ3.out.cell 2
      have z3 := HZ3.out.cell 3
      have f0 := HZ3.out.frozen 0
      have f1 := HZ3.out.frozen 1
      have f2 := HZ3.out.frozen 2
      have f3 := HZ3.out.frozen 3
      have hz3 := HZ3.out.lt
      go_wp2
      have h4 := set4 HZ3.out (.int .i64 92) (.int .i64 s) (.string ⟨#[]⟩) (.slice none 0 0)
      have hf := tab_left HT3.out (Kept.of_below HB3.out _) HZ3.out (by omega) hg h4.2
      generalize ((((w3.setCell ⟨w.heap.size + 1, 0, none⟩ (.int .i64 92)).setCell ⟨w.heap.size + 1, 1, none⟩ (.int .i64 s)).setCell ⟨w.heap.size + 1, 2, none⟩ (.string ⟨#[]⟩)).setCell ⟨w.heap.size + 1, 3, none⟩ (.slice none 0 0)) = w4 at *
      have g0 := h4.1.cell 0
      have g1 := h4.1.cell 1
      have g2 := h4.1.cell 2
      have g3 := h4.1.cell 3
      refine bodyPost_ret (v := resV 92 s ⟨#[]⟩) ?_ rfl ⟨by rw [HE.out]; rfl, by rw [HE.out]; rfl, by rw [HE.out]; exact hf.1, hf.2⟩
      simp [results, Tryz.results66, go_sem, resV, g0, g1, g2, g3]
    · have hk2 : ¬ (te ≠ 0 ∧ te ≠ s ∨ st ≤ s) := by omega
      have q5 : (te != 0) = true := by simp; omega
      have q6 : (te != s) = false := by simp; omega
      have q7 : decide (st ≤ s) = false := by simp; omega
      clear hh
      by_cases hk3 : 4096 < val.size
      · have HE := Lib.hid (show writeT l ⟨kd, key, val, st, te, mo⟩ = (refT 93 0, l) by unfold writeT; rw [if_pos hq, if_neg hk1, HRT.out, if_neg hk2, if_pos hk3])
        have q4 : decide ((4096 : Int) < (val.size : Int)) = true := decide_eq_true (by omega)
        clear hk1 hk2 hk3
        go_wp2_with (fail)
        go_quiet (fail)
        replace HZ2 := Lib.hid (HZ2.out.drewN nq)
        replace HX2 := Lib.hid (HX2.out.drewN nq)
        replace HT2 := Lib.hid (show TabAt (w2.drewN nq) g l from HT2.out.below (below_drewN (Below.refl _ w2) nq))
        replace HB2 := Lib.hid (below_drewN HB2.out nq)
        replace x0 : (w2.drewN nq).cell? ⟨w.heap.size, 0, none⟩ = some (.int .i64 kd) := x0
        replace x1 : (w2.drewN nq).cell? ⟨w.heap.size, 1, none⟩ = some (.string key) := x1
        replace x2 : (w2.drewN nq).cell? ⟨w.heap.size, 2, none⟩ = some (.string val) := x2
        replace x3 : (w2.drewN nq).cell? ⟨w.heap.size, 3, none⟩ = some (.int .i64 st) := x3
        replace x4 : (w2.drewN nq).cell? ⟨w.heap.size, 4, none⟩ = some (.int .i64 te) := x4
        replace c0 : (w2.drewN nq).cell? ⟨g, 0, none⟩ = some (.slice (some ad) l.length tc) := c0
        replace y1 : (w2.drewN nq).cell? ⟨(ad.add (p * 3)).block, (ad.add (p * 3)).off + 1, none⟩ = some (.int .i64 s) := y1
        replace hzl : w.heap.size + 1 < (w2.drewN nq).heap.size := hzl
        generalize w2.drewN nq = w2 at *
        have hrc := fun W => refused_calls 93 0 W
        go_wp2_with (fail)
        refine (hrc _).mono ?_
        rintro e w3 ⟨rfl, hb3⟩
        have HZ3 := Lib.hid (HZ2.out.kept (Kept.of_below (S := fun _ => False) hb3) (fun h => h))
        have HT3 := Lib.hid (HT2.out.below hb3)
        have HB3 := Lib.hid (HB2.out.trans (hb3.mono HB2.out.size))
        clear hrc hb3 x0 x1 x2 x3 x4 c0
        have z0 := HZ3.out.cell 0
        have z1 := HZ3.out.cell 1
        have z2 := HZ3.out.cell 2
        have z3 := HZ3.out.cell 3
        have f0 := HZ3.out.frozen 0
        have f1 := HZ3.out.frozen 1
        have f2 := HZ3.out.frozen 2
        have f3 := HZ3.out.frozen 3
        have hz3 := HZ3.out.lt
        go_wp2
        have h4 := set4 HZ3.out (.int .i64 93) (.int .i64 0) (.string ⟨#[]⟩) (.slice none 0 0)
        have hf := tab_left HT3.out (Kept.of_below HB3.out _) HZ3.out (by omega) hg h4.2
        generalize ((((w3.setCell ⟨w.heap.size + 1, 0, none⟩ (.int .i64 93)).setCell ⟨w.heap.size + 1, 1, none⟩ (.int .i64 0)).setCell ⟨w.heap.size + 1, 2, none⟩ (.string ⟨#[]⟩)).setCell ⟨w.heap.size + 1, 3, none⟩ (.slice none 0 0)) = w4 at *
        have g0 := h4.1.cell 0
        have g1 := h4.1.cell 1
        have g2 := h4.1.cell 2
        have g3 := h4.1.cell 3
        refine bodyPost_ret (v := resV 93 0 ⟨#[]⟩) ?_ rfl ⟨by rw [HE.out]; rfl, by rw [HE.out]; rfl, by rw [HE.out]; exact hf.1, hf.2⟩
        simp [results, Tryz.results66, go_sem, resV, g0, g1, g2, g3]
      · have HE := Lib.hid (show writeT l ⟨kd, key, val, st, te, mo⟩ = (refT 0 st, spl l p (p + 1) [⟨key, st, val⟩]) by unfold writeT; rw [if_pos hq, if_neg hk1, HRT.out, if_neg hk2, if_neg hk3, HP.out])
        have q4 : decide ((4096 : Int) < (val.size : Int)) = false := decide_eq_false (by omega)
        clear hk1 hk2 hk3
        go_wp2_with (fail)
        go_quiet (fail)
        replace HZ2 := Lib.hid (HZ2.out.drewN nq)
        replace HX2 := Lib.hid (HX2.out.drewN nq)
        replace HT2 := Lib.hid (show TabAt (w2.drewN nq) g l from HT2.out.below (below_drewN (Below.refl _ w2) nq))
        replace HB2 := Lib.hid (below_drewN HB2.out nq)
        replace x0 : (w2.drewN nq).cell? ⟨w.heap.size, 0, none⟩ = some (.int .i64 kd) := x0
        replace x1 : (w2.drewN nq).cell? ⟨w.heap.size, 1, none⟩ = some (.string key) := x1
        replace x2 : (w2.drewN nq).cell? ⟨w.heap.size, 2, none⟩ = some (.string val) := x2
        replace x3 : (w2.drewN nq).cell? ⟨w.heap.size, 3, none⟩ = some (.int .i64 st) := x3
        replace x4 : (w2.drewN nq).cell? ⟨w.heap.size, 4, none⟩ = some (.int .i64 te) := x4
        replace c0 : (w2.drewN nq).cell? ⟨g, 0, none⟩ = some (.slice (some ad) l.length tc) := c0
        replace y1 : (w2.drewN nq).cell? ⟨(ad.add (p * 3)).block, (ad.add (p * 3)).off + 1, none⟩ = some (.int .i64 s) := y1
        replace hzl : w.heap.size + 1 < (w2.drewN nq).heap.size := hzl
        generalize w2.drewN nq = w2 at *
        have HT3 := Lib.hid (HT2.out.below ((Below.refl _ w2).alloc (Nat.le_refl _) (.cells #[.string key, .int .i64 st, .string val] 115)))
        have HR3 := Lib.hid (SegG.of_row (Row.lit1 RowT.cells w2 115 3 ⟨key, st, val⟩ #[.string key, .int .i64 st, .string val] rfl rfl))
        have HB3 := Lib.hid (HB2.out.alloc HB2.out.size (.cells #[.string key, .int .i64 st, .string val] 115))
        have HZ0 := Lib.hid (HZ2.out.alloc (.cells #[.string key, .int .i64 st, .string val] 115))
        have HX0 := Lib.hid (HX2.out.alloc (.cells #[.string key, .int .i64 st, .string val] 115))
        have hsp := tab_splice g l [⟨key, st, val⟩] p (p + 1) _ _ HT3.out (by omega) (by omega) HR3.out (by omega) (by simp)
        rw [show (((p + 1 : Nat)) : Int) = (p : Int) + 1 from rfl] at hsp
        go_wp2_with (fail)
        generalize (w2.alloc (.cells #[.string key, .int .i64 st, .string val] 115)) = wb at *
        refine hsp.mono ?_
        rintro e w3 ⟨rfl, ht3, hk3⟩
        have HX3 := Lib.hid (HX0.out.kept hk3 (by omega))
        have x3' := HX3.out.cell 3
        have HZ3 := Lib.hid (show Blk w3 (w.heap.size + 1) 87 _ from HZ0.out.kept hk3 (by omega))
        have HK3 := Lib.hid ((Kept.of_below HB3.out fun k => k = g).trans hk3)
        have HT4 := Lib.hid ht3
        clear hsp hk3 ht3 x0 x1 x2 x3 x4 c0
        have z0 := HZ3.out.cell 0
        have z1 := HZ3.out.cell 1
        have z2 := HZ3.out.cell 2
        have z3 := HZ3.out.cell 3
        have f0 := HZ3.out.frozen 0
        have f1 := HZ3.out.frozen 1
        have f2 := HZ3.out.frozen 2
        have f3 := HZ3.out.frozen 3
        have hz3 := HZ3.out.lt
        go_wp2
        have h4 := set4 HZ3.out (.int .i64 0) (.int .i64 st) (.string ⟨#[]⟩) (.slice none 0 0)
        have hf := tab_left HT4.out HK3.out HZ3.out (by omega) hg h4.2
        generalize ((((w3.setCell ⟨w.heap.size + 1, 0, none⟩ (.int .i64 0)).setCell ⟨w.heap.size + 1, 1, none⟩ (.int .i64 st)).setCell ⟨w.heap.size + 1, 2, none⟩ (.string ⟨#[]⟩)).setCell ⟨w.heap.size + 1, 3, none⟩ (.slice none 0 0)) = w4 at *
        have g0 := h4.1.cell 0
        have g1 := h4.1.cell 1
        have g2 := h4.1.cell 2
        have g3 := h4.1.cell 3
        refine bodyPost_ret (v := resV 0 st ⟨#[]⟩) ?_ rfl ⟨by rw [HE.out]; rfl, by rw [HE.out]; rfl, by rw [HE.out]; exact hf.1, hf.2⟩
        simp [results, Tryz.results66, go_sem, resV, g0, g1, g2, g3]
    · have hk2 : ¬ (te ≠ 0 ∧ te ≠ s ∨ st ≤ s) := by omega
      have q5 : (te != 0) = false := by simp; omega
      have q6 : decide (st ≤ s) = false := by simp; omega
      clear hh
      by_cases hk3 : 4096 < val.size
      · have HE := Lib.hid (show writeT l ⟨kd, key, val, st, te, mo⟩ = (refT 93 0, l) by unfold writeT; rw [if_pos hq, if_neg hk1, HRT.out, if_neg hk2, if_pos hk3])
        have q4 : decide ((4096 : Int) < (val.size : Int)) = true := decide_eq_true (by omega)
        clear hk1 hk2 hk3
        go_wp2_with (fail)
        go_quiet (fail)
        replace HZ2 := Lib.hid (HZ2.out.drewN nq)
        replace HX2 := Lib.hid (HX2.out.drewN nq)
        replace HT2 := Lib.hid (show TabAt (w2.drewN nq) g l from HT2.out.below (below_drewN (Below.refl _ w2) nq))
        replace HB2 := Lib.hid (below_drewN HB2.out nq)
        replace x0 : (w2.drewN nq).cell? ⟨w.heap.size, 0, none⟩ = some (.int .i64 kd) := x0
        replace x1 : (w2.drewN nq).cell? ⟨w.heap.size, 1, none⟩ = some (.string key) := x1
        replace x2 : (w2.drewN nq).cell? ⟨w.heap.size, 2, none⟩ = some (.string val) := x2
        replace x3 : (w2.drewN nq).cell? ⟨w.heap.size, 3, none⟩ = some (.int .i64 st) := x3
        replace x4 : (w2.drewN nq).cell? ⟨w.heap.size, 4, none⟩ = some (.int .i64 te) := x4
        replace c0 : (w2.drewN nq).cell? ⟨g, 0, none⟩ = some (.slice (some ad) l.length tc) := c0
        replace y1 : (w2.drewN nq).cell? ⟨(ad.add (p * 3)).block, (ad.add (p * 3)).off + 1, none⟩ = some (.int .i64 s) := y1
        replace hzl : w.heap.size + 1 < (w2.drewN nq).heap.size := hzl
        generalize w2.drewN nq = w2 at *
        have hrc := fun W => refused_calls 93 0 W
        go_wp2_with (fail)
        refine (hrc _).mono ?_
        rintro e w3 ⟨rfl, hb3⟩
        have HZ3 := Lib.hid (HZ2.out.kept (Kept.of_below (S := fun _ => False) hb3) (fun h => h))
        have HT3 := Lib.hid (HT2.out.below hb3)
        have HB3 := Lib.hid (HB2.out.trans (hb3.mono HB2.out.size))
        clear hrc hb3 x0 x1 x2 x3 x4 c0
        have z0 := HZ3.out.cell 0
        have z1 := HZ3.out.cell 1
        have z2 := HZ3.out.cell 2
        have z3 := HZ3.out.cell 3
        have f0 := HZ3.out.frozen 0
        have f1 := HZ3.out.frozen 1
        have f2 := HZ3.out.frozen 2
        have f3 := HZ3.out.frozen 3
        have hz3 := HZ3.out.lt
        go_wp2
        have h4 := set4 HZ3.out (.int .i64 93) (.int .i64 0) (.string ⟨#[]⟩) (.slice none 0 0)
        have hf := tab_left HT3.out (Kept.of_below HB3.out _) HZ3.out (by omega) hg h4.2
        generalize ((((w3.setCell ⟨w.heap.size + 1, 0, none⟩ (.int .i64 93)).setCell ⟨w.heap.size + 1, 1, none⟩ (.int .i64 0)).setCell ⟨w.heap.size + 1, 2, none⟩ (.string ⟨#[]⟩)).setCell ⟨w.heap.size + 1, 3, none⟩ (.slice none 0 0)) = w4 at *
        have g0 := h4.1.cell 0
        have g1 := h4.1.cell 1
        have g2 := h4.1.cell 2
        have g3 := h4.1.cell 3
        refine bodyPost_ret (v := resV 93 0 ⟨#[]⟩) ?_ rfl ⟨by rw [HE.out]; rfl, by rw [HE.out]; rfl, by rw [HE.out]; exact hf.1, hf.2⟩
        simp [results, Tryz.results66, go_sem, resV, g0, g1, g2, g3]
      · have HE := Lib.hid (show writeT l ⟨kd, key, val, st, te, mo⟩ = (refT 0 st, spl l p (p + 1) [⟨key, st, val⟩]) by unfold writeT; rw [if_pos hq, if_neg hk1, HRT.out, if_neg hk2, if_neg hk3, HP.out])
        have q4 : decide ((4096 : Int) < (val.size : Int)) = false := decide_eq_false (by omega)
        clear hk1 hk2 hk3
        go_wp2_with (fail)
        go_quiet (fail)
        replace HZ2 := Lib.hid (HZ2.out.drewN nq)
        replace HX2 := Lib.hid (HX2.out.drewN nq)
        replace HT2 := Lib.hid (show TabAt (w2.drewN nq) g l from HT2.out.below (below_drewN (Below.refl _ w2) nq))
        replace HB2 := Lib.hid (below_drewN HB2.out nq)
        replace x0 : (w2.drewN nq).cell? ⟨w.heap.size, 0, none⟩ = some (.int .i64 kd) := x0
        replace x1 : (w2.drewN nq).cell? ⟨w.heap.size, 1, none⟩ = some (.string key) := x1
        replace x2 : (w2.drewN nq).cell? ⟨w.heap.size, 2, none⟩ = some (.string val) := x2
        replace x3 : (w2.drewN nq).cell? ⟨w.heap.size, 3, none⟩ = some (.int .i64 st) := x3
        replace x4 : (w2.drewN nq).cell? ⟨w.heap.size, 4, none⟩ = some (.int .i64 te) := x4
        replace c0 : (w2.drewN nq).cell? ⟨g, 0, none⟩ = some (.slice (some ad) l.length tc) := c0
        replace y1 : (w2.drewN nq).cell? ⟨(ad.add (p * 3)).block, (ad.add (p * 3)).off + 1, none⟩ = some (.int .i64 s) := y1
        replace hzl : w.heap.size + 1 < (w2.drewN nq).heap.size := hzl
        generalize w2.drewN nq = w2 at *
        have HT3 := Lib.hid (HT2.out.below ((Below.refl _ w2).alloc (Nat.le_refl _) (.cells #[.string key, .int .i64 st, .string val] 115)))
        have HR3 := Lib.hid (SegG.of_row (Row.lit1 RowT.cells w2 115 3 ⟨key, st, val⟩ #[.string key, .int .i64 st, .string val] rfl rfl))
        have HB3 := Lib.hid (HB2.out.alloc HB2.out.size (.cells #[.string key, .int .i64 st, .string val] 115))
        have HZ0 := Lib.hid (HZ2.out.alloc (.cells #[.string key, .int .i64 st, .string val] 115))
        have HX0 := Lib.hid (HX2.out.alloc (.cells #[.string key, .int .i64 st, .string val] 115))
        have hsp := tab_splice g l [⟨key, st, val⟩] p (p + 1) _ _ HT3.out (by omega) (by omega) HR3.out (by omega) (by simp)
        rw [show (((p + 1 : Nat)) : Int) = (p : Int) + 1 from rfl] at hsp
        go_wp2_with (fail)
        generalize (w2.alloc (.cells #[.string key, .int .i64 st, .string val] 115)) = wb at *
        refine hsp.mono ?_
        rintro e w3 ⟨rfl, ht3, hk3⟩
        have HX3 := Lib.hid (HX0.out.kept hk3 (by omega))
        have x3' := HX3.out.cell 3
        have HZ3 := Lib.hid (show Blk w3 (w.heap.size + 1) 87 _ from HZ0.out.kept hk3 (by omega))
        have HK3 := Lib.hid ((Kept.of_below HB3.out fun k => k = g).trans hk3)
        have HT4 := Lib.hid ht3
        clear hsp hk3 ht3 x0 x1 x2 x3 x4 c0
        have z0 := HZ3.out.cell 0
        have z1 := HZ3.out.cell 1
        have z2 := HZ3.out.cell 2
        have z3 := HZ3.out.cell 3
        have f0 := HZ3.out.frozen 0
        have f1 := HZ3.out.frozen 1
        have f2 := HZ3.out.frozen 2
        have f3 := HZ3.out.frozen 3
        have hz3 := HZ3.out.lt
        go_wp2
        have h4 := set4 HZ3.out (.int .i64 0) (.int .i64 st) (.string ⟨#[]⟩) (.slice none 0 0)
        have hf := tab_left HT4.out HK3.out HZ3.out (by omega) hg h4.2
        generalize ((((w3.setCell ⟨w.heap.size + 1, 0, none⟩ (.int .i64 0)).setCell ⟨w.heap.size + 1, 1, none⟩ (.int .i64 st)).setCell ⟨w.heap.size + 1, 2, none⟩ (.string ⟨#[]⟩)).setCell ⟨w.heap.size + 1, 3, none⟩ (.slice none 0 0)) = w4 at *
        have g0 := h4.1.cell 0
        have g1 := h4.1.cell 1
        have g2 := h4.1.cell 2
        have g3 := h4.1.cell 3
        refine bodyPost_ret (v := resV 0 st ⟨#[]⟩) ?_ rfl ⟨by rw [HE.out]; rfl, by rw [HE.out]; rfl, by rw [HE.out]; exact hf.1, hf.2⟩
        simp [results, Tryz.results66, go_sem, resV, g0, g1, g2, g3]
  | false =>
    rw [HP.out]
    rcases (show (kd = 2) ∨ (kd ≠ 2 ∧ te ≠ 0) ∨ (kd ≠ 2 ∧ te = 0) by omega) with hh | hh | hh
    · have q5 : (kd == 2) = true := by simp; omega
      have HE := Lib.hid (show writeT l ⟨kd, key, val, st, te, mo⟩ = (refT 91 0, l) by unfold writeT; rw [if_neg (by rw [hq]; decide), if_pos (show kd = 2 ∨ te ≠ 0 by omega)])
      clear hh
      go_wp2_with (fail)
      go_quiet (fail)
      replace HZ2 := Lib.hid (HZ2.out.drewN nq)
      replace HX2 := Lib.hid (HX2.out.drewN nq)
      replace HT2 := Lib.hid (show TabAt (w2.drewN nq) g l from HT2.out.below (below_drewN (Below.refl _ w2) nq))
      replace HB2 := Lib.hid (below_drewN HB2.out nq)
      replace x0 : (w2.drewN nq).cell? ⟨w.heap.size, 0, none⟩ = some (.int .i64 kd) := x0
      replace x1 : (w2.drewN nq).cell? ⟨w.heap.size, 1, none⟩ = some (.string key) := x1
      replace x2 : (w2.drewN nq).cell? ⟨w.heap.size, 2, none⟩ = some (.string val) := x2
      replace x3 : (w2.drewN nq).cell? ⟨w.heap.size, 3, none⟩ = some (.int .i64 st) := x3
      replace x4 : (w2.drewN nq).cell? ⟨w.heap.size, 4, none⟩ = some (.int .i64 te) := x4
      replace c0 : (w2.drewN nq).cell? ⟨g, 0, none⟩ = some (.slice tA l.length tc) := c0
      replace hzl : w.heap.size + 1 < (w2.drewN nq).heap.size := hzl
      generalize w2.drewN nq = w2 at *
      have hrc := fun W => refused_calls 91 0 W
      go_wp2_with (fail)
      refine (hrc _).mono ?_
      rintro e w3 ⟨rfl, hb3⟩
      have HZ3 := Lib.hid (HZ2.out.kept (Kept.of_below (S := fun _ => False) hb3) (fun h => h))
      have HT3 := Lib.hid (HT2.out.below hb3)
      have HB3 := Lib.hid (HB2.out.trans (hb3.mono HB2.out.size))
      clear hrc hb3 x0 x1 x2 x3 x4 c0
      have z0 := HZ3.out.cell 0
      have z1 := HZ3.out.cell 1
      have z2 := HZ3.out.cell 2
      have z3 := HZ3.out.cell 3
      have f0 := HZ3.out.frozen 0
      have f1 := HZ3.out.frozen 1
      have f2 := HZ3.out.frozen 2
      have f3 := HZ3.out.frozen 3
      have hz3 := HZ3.out.lt
      go_wp2
      have h4 := set4 HZ3.out (.int .i64 91) (.int .i64 0) (.string ⟨#[]⟩) (.slice none 0 0)
      have hf := tab_left HT3.out (Kept.of_below HB3.out _) HZ3.out (by omega) hg h4.2
      generalize ((((w3.setCell ⟨w.heap.size + 1, 0, none⟩ (.int .i64 91)).setCell ⟨w.heap.size + 1, 1, none⟩ (.int .i64 0)).setCell ⟨w.heap.size + 1, 2, none⟩ (.string ⟨#[]⟩)).setCell ⟨w.heap.size + 1, 3, none⟩ (.slice none 0 0)) = w4 at *
      have g0 := h4.1.cell 0
      have g1 := h4.1.cell 1
      have g2 := h4.1.cell 2
      have g3 := h4.1.cell 3
      refine bodyPost_ret (v := resV 91 0 ⟨#[]⟩) ?_ rfl ⟨by rw [HE.out]; rfl, by rw [HE.out]; rfl, by rw [HE.out]; exact hf.1, hf.2⟩
      simp [results, Tryz.results66, go_sem, resV, g0, g1, g2, g3]
    · have q5 : (kd == 2) = false := by simp; omega
      have q6 : (te != 0) = true := by simp; omega
      have HE := Lib.hid (show writeT l ⟨kd, key, val, st, te, mo⟩ = (refT 91 0, l) by unfold writeT; rw [if_neg (by rw [hq]; decide), if_pos (show kd = 2 ∨ te ≠ 0 by omega)])
      clear hh
      go_wp2_with (fail)
      go_quiet (fail)
      replace HZ2 := Lib.hid (HZ2.out.drewN nq)
      replace HX2 := Lib.hid (HX2.out.drewN nq)
      replace HT2 := Lib.hid (show TabAt (w2.drewN nq) g l from HT2.out.below (below_drewN (Below.refl _ w2) nq))
      replace HB2 := Lib.hid (below_drewN HB2.out nq)
      replace x0 : (w2.drewN nq).cell? ⟨w.heap.size, 0, none⟩ = some (.int .i64 kd) := x0
      replace x1 : (w2.drewN nq).cell? ⟨w.heap.size, 1, none⟩ = some (.string key) := x1
      replace x2 : (w2.drewN nq).cell? ⟨w.heap.size, 2, none⟩ = some (.string val) := x2
      replace x3 : (w2.drewN nq).cell? ⟨w.heap.size, 3, none⟩ = some (.int .i64 st) := x3
      replace x4 : (w2.drewN nq).cell? ⟨w.heap.size, 4, none⟩ = some (.int .i64 te) := x4
      replace c0 : (w2.drewN nq).cell? ⟨g, 0, none⟩ = some (.slice tA l.length tc) := c0
      replace hzl : w.heap.size + 1 < (w2.drewN nq).heap.size := hzl
      generalize w2.drewN nq = w2 at *
      have hrc := fun W => refused_calls 91 0 W
      go_wp2_with (fail)
      refine (hrc _).mono ?_
      rintro e w3 ⟨rfl, hb3⟩
      have HZ3 := Lib.hid (HZ2.out.kept (Kept.of_below (S := fun _ => False) hb3) (fun h => h))
      have HT3 := Lib.hid (HT2.out.below hb3)
      have HB3 := Lib.hid (HB2.out.trans (hb3.mono HB2.out.size))
      clear hrc hb3 x0 x1 x2 x3 x4 c0
      have z0 := HZ3.out.cell 0
      have z1 := HZ3.out.cell 1
      have z2 := HZ3.out.cell 2
      have z3 := HZ3.out.cell 3
      have f0 := HZ3.out.frozen 0
      have f1 := HZ3.out.frozen 1
      have f2 := HZ3.out.frozen 2
      have f3 := HZ3.out.frozen 3
      have hz3 := HZ3.out.lt
      go_wp2
      have h4 := set4 HZ3.out (.int .i64 91) (.int .i64 0) (.string ⟨#[]⟩) (.slice none 0 0)
      have hf := tab_left HT3.out (Kept.of_below HB3.out _) HZ3.out (by omega) hg h4.2
      generalize ((((w3.setCell ⟨w.heap.size + 1, 0, none⟩ (.int .i64 91)).setCell ⟨w.heap.size + 1, 1, none⟩ (.int .i64 0)).setCell ⟨w.heap.size + 1, 2, none⟩ (.string ⟨#[]⟩)).setCell ⟨w.heap.size + 1, 3, none⟩ (.slice none 0 0)) = w4 at *
      have g0 := h4.1.cell 0
      have g1 := h4.1.cell 1
      have g2 := h4.1.cell 2
      have g3 := h4.1.cell 3
      refine bodyPost_ret (v := resV 91 0 ⟨#[]⟩) ?_ rfl ⟨by rw [HE.out]; rfl, by rw [HE.out]; rfl, by rw [HE.out]; exact hf.1, hf.2⟩
      simp [results, Tryz.results66, go_sem, resV, g0, g1, g2, g3]
    · have q5 : (kd == 2) = false := by simp; omega
      have q6 : (te != 0) = false := by simp; omega
      have hk2 : ¬ (kd = 2 ∨ te ≠ 0) := by omega
      clear hh
      by_cases hk3 : 4096 < val.size
      · have HE := Lib.hid (show writeT l ⟨kd, key, val, st, te, mo⟩ = (refT 93 0, l) by unfold writeT; rw [if_neg (by rw [hq]; decide), if_neg hk2, if_pos hk3])
        have q4 : decide ((4096 : Int) < (val.size : Int)) = true := decide_eq_true (by omega)
        clear hk2 hk3
        go_wp2_with (fail)
        go_quiet (fail)
        replace HZ2 := Lib.hid (HZ2.out.drewN nq)
        replace HX2 := Lib.hid (HX2.out.drewN nq)
        replace HT2 := Lib.hid (show TabAt (w2.drewN nq) g l from HT2.out.below (below_drewN (Below.refl _ w2) nq))
        replace HB2 := Lib.hid (below_drewN HB2.out nq)
        replace x0 : (w2.drewN nq).cell? ⟨w.heap.size, 0, none⟩ = some (.int .i64 kd) := x0
        replace x1 : (w2.drewN nq).cell? ⟨w.heap.size, 1, none⟩ = some (.string key) := x1
        replace x2 : (w2.drewN nq).cell? ⟨w.heap.size, 2, none⟩ = some (.string val) := x2
        replace x3 : (w2.drewN nq).cell? ⟨w.heap.size, 3, none⟩ = some (.int .i64 st) := x3
        replace x4 : (w2.drewN nq).cell? ⟨w.heap.size, 4, none⟩ = some (.int .i64 te) := x4
        replace c0 : (w2.drewN nq).cell? ⟨g, 0, none⟩ = some (.slice tA l.length tc) := c0
        replace hzl : w.heap.size + 1 < (w2.drewN nq).heap.size := hzl
        generalize w2.drewN nq = w2 at *
        have hrc := fun W => refused_calls 93 0 W
        go_wp2_with (fail)
        refine (hrc _).mono ?_
        rintro e w3 ⟨rfl, hb3⟩
        have HZ3 := Lib.hid (HZ2.out.kept (Kept.of_below (S := fun _ => False) hb3) (fun h => h))
        have HT3 := Lib.hid (HT2.out.below hb3)
        have HB3 := Lib.hid (HB2.out.trans (hb3.mono HB2.out.size))
        clear hrc hb3 x0 x1 x2 x3 x4 c0
        have z0 := HZ3.out.cell 0
        have z1 := HZ3.out.cell 1
        have z2 := HZ3.out.cell 2
        have z3 := HZ3.out.cell 3
        have f0 := HZ3.out.frozen 0
        have f1 := HZ3.out.frozen 1
        have f2 := HZ3.out.frozen 2
        have f3 := HZ3.out.frozen 3
        have hz3 := HZ3.out.lt
        go_wp2
        have h4 := set4 HZ3.out (.int .i64 93) (.int .i64 0) (.string ⟨#[]⟩) (.slice none 0 0)
        have hf := tab_left HT3.out (Kept.of_below HB3.out _) HZ3.out (by omega) hg h4.2
        generalize ((((w3.setCell ⟨w.heap.size + 1, 0, none⟩ (.int .i64 93)).setCell ⟨w.heap.size + 1, 1, none⟩ (.int .i64 0)).setCell ⟨w.heap.size + 1, 2, none⟩ (.string ⟨#[]⟩)).setCell ⟨w.heap.size + 1, 3, none⟩ (.slice none 0 0)) = w4 at *
        have g0 := h4.1.cell 0
        have g1 := h4.1.cell 1
        have g2 := h4.1.cell 2
        have g3 := h4.1.cell 3
        refine bodyPost_ret (v := resV 93 0 ⟨#[]⟩) ?_ rfl ⟨by rw [HE.out]; rfl, by rw [HE.out]; rfl, by rw [HE.out]; exact hf.1, hf.2⟩
        simp [results, Tryz.results66, go_sem, resV, g0, g1, g2, g3]
      · have q4 : decide ((4096 : Int) < (val.size : Int)) = false := decide_eq_false (by omega)
        by_cases hk4 : 4096 ≤ l.length
        · have HE := Lib.hid (show writeT l ⟨kd, key, val, st, te, mo⟩ = (refT 22 0, l) by unfold writeT; rw [if_neg (by rw [hq]; decide), if_neg hk2, if_neg hk3, if_pos hk4])
          have q7 : decide ((4096 : Int) ≤ (l.length : Int)) = true := decide_eq_true (by omega)
          clear hk2 hk3 hk4
          go_wp2_with (fail)
          go_quiet (fail)
          replace HZ2 := Lib.hid (HZ2.out.drewN nq)
          replace HX2 := Lib.hid (HX2.out.drewN nq)
          replace HT2 := Lib.hid (show TabAt (w2.drewN nq) g l from HT2.out.below (below_drewN (Below.refl _ w2) nq))
          replace HB2 := Lib.hid (below_drewN HB2.out nq)
          replace x0 : (w2.drewN nq).cell? ⟨w.heap.size, 0, none⟩ = some (.int .i64 kd) := x0
          replace x1 : (w2.drewN nq).cell? ⟨w.heap.size, 1, none⟩ = some (.string key) := x1
          replace x2 : (w2.drewN nq).cell? ⟨w.heap.size, 2, none⟩ = some (.string val) := x2
          replace x3 : (w2.drewN nq).cell? ⟨w.heap.size, 3, none⟩ = some (.int .i64 st) := x3
          replace x4 : (w2.drewN nq).cell? ⟨w.heap.size, 4, none⟩ = some (.int .i64 te) := x4
          replace c0 : (w2.drewN nq).cell? ⟨g, 0, none⟩ = some (.slice tA l.length tc) := c0
          replace hzl : w.heap.size + 1 < (w2.drewN nq).heap.size := hzl
          generalize w2.drewN nq = w2 at *
          have hrc := fun W => refused_calls 22 0 W
          go_wp2_with (fail)
          refine (hrc _).mono ?_
          rintro e w3 ⟨rfl, hb3⟩
          have HZ3 := Lib.hid (HZ2.out.kept (Kept.of_below (S := fun _ => False) hb3) (fun h => h))
          have HT3 := Lib.hid (HT2.out.below hb3)
          have HB3 := Lib.hid (HB2.out.trans (hb3.mono HB2.out.size))
          clear hrc hb3 x0 x1 x2 x3 x4 c0
          have z0 := HZ3.out.cell 0
          have z1 := HZ3.out.cell 1
          have z2 := HZ3.out.cell 2
          have z3 := HZ3.out.cell 3
          have f0 := HZ3.out.frozen 0
          have f1 := HZ3.out.frozen 1
          have f2 := HZ3.out.frozen 2
          have f3 := HZ3.out.frozen 3
          have hz3 := HZ3.out.lt
          go_wp2
          have h4 := set4 HZ3.out (.int .i64 22) (.int .i64 0) (.string ⟨#[]⟩) (.slice none 0 0)
          have hf := tab_left HT3.out (Kept.of_below HB3.out _) HZ3.out (by omega) hg h4.2
          generalize ((((w3.setCell ⟨w.heap.size + 1, 0, none⟩ (.int .i64 22)).setCell ⟨w.heap.size + 1, 1, none⟩ (.int .i64 0)).setCell ⟨w.heap.size + 1, 2, none⟩ (.string ⟨#[]⟩)).setCell ⟨w.heap.size + 1, 3, none⟩ (.slice none 0 0)) = w4 at *
          have g0 := h4.1.cell 0
          have g1 := h4.1.cell 1
          have g2 := h4.1.cell 2
          have g3 := h4.1.cell 3
          refine bodyPost_ret (v := resV 22 0 ⟨#[]⟩) ?_ rfl ⟨by rw [HE.out]; rfl, by rw [HE.out]; rfl, by rw [HE.out]; exact hf.1, hf.2⟩
          simp [results, Tryz.results66, go_sem, resV, g0, g1, g2, g3]
        · have HE := Lib.hid (show writeT l ⟨kd, key, val, st, te, mo⟩ = (refT 0 st, spl l p p [⟨key, st, val⟩]) by unfold writeT; rw [if_neg (by rw [hq]; decide), if_neg hk2, if_neg hk3, if_neg hk4, HP.out])
          have q7 : decide ((4096 : Int) ≤ (l.length : Int)) = false := decide_eq_false (by omega)
          clear hk2 hk3 hk4
          go_wp2_with (fail)
          go_quiet (fail)
          replace HZ2 := Lib.hid (HZ2.out.drewN nq)
          replace HX2 := Lib.hid (HX2.out.drewN nq)
          replace HT2 := Lib.hid (show TabAt (w2.drewN nq) g l from HT2.out.below (below_drewN (Below.refl _ w2) nq))
          replace HB2 := Lib.hid (below_drewN HB2.out nq)
          replace x0 : (w2.drewN nq).cell? ⟨w.heap.size, 0, none⟩ = some (.int .i64 kd) := x0
          replace x1 : (w2.drewN nq).cell? ⟨w.heap.size, 1, none⟩ = some (.string key) := x1
          replace x2 : (w2.drewN nq).cell? ⟨w.heap.size, 2, none⟩ = some (.string val) := x2
          replace x3 : (w2.drewN nq).cell? ⟨w.heap.size, 3, none⟩ = some (.int .i64 st) := x3
          replace x4 : (w2.drewN nq).cell? ⟨w.heap.size, 4, none⟩ = some (.int .i64 te) := x4
          replace c0 : (w2.drewN nq).cell? ⟨g, 0, none⟩ = some (.slice tA l.length tc) := c0
          replace hzl : w.heap.size + 1 < (w2.drewN nq).heap.size := hzl
          generalize w2.drewN nq = w2 at *
          have HT3 := Lib.hid (HT2.out.below ((Below.refl _ w2).alloc (Nat.le_refl _) (.cells #[.string key, .int .i64 st, .string val] 115)))
          have HR3 := Lib.hid (SegG.of_row (Row.lit1 RowT.cells w2 115 3 ⟨key, st, val⟩ #[.string key, .int .i64 st, .string val] rfl rfl))
          have HB3 := Lib.hid (HB2.out.alloc HB2.out.size (.cells #[.string key, .int .i64 st, .string val] 115))
          have HZ0 := Lib.hid (HZ2.out.alloc (.cells #[.string key, .int .i64 st, .string val] 115))
          have HX0 := Lib.hid (HX2.out.alloc (.cells #[.string key, .int .i64 st, .string val] 115))
          have hsp := tab_splice g l [⟨key, st, val⟩] p p _ _ HT3.out (by omega) (by omega) HR3.out (by omega) (by simp)
          go_wp2_with (fail)
          generalize (w2.alloc (.cells #[.string key, .int .i64 st, .string val] 115)) = wb at *
          refine hsp.mono ?_
          rintro e w3 ⟨rfl, ht3, hk3⟩
          have HX3 := Lib.hid (HX0.out.kept hk3 (by omega))
          have x3' := HX3.out.cell 3
          have HZ3 := Lib.hid (show Blk w3 (w.heap.size + 1) 87 _ from HZ0.out.kept hk3 (by omega))
          have HK3 := Lib.hid ((Kept.of_below HB3.out fun k => k = g).trans hk3)
          have HT4 := Lib.hid ht3
          clear hsp hk3 ht3 x0 x1 x2 x3 x4 c0
          have z0 := HZ3.out.cell 0
          have z1 := HZ3.out.cell 1
          have z2 := HZ3.out.cell 2
          have z3 := HZ3.out.cell 3
          have f0 := HZ3.out.frozen 0
          have f1 := HZ3.out.frozen 1
          have f2 := HZ3.out.frozen 2
          have f3 := HZ3.out.frozen 3
          have hz3 := HZ3.out.lt
          go_wp2
          have h4 := set4 HZ3.out (.int .i64 0) (.int .i64 st) (.string ⟨#[]⟩) (.slice none 0 0)
          have hf := tab_left HT4.out HK3.out HZ3.out (by omega) hg h4.2
          generalize ((((w3.setCell ⟨w.heap.size + 1, 0, none⟩ (.int .i64 0)).setCell ⟨w.heap.size + 1, 1, none⟩ (.int .i64 st)).setCell ⟨w.heap.size + 1, 2, none⟩ (.string ⟨#[]⟩)).setCell ⟨w.heap.size + 1, 3, none⟩ (.slice none 0 0)) = w4 at *
          have g0 := h4.1.cell 0
          have g1 := h4.1.cell 1
          have g2 := h4.1.cell 2
          have g3 := h4.1.cell 3
          refine bodyPost_ret (v := resV 0 st ⟨#[]⟩) ?_ rfl ⟨by rw [HE.out]; rfl, by rw [HE.out]; rfl, by rw [HE.out]; exact hf.1, hf.2⟩
          simp [results, Tryz.results66, go_sem, resV, g0, g1, g2, g3]
end Go.Proofs.YtdfdlajfjcakaaaGreat
