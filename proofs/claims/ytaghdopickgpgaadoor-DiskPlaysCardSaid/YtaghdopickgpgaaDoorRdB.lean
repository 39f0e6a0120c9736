import Derived.Sort.Walk0
import Derived.Test.YtaghdopickgpgaaDoorRdA
namespace Go.Proofs.YtaghdopickgpgaaDoor
open Go Go.RowKit
set_option linter.unusedVariables false
set_option linter.unusedSimpArgs false

set_option maxRecDepth 100000 in
set_option maxHeartbeats 1000000 in
theorem refd_ready (G : Nat → Prop) (g : Nat) (s : DkS) (w : World) (h : RkAt w G g s) (hl : 0 ≤ s.left) (hh : s.left ≤ 9223372036854775807) :
    Calls Tryd.prog 54 #[.pointer (some ⟨g, 0, none⟩)] w fun e w' => e = .returned (.bool (!s.tick.down)) ∧ RkPost w G g s.tick w' := by
  obtain ⟨room, used, fs, fused, down, left⟩ := s
  have H := Lib.hid h
  obtain ⟨vl, lf, hb, h1, hlf, hg, f1⟩ := h
  have hlt := hb.lt
  have c2 := hb.cell 2
  have c3 := hb.cell 3
  have c4 := hb.cell 4
  have z3 := hb.frozen 3
  have z4 := hb.frozen 4
  have hnv : ∀ k, vl.ownBlock = some k → k ≠ g := fun k e hk => h1.ne_blk hb (by decide) (hk ▸ e)
  cases down with
  | true =>
    have ht : DkS.tick ⟨room, used, fs, fused, true, left⟩ = ⟨room, used, fs, fused, true, left⟩ := by
      unfold DkS.tick
      split
      · rfl
      · rw [if_neg (by simp)]
    rw [ht]
    have HP : Hid (RkPost w G g ⟨room, used, fs, fused, true, left⟩ (w.setCell ⟨g, 4, none⟩ (.bool true))) := Lib.hid (by
      have hk := (Kept.refl w fun k => k = g).setCell (p := ⟨g, 4, none⟩) (.inl rfl) (.bool true)
      exact ⟨hk, vl, lf, hb.set_ 4 _, h1.kept hk (fun k e => hnv k e), hlf, hg, f1⟩)
    clear hb h1 ht
    go_enter Tryd.func54, Tryd.ntmps54
    go_wp2
    go_ret
    exact ⟨rfl, HP.out⟩
  | false =>
    cases fused with
    | false =>
      have ht : DkS.tick ⟨room, used, fs, false, false, left⟩ = ⟨room, used, fs, false, false, left⟩ := tick_free rfl
      rw [ht]
      clear hb h1 ht
      go_enter Tryd.func54, Tryd.ntmps54
      go_wp2
      go_ret
      exact ⟨rfl, Kept.refl _ _, H.out⟩
    | true =>
      obtain rfl : lf = left := hlf rfl
      simp only at hl hh
      by_cases h0 : lf = 0
      · have ht : DkS.tick ⟨room, used, fs, true, false, lf⟩ = ⟨room, used, fs, true, true, lf⟩ := by unfold DkS.tick; rw [if_pos (by simp [h0])]
        rw [ht]
        have HP : Hid (RkPost w G g ⟨room, used, fs, true, true, lf⟩ (w.setCell ⟨g, 4, none⟩ (.bool true))) := Lib.hid (by
          have hk := (Kept.refl w fun k => k = g).setCell (p := ⟨g, 4, none⟩) (.inl rfl) (.bool true)
          exact ⟨hk, vl, lf, hb.set_ 4 _, h1.kept hk (fun k e => hnv k e), hlf, hg, f1⟩)
        have q : (lf == 0) = true := beq_iff_eq.2 h0
        clear hb h1 ht h0
        go_enter Tryd.func54, Tryd.ntmps54
        go_wp2
        go_ret
        exact ⟨rfl, HP.out⟩
      · have ht : DkS.tick ⟨room, used, fs, true, false, lf⟩ = ⟨room, used, fs, true, false, lf - 1⟩ := by unfold DkS.tick; rw [if_neg (by simp [h0]), if_pos (by rfl)]
        rw [ht]
        have HP : Hid (RkPost w G g ⟨room, used, fs, true, false, lf - 1⟩ (w.setCell ⟨g, 3, none⟩ (.int .i64 (lf - 1)))) := Lib.hid (by
          have hk := (Kept.refl w fun k => k = g).setCell (p := ⟨g, 3, none⟩) (.inl rfl) (.int .i64 (lf - 1))
          exact ⟨hk, vl, lf - 1, hb.set_ 3 _, h1.kept hk (fun k e => hnv k e), fun _ => rfl, hg, f1⟩)
        have q : (lf == 0) = false := beq_eq_false_iff_ne.2 h0
        have hw : IntKind.i64.wrap (lf - 1) = lf - 1 := by rw [IntKind.wrap_i64]; omega
        clear hb h1 ht h0
        go_enter Tryd.func54, Tryd.ntmps54
        go_wp2
        go_ret
        exact ⟨rfl, HP.out⟩
theorem refd_fuse_bad (G : Nat → Prop) (g : Nat) (s : DkS) (n : Int) (w : World) (h : RkAt w G g s) (hn : n < 0) :
    Calls Tryd.prog 42 #[.pointer (some ⟨g, 0, none⟩), .int .i64 n] w fun e w' => e = .returned (.int .i64 1) ∧ w' = w := by
  go_enter Tryd.func42, Tryd.ntmps42
  go_wp2
  go_ret
  exact ⟨rfl, rfl⟩
theorem refd_fuse (G : Nat → Prop) (g : Nat) (s : DkS) (n : Int) (w : World) (h : RkAt w G g s) (hn : 0 ≤ n) :
    Calls Tryd.prog 42 #[.pointer (some ⟨g, 0, none⟩), .int .i64 n] w fun e w' => e = .returned (.int .i64 0) ∧ RkPost w G g { s with fused := true, left := n } w' := by
  obtain ⟨vl, lf, hb, h1, hlf, hg, f1⟩ := h
  have hlt := hb.lt
  have z2 := hb.frozen 2
  have z3 := hb.frozen 3
  have c2 := hb.cell 2
  have c3 := hb.cell 3
  have hq : ¬ n < 0 := by omega
  have hnv : ∀ k, vl.ownBlock = some k → k ≠ g := fun k e hk => h1.ne_blk hb (by decide) (hk ▸ e)
  have HF : Hid (RkPost w G g { s with fused := true, left := n } ((w.setCell ⟨g, 2, none⟩ (.bool true)).setCell ⟨g, 3, none⟩ (.int .i64 n))) := Lib.hid (by
    have hk := ((Kept.refl w fun k => k = g).setCell (p := ⟨g, 2, none⟩) (.inl rfl) (.bool true)).setCell (p := ⟨g, 3, none⟩) (.inl rfl) (.int .i64 n)
    exact ⟨hk, vl, n, (hb.set_ 2 _).set_ 3 _, h1.kept hk (fun k e => hnv k e), fun _ => rfl, hg, f1⟩)
  clear hb h1
  go_enter Tryd.func42, Tryd.ntmps42
  go_wp2
  go_ret
  exact ⟨rfl, HF.out⟩
/-! place -/
def posF (fs : Files) (k : ByteArray) : Nat := (fs.takeWhile fun p => ltB p.1 k).length
def hasF (fs : Files) (k : ByteArray) : Bool := match fs[posF fs k]? with | some p => decide (p.1 = k) | none => false
theorem tw_le {α : Type} (p : α → Bool) (l : List α) : (l.takeWhile p).length ≤ l.length := (List.takeWhile_prefix p).length_le
theorem posF_le (fs : Files) (k : ByteArray) : posF fs k ≤ fs.length := tw_le ..
theorem posF_lt (fs : Files) (k : ByteArray) (i : Nat) (h : i < posF fs k) : ∃ hi : i < fs.length, ltB fs[i].1 k = true := by
  unfold posF at h
  have hl := tw_le (fun p : ByteArray × DF => ltB p.1 k) fs
  refine ⟨by omega, ?_⟩
  have h1 : (fs.takeWhile fun p => ltB p.1 k)[i] = fs[i] := by
    have hp := List.takeWhile_prefix (fun p : ByteArray × DF => ltB p.1 k) (l := fs)
    exact hp.getElem h
  rw [← h1]
  exact List.all_eq_true.1 (List.all_takeWhile (p := fun p : ByteArray × DF => ltB p.1 k) (l := fs)) _ (List.getElem_mem h)
theorem posF_at (fs : Files) (k : ByteArray) (h : posF fs k < fs.length) : ltB fs[posF fs k].1 k = false := by
  unfold posF at h ⊢
  induction fs with
  | nil => simp at h
  | cons p fs ih =>
    by_cases hp : ltB p.1 k = true
    · have e : ((p :: fs).takeWhile fun p => ltB p.1 k) = p :: fs.takeWhile fun p => ltB p.1 k := List.takeWhile_cons_of_pos hp
      simp only [e, List.length_cons, List.getElem_cons_succ]
      exact ih (by simpa [e] using h)
    · have e : ((p :: fs).takeWhile fun p => ltB p.1 k) = [] := List.takeWhile_cons_of_neg hp
      simp only [e, List.length_nil, List.getElem_cons_zero]
      simpa using hp
theorem FE_at {w : World} {gb n c : Nat} {fs : Files} (h : Row w 79 3 FE (.slice (some ⟨gb, 0, none⟩) n c) fs) (i : Nat) (hi : i < fs.length) :
    w.cell? ⟨gb, i * 3, none⟩ = some (.string fs[i].1) ∧ w.cell? ⟨gb, i * 3 + 1, none⟩ = some (.string fs[i].2.has) ∧ w.cell? ⟨gb, i * 3 + 2, none⟩ = some (.int .i64 fs[i].2.safe) := by
  have a0 := h.cell (fun _ => rfl) i 0 hi (by omega)
  have a1 := h.cell (fun _ => rfl) i 1 hi (by omega)
  have a2 := h.cell (fun _ => rfl) i 2 hi (by omega)
  exact ⟨a0, a1, a2⟩
theorem less_txt (a b : ByteArray) : Op.bytesLess a.toList b.toList = ltB a b := by
  rw [Go.Proofs.bytesLess_eq, Lib.toList_data, Lib.toList_data]
  rfl
attribute [local go_sem] toList_beq less_txt
set_option maxRecDepth 100000 in
set_option maxHeartbeats 4000000 in
theorem refd_place (G : Nat → Prop) (g : Nat) (s : DkS) (k : ByteArray) (w : World) (h : RkAt w G g s) (hn : s.fs.length ≤ 64) :
    Calls Tryd.prog 53 #[.pointer (some ⟨g, 0, none⟩), .string k] w fun e w' => e = .returned (.tuple #[.int .i64 (posF s.fs k), .bool (hasF s.fs k)]) ∧ Below w.heap.size w w' := by
  obtain ⟨vl, lf, hb, h1, hlf, hg, f1⟩ := h
  have hlt := hb.lt
  obtain ⟨A, c, rfl⟩ := h1.shape
  have c1 := hb.cell 1
  have H1 := Lib.hid h1
  clear hb h1
  go_enter Tryd.func53, Tryd.ntmps53
  go_wp2_with (fail)
  go_loopg [6] s.fs.length (fun gg s6 wr => ∃ (i : Nat), i ≤ posF s.fs k ∧ s.fs.length - i ≤ gg ∧ s6 = .int .i64 i ∧ wr = w)
  case atStart => exact ⟨0, Nat.zero_le _, by omega, by go_num, rfl⟩
  case round =>
    obtain ⟨i, hi, hgg, rfl, rfl⟩ := hrel
    have hpl := posF_le s.fs k
    have hn64 : (s.fs.length : Int) ≤ 64 := by omega
    by_cases hlt' : i < posF s.fs k
    · obtain ⟨hil, hltb⟩ := posF_lt s.fs k i hlt'
      obtain ⟨gb, c', hv, hgl, hcl⟩ := H1.out.form (by omega)
      injection hv with hA _ hc
      subst hA hc
      have c0 := (FE_at H1.out i hil).1
      have hlz : (i : Int) < (s.fs.length : Int) := by omega
      generalize s.fs[i].1 = nm at c0 hltb
      go_wp2
      go_roundg (s.fs.length - (i + 1))
      case measure => omega
      case rel => exact ⟨i + 1, hlt', Nat.le_refl _, by go_num, rfl⟩
    · have hie : posF s.fs k = i := by omega
      clear hlt'
      by_cases hil : i < s.fs.length
      · obtain ⟨gb, c', hv, hgl, hcl⟩ := H1.out.form (by omega)
        injection hv with hA _ hc
        subst hA hc
        have c0 := (FE_at H1.out i hil).1
        have hltb := posF_at s.fs k (by omega)
        have hhas : hasF s.fs k = decide (s.fs[i].1 = k) := by
          unfold hasF
          rw [hie, List.getElem?_eq_getElem hil]
        simp only [hie] at hltb
        have hlz : (i : Int) < (s.fs.length : Int) := by omega
        generalize s.fs[i].1 = nm at c0 hltb hhas
        have HHAS := Lib.hid hhas
        have HIE := Lib.hid hie
        clear hhas hie
        go_wp2_with (fail)
        go_quiet (fail)
        go_wp2
        go_ret2
        exact ⟨by rw [HIE.out, HHAS.out]; rfl, pw_drewN (Below.refl _ _) _⟩
      · have hhas : hasF s.fs k = false := by
          unfold hasF
          rw [hie, List.getElem?_eq_none (by omega)]
        have HHAS := Lib.hid hhas
        have HIE := Lib.hid hie
        have hlz : ¬ (i : Int) < (s.fs.length : Int) := by omega
        clear hhas hie
        go_wp2_with (fail)
        go_quiet (fail)
        go_wp2
        go_ret2
        exact ⟨by rw [HIE.out, HHAS.out]; rfl, pw_drewN (Below.refl _ _) _⟩
end Go.Proofs.YtaghdopickgpgaaDoor
