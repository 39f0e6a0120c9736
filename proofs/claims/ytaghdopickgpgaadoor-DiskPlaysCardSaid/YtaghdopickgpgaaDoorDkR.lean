import Derived.Test.YtaghdopickgpgaaDoorDkQ
namespace Go.Proofs.YtaghdopickgpgaaDoor
open Go Go.RowKit
set_option linter.unusedVariables false
set_option linter.unusedSimpArgs false

theorem toList_beq (x y : ByteArray) : (x.toList == y.toList) = decide (x = y) := by
  rw [Bool.eq_iff_iff, beq_iff_eq, decide_eq_true_iff, Lib.toList_data, Lib.toList_data]
  exact ⟨fun e => ByteArray.ext (Array.toList_inj.1 e), fun e => by rw [e]⟩
theorem drop_eq_iff {α : Type} (l m : List α) (k : Nat) (hk : k < l.length) (hk2 : k < m.length) : (l.drop k = m.drop k) ↔ (l[k] = m[k] ∧ l.drop (k + 1) = m.drop (k + 1)) := by
  rw [List.drop_eq_getElem_cons hk, List.drop_eq_getElem_cons hk2, List.cons.injEq]
set_option maxRecDepth 100000 in
set_option maxHeartbeats 2000000 in
theorem same_texts (v v' : Value) (l m : List ByteArray) (w : World) (h : SegG w scells v l) (h' : SegG w scells v' m) (hl : l.length ≤ 4611686018427387904) (hm : m.length ≤ 4611686018427387904) :
    Calls Tryd.prog 25 #[v, v'] w fun e w' => e = .returned (.bool (decide (l = m))) ∧ Below w.heap.size w w' := by
  obtain ⟨A, c, rfl, _⟩ := h.shape
  obtain ⟨A', c', rfl, _⟩ := h'.shape
  by_cases hlm : l.length = m.length
  · have H := Lib.hid h
    have H' := Lib.hid h'
    rw [← hlm]
    rw [← hlm] at H'
    clear h h'
    go_enter Tryd.func25, Tryd.ntmps25
    go_wp2_with (fail)
    go_loopg [5] l.length (fun gg s5 wr => ∃ (k : Nat), k ≤ l.length ∧ l.length - k ≤ gg ∧ s5 = .int .i64 k ∧ Hid (Below w.heap.size w wr) ∧ Hid (l = m ↔ l.drop k = m.drop k))
    case atStart => exact ⟨0, Nat.zero_le _, by omega, by go_num, Lib.hid (Below.refl _ _), Lib.hid (by simp)⟩
    case round =>
      obtain ⟨k, hk, hgg, rfl, HB, HE⟩ := hrel
      by_cases hlt' : k < l.length
      · have hlt2 : k < m.length := by omega
        obtain ⟨ad, c1, hv, _⟩ := H.out.form (by omega)
        injection hv with hA _ hc
        subst hA hc
        have r := H.out.below HB.out
        have c0 := r.cell (sz := 1) (fun _ => rfl) k 0 hlt' (by omega)
        have H2 := H'.out
        rw [hlm] at H2
        obtain ⟨ad', c1', hv, _⟩ := H2.form (by omega)
        injection hv with hA _ hc
        subst hA hc
        have r' := H2.below HB.out
        have d0 := r'.cell (sz := 1) (fun _ => rfl) k 0 hlt2 (by omega)
        have HD := Lib.hid (drop_eq_iff l m k hlt' hlt2)
        generalize l[k] = x at c0 HD
        generalize m[k] = y at d0 HD
        simp only [scells, adr, List.getElem?_cons_zero, Nat.mul_one] at c0 d0
        have hlz : (k : Int) < (l.length : Int) := by omega
        have hle : (l.length : Int) ≤ 4611686018427387904 := by omega
        clear r r' H2 hm hlm hlt2
        go_wp2_with (fail)
        go_quiet (fail)
        by_cases hxy : x = y
        · have HX := Lib.hid (HD.out.trans (and_iff_right hxy))
          rw [toList_beq, decide_eq_true hxy]
          clear HD c0 d0 hxy
          go_wp2
          go_roundg (l.length - (k + 1))
          case measure => omega
          case rel => exact ⟨k + 1, by omega, Nat.le_refl _, by go_num, Lib.hid (pw_drewN HB.out _), Lib.hid (HE.out.trans HX.out)⟩
        · have HX : Hid (¬ l = m) := Lib.hid fun e => hxy (HD.out.1 (HE.out.1 e)).1
          rw [toList_beq, decide_eq_false hxy]
          clear HD c0 d0 hxy
          go_wp2
          go_ret
          exact ⟨ret_bool (by rw [decide_eq_false HX.out]), pw_drewN HB.out _⟩
      · go_wp2
        go_ret
        exact ⟨ret_bool (by rw [decide_eq_true (HE.out.2 (by rw [List.drop_of_length_le (by omega), List.drop_of_length_le (by omega)]))]), HB.out⟩
  · have hne : ¬ l = m := fun e => hlm (by rw [e])
    have hne2 : ¬ ((l.length : Int) = (m.length : Int)) := by omega
    rw [decide_eq_false hne]
    clear h h' hne hlm
    go_enter Tryd.func25, Tryd.ntmps25
    go_wp2
    go_ret
    exact ⟨rfl, Below.refl _ _⟩
end Go.Proofs.YtaghdopickgpgaaDoor
