import Derived.Test.YtpimpdgibcjbeaaRlZh
namespace Go.Proofs.Ytpimpdgibcjbeaa
open Go Go.RowKit
set_option linter.unusedVariables false
set_option linter.unusedSimpArgs false

theorem wrongE_may {prev term : Int} {l : List Ent} {i : Nat} (h : i < l.length) (hb : mayT (l[i]).term = false) : wrongE prev term l = 1 := by
  unfold wrongE
  rw [if_pos]
  rw [List.any_eq_true]
  exact ⟨_, List.getElem_mem h, by rw [hb]; rfl⟩
theorem any_may {l : List Ent} (h : ∀ i (h : i < l.length), mayT (l[i]).term = true) : l.any (fun x => !mayT x.term) = false := by
  rw [List.any_eq_false]
  intro x hx
  obtain ⟨i, hi, rfl⟩ := List.mem_iff_getElem.1 hx
  rw [h i hi]
  simp
theorem wrongE_risen {prev term : Int} {l : List Ent} (h : ∀ i (h : i < l.length), mayT (l[i]).term = true) (hr : risen term l = false) : wrongE prev term l = 150 := by
  unfold wrongE
  rw [any_may h, hr]
  rfl
theorem wrongE_size {prev term : Int} {l : List Ent} (h : ∀ i (h : i < l.length), mayT (l[i]).term = true) (hr : risen term l = true) {i : Nat} (hi : i < l.length) (hs : 4096 < (l[i]).data.size) : wrongE prev term l = 2 := by
  unfold wrongE
  rw [any_may h, hr]
  rw [if_neg (by simp), if_neg (by simp), if_pos]
  exact .inr (by rw [List.any_eq_true]; exact ⟨_, List.getElem_mem hi, decide_eq_true hs⟩)
theorem wrongE_end {prev term : Int} {l : List Ent} (h : ∀ i (h : i < l.length), mayT (l[i]).term = true) (hr : risen term l = true) (hs : ∀ i (h : i < l.length), (l[i]).data.size ≤ 4096) : wrongE prev term l = if 1048576 - prev < (l.length : Int) then 2 else 0 := by
  have h2 : l.any (fun x => decide (4096 < x.data.size)) = false := by
    rw [List.any_eq_false]
    intro x hx
    obtain ⟨i, hi, rfl⟩ := List.mem_iff_getElem.1 hx
    have := hs i hi
    simp only [decide_eq_true_eq]
    omega
  unfold wrongE
  rw [any_may h, hr, h2]
  simp
set_option maxRecDepth 100000 in
set_option maxHeartbeats 4000000 in
theorem ref_wrong (prev term : Int) (v : Value) (l : List Ent) (w : World) (hp : 0 ≤ prev ∧ prev ≤ 1048576) (hr : SegG w Ent.cells v l) (hl : l.length ≤ 4611686018427387904) :
    Calls Try.prog 48 #[.int .i64 prev, .int .i64 term, v] w fun e w' => e = .returned (.int .i64 (wrongE prev term l)) ∧ w' = w := by
  obtain ⟨A, c, rfl, _⟩ := hr.shape
  obtain ⟨er, her⟩ : ∃ er, wrongE prev term l = er := ⟨_, rfl⟩
  rw [her]
  have HER := Lib.hid her
  have HR := Lib.hid hr
  obtain ⟨n, hn⟩ : ∃ n, l.length = n := ⟨_, rfl⟩
  have HN := Lib.hid hn
  rw [hn] at hl ⊢
  clear her hr hn
  go_enter Try.func48, Try.ntmps48
  go_wp2_with (fail)
  go_loopg [7] n (fun gg s7 wr => ∃ (k : Nat), k ≤ n ∧ n - k ≤ gg ∧ s7 = .int .i64 k ∧ wr = w ∧ Hid (∀ i (h : i < l.length), i < k → mayT (l[i]).term = true))
  case atStart => exact ⟨0, Nat.zero_le _, by omega, rfl, rfl, Lib.hid (fun i h h0 => by omega)⟩
  case round =>
    obtain ⟨k, hk, hg, rfl, rfl, HA⟩ := hrel
    by_cases hlt : k < n
    · have hkl : k < l.length := by rw [HN.out]; exact hlt
      obtain ⟨gb, c', hv, _⟩ := HR.out.form (by omega)
      injection hv with hA hnn hc
      clear hnn
      subst hA hc
      have c0 := HR.out.cell (sz := 2) (fun _ => rfl) k 0 (by omega) (by omega)
      have HB := Lib.hid (fun h : mayT (l[k]'hkl).term = false => (wrongE_may (prev := prev) (term := term) hkl h).symm.trans HER.out)
      have HA2 := Lib.hid (fun h : mayT (l[k]'hkl).term = true => show ∀ i (h : i < l.length), i < k + 1 → mayT (l[i]).term = true from fun i hi hik => by
        rcases Nat.lt_or_ge i k with h' | h'
        · exact HA.out i hi h'
        · obtain rfl : i = k := by omega
          exact h)
      generalize l[k]'hkl = x at *
      simp only [Ent.cells, adr, List.getElem?_cons_zero, Nat.add_zero, Nat.mul_one] at c0
      have g1 : (k : Int) < (n : Int) := by omega
      have g0 : (0 : Int) ≤ (k : Int) := by omega
      clear hkl
      by_cases ht : 1 ≤ x.term ∧ x.term ≤ 1073741824
      · obtain ⟨t1, t2⟩ := ht
        have qt1 : decide (x.term < 1) = false := decide_eq_false (by omega)
        have qt2 : decide (1073741824 < x.term) = false := decide_eq_false (by omega)
        have HM := Lib.hid (show mayT x.term = true by unfold mayT; rw [decide_eq_true t1, decide_eq_true t2]; rfl)
        go_wp2
        go_roundg (n - (k + 1))
        case measure => omega
        case rel => exact ⟨k + 1, by omega, Nat.le_refl _, by go_num, rfl, Lib.hid (HA2.out HM.out)⟩
      · obtain rfl : er = 1 := (HB.out (by unfold mayT; rw [Bool.and_eq_false_iff, decide_eq_false_iff_not, decide_eq_false_iff_not]; omega)).symm
        have q12 : x.term < 1 ∨ 1 ≤ x.term ∧ 1073741824 < x.term := by omega
        clear ht
        rcases q12 with q | ⟨q1, q2⟩
        · go_wp2
          go_ret
          exact ⟨rfl, rfl⟩
        · have qt1 : decide (x.term < 1) = false := decide_eq_false (by omega)
          go_wp2
          go_ret
          exact ⟨rfl, rfl⟩
    · have g1 : ¬ ((k : Int) < (n : Int)) := by omega
      have HAll := Lib.hid (show ∀ i (h : i < l.length), mayT (l[i]).term = true from fun i hi => HA.out i hi (by have := HN.out; omega))
      clear HA hlt
      obtain ⟨wq, hwq⟩ : ∃ wq, wq = wr := ⟨_, rfl⟩
      subst wr
      go_wp2_with (fail)
      go_loopg [1, 8] n (fun gg s1 s8 wr => ∃ (k : Nat) (tk : Int), k ≤ n ∧ n - k ≤ gg ∧ s1 = .int .i64 tk ∧ s8 = .int .i64 k ∧ wr = wq ∧ Hid (risen term l = risen tk (l.drop k)))
      case atStart => exact ⟨0, term, Nat.zero_le _, by omega, rfl, rfl, rfl, Lib.hid rfl⟩
      case round =>
        obtain ⟨k, tk, hk, hg, rfl, rfl, hww, HI⟩ := hrel
        subst hww
        by_cases hlt : k < n
        · have hkl : k < l.length := by rw [HN.out]; exact hlt
          obtain ⟨gb, c', hv, _⟩ := HR.out.form (by omega)
          injection hv with hA hnn hc
          clear hnn
          subst hA hc
          have c0 := HR.out.cell (sz := 2) (fun _ => rfl) k 0 (by omega) (by omega)
          have HS := Lib.hid (show risen tk (l.drop k) = (decide (tk ≤ (l[k]'hkl).term) && risen (l[k]'hkl).term (l.drop (k + 1))) by rw [List.drop_eq_getElem_cons hkl]; rfl)
          generalize l[k]'hkl = x at *
          simp only [Ent.cells, adr, List.getElem?_cons_zero, Nat.add_zero, Nat.mul_one] at c0
          have g1 : (k : Int) < (n : Int) := by omega
          have g0 : (0 : Int) ≤ (k : Int) := by omega
          clear hkl
          by_cases hx : x.term < tk
          · have hrs : risen term l = false := by rw [HI.out, HS.out, decide_eq_false (by omega)]; rfl
            obtain rfl : er = 150 := by rw [← HER.out]; exact wrongE_risen HAll.out hrs
            clear hrs
            go_wp2
            go_ret
            exact ⟨rfl, rfl⟩
          · have HE := Lib.hid (show risen term l = risen x.term (l.drop (k + 1)) by rw [HI.out, HS.out, decide_eq_true (by omega)]; rfl)
            have q : decide (x.term < tk) = false := decide_eq_false hx
            clear hx
            go_wp2
            go_roundg (n - (k + 1))
            case measure => omega
            case rel => exact ⟨k + 1, x.term, by omega, Nat.le_refl _, rfl, by go_num, rfl, HE⟩
        · have g1 : ¬ ((k : Int) < (n : Int)) := by omega
          have HRS := Lib.hid (show risen term l = true by rw [HI.out, List.drop_eq_nil_of_le (by rw [HN.out]; omega)]; rfl)
          clear HI hlt
          obtain ⟨wz, hwz⟩ : ∃ wz, wz = wr := ⟨_, rfl⟩
          subst wr
          go_wp2_with (fail)
          go_loopg [9] n (fun gg s9 wr => ∃ (k : Nat), k ≤ n ∧ n - k ≤ gg ∧ s9 = .int .i64 k ∧ wr = wz ∧ Hid (∀ i (h : i < l.length), i < k → (l[i]).data.size ≤ 4096))
          case atStart => exact ⟨0, Nat.zero_le _, by omega, rfl, rfl, Lib.hid (fun i h h0 => by omega)⟩
          case round =>
            obtain ⟨k, hk, hg, rfl, hww, HA⟩ := hrel
            subst hww
            by_cases hlt : k < n
            · have hkl : k < l.length := by rw [HN.out]; exact hlt
              obtain ⟨gb, c', hv, _⟩ := HR.out.form (by omega)
              injection hv with hA hnn hc
              clear hnn
              subst hA hc
              have c1 := HR.out.cell (sz := 2) (fun _ => rfl) k 1 (by omega) (by omega)
              have HB := Lib.hid (fun h : 4096 < (l[k]'hkl).data.size => (wrongE_size (prev := prev) HAll.out HRS.out hkl h).symm.trans HER.out)
              have HA2 := Lib.hid (fun h : (l[k]'hkl).data.size ≤ 4096 => show ∀ i (h : i < l.length), i < k + 1 → (l[i]).data.size ≤ 4096 from fun i hi hik => by
                rcases Nat.lt_or_ge i k with h' | h'
                · exact HA.out i hi h'
                · obtain rfl : i = k := by omega
                  exact h)
              generalize l[k]'hkl = x at *
              simp only [Ent.cells, adr, List.getElem?_cons_zero, List.getElem?_cons_succ, Nat.add_zero, Nat.zero_add, Nat.mul_one] at c1
              have g1 : (k : Int) < (n : Int) := by omega
              have g0 : (0 : Int) ≤ (k : Int) := by omega
              clear hkl
              by_cases hx : 4096 < x.data.size
              · obtain rfl : er = 2 := (HB.out hx).symm
                have g2 : (4096 : Int) < (x.data.size : Int) := by omega
                clear hx
                go_wp2
                go_ret
                exact ⟨rfl, rfl⟩
              · have g2 : (x.data.size : Int) ≤ 4096 := by omega
                have HX := Lib.hid (show x.data.size ≤ 4096 by omega)
                clear hx
                go_wp2
                go_roundg (n - (k + 1))
                case measure => omega
                case rel => exact ⟨k + 1, by omega, Nat.le_refl _, by go_num, rfl, Lib.hid (HA2.out HX.out)⟩
            · have g1 : ¬ ((k : Int) < (n : Int)) := by omega
              have hfin := (wrongE_end (prev := prev) HAll.out HRS.out (fun i hi => HA.out i hi (by have := HN.out; omega))).symm.trans HER.out
              rw [HN.out] at hfin
              have hw : IntKind.i64.wrap (1048576 - prev) = 1048576 - prev := by rw [IntKind.wrap_i64]; omega
              clear HA hlt
              by_cases hx : 1048576 - prev < (n : Int)
              · obtain rfl : er = 2 := by rw [if_pos hx] at hfin; exact hfin.symm
                have q : decide (1048576 - prev < (n : Int)) = true := decide_eq_true hx
                clear hfin hx
                go_wp2
                go_ret
                exact ⟨rfl, rfl⟩
              · obtain rfl : er = 0 := by rw [if_neg hx] at hfin; exact hfin.symm
                have q : decide (1048576 - prev < (n : Int)) = false := decide_eq_false hx
                clear hfin hx
                go_wp2
                go_ret
                exact ⟨rfl, rfl⟩
end Go.Proofs.Ytpimpdgibcjbeaa
