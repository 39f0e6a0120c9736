import Derived.Test.YtaghdopickgpgaaDoorDkW
namespace Go.Proofs.YtaghdopickgpgaaDoor
open Go Go.RowKit
set_option linter.unusedVariables false
set_option linter.unusedSimpArgs false

/-! DiskTurns. -/
theorem nil_append (a : ByteArray) : (⟨#[]⟩ : ByteArray) ++ a = a := by
  apply ByteArray.ext
  simp [ByteArray.data_append]
abbrev two (u : Int) (k j : ByteArray) (X Y : ByteArray) : DkS := ⟨4000, u, [(k, ⟨X, 0⟩), (j, ⟨Y, 0⟩)], false, false, 0⟩
theorem turn1 (u : Int) (X Y : ByteArray) : (two u ⟨#[97]⟩ ⟨#[98]⟩ X Y).rename ⟨#[97]⟩ ⟨#[99]⟩ = (two u ⟨#[98]⟩ ⟨#[99]⟩ Y X, 0) := by
  have h : (two u ⟨#[97]⟩ ⟨#[98]⟩ X Y).rename ⟨#[97]⟩ ⟨#[99]⟩ = (two (u - (X.size : Int) + ((X.size : Int) - ((⟨#[]⟩ : ByteArray).size : Int))) ⟨#[98]⟩ ⟨#[99]⟩ Y X, 0) := by kernel_rfl
  rw [h, show u - (X.size : Int) + ((X.size : Int) - ((⟨#[]⟩ : ByteArray).size : Int)) = u by show u - (X.size : Int) + ((X.size : Int) - 0) = u; omega]
theorem turn2 (u : Int) (X Y : ByteArray) : (two u ⟨#[98]⟩ ⟨#[99]⟩ Y X).rename ⟨#[98]⟩ ⟨#[97]⟩ = (two u ⟨#[97]⟩ ⟨#[99]⟩ Y X, 0) := by
  have h : (two u ⟨#[98]⟩ ⟨#[99]⟩ Y X).rename ⟨#[98]⟩ ⟨#[97]⟩ = (two (u - (Y.size : Int) + ((Y.size : Int) - ((⟨#[]⟩ : ByteArray).size : Int))) ⟨#[97]⟩ ⟨#[99]⟩ Y X, 0) := by kernel_rfl
  rw [h, show u - (Y.size : Int) + ((Y.size : Int) - ((⟨#[]⟩ : ByteArray).size : Int)) = u by show u - (Y.size : Int) + ((Y.size : Int) - 0) = u; omega]
theorem turn3 (u : Int) (X Y : ByteArray) : (two u ⟨#[97]⟩ ⟨#[99]⟩ Y X).rename ⟨#[99]⟩ ⟨#[98]⟩ = (two u ⟨#[97]⟩ ⟨#[98]⟩ Y X, 0) := by
  have h : (two u ⟨#[97]⟩ ⟨#[99]⟩ Y X).rename ⟨#[99]⟩ ⟨#[98]⟩ = (two (u - (X.size : Int) + ((X.size : Int) - ((⟨#[]⟩ : ByteArray).size : Int))) ⟨#[97]⟩ ⟨#[98]⟩ Y X, 0) := by kernel_rfl
  rw [h, show u - (X.size : Int) + ((X.size : Int) - ((⟨#[]⟩ : ByteArray).size : Int)) = u by show u - (X.size : Int) + ((X.size : Int) - 0) = u; omega]
theorem first_a (r : Int) (a : ByteArray) (h : (a.size : Int) ≤ r) : DkS.append ⟨r, 0, [], false, false, 0⟩ ⟨#[97]⟩ a = (⟨r, a.size, [(⟨#[97]⟩, ⟨a, 0⟩)], false, false, 0⟩, 0) := by
  have hk : okName ⟨#[97]⟩ = true := by kernel_rfl
  unfold DkS.append
  rw [if_neg (by rw [hk]; simp), if_neg (show ¬ DkS.tight ⟨r, 0, [], false, false, 0⟩ ⟨#[97]⟩ a from fun h => by unfold DkS.tight at h; simp at h; omega), tick_free rfl, if_neg (by simp)]
  show ((⟨r, 0 + (((⟨#[]⟩ ++ a : ByteArray).size : Int) - 0), [(⟨#[97]⟩, ⟨⟨#[]⟩ ++ a, 0⟩)], false, false, 0⟩ : DkS), (0 : Int)) = _
  rw [nil_append]
  simp
theorem then_b (r : Int) (a b : ByteArray) (sa : Int) (h : (a.size : Int) + b.size ≤ r) : DkS.append ⟨r, a.size, [(⟨#[97]⟩, ⟨a, sa⟩)], false, false, 0⟩ ⟨#[98]⟩ b = (⟨r, (a.size : Int) + b.size, [(⟨#[97]⟩, ⟨a, sa⟩), (⟨#[98]⟩, ⟨b, 0⟩)], false, false, 0⟩, 0) := by
  have hk : okName ⟨#[98]⟩ = true := by kernel_rfl
  unfold DkS.append
  rw [if_neg (by rw [hk]; simp), if_neg (show ¬ DkS.tight ⟨r, a.size, [(⟨#[97]⟩, ⟨a, sa⟩)], false, false, 0⟩ ⟨#[98]⟩ b from fun h => by unfold DkS.tight at h; simp at h; omega), tick_free rfl, if_neg (by simp)]
  have e : DkS.set ⟨r, a.size, [(⟨#[97]⟩, ⟨a, sa⟩)], false, false, 0⟩ ⟨#[98]⟩ ⟨(fileAt [(⟨#[97]⟩, ⟨a, sa⟩)] ⟨#[98]⟩).has ++ b, (fileAt [(⟨#[97]⟩, ⟨a, sa⟩)] ⟨#[98]⟩).safe⟩ = ⟨r, (a.size : Int) + (((⟨#[]⟩ ++ b : ByteArray).size : Int) - ((⟨#[]⟩ : ByteArray).size : Int)), [(⟨#[97]⟩, ⟨a, sa⟩), (⟨#[98]⟩, ⟨⟨#[]⟩ ++ b, 0⟩)], false, false, 0⟩ := by kernel_rfl
  rw [e, nil_append]
  show ((⟨r, (a.size : Int) + ((b.size : Int) - 0), _, false, false, 0⟩ : DkS), (0 : Int)) = _
  rw [Int.sub_zero]
theorem read_two (u : Int) (X Y : ByteArray) : (fileAt (two u ⟨#[97]⟩ ⟨#[98]⟩ X Y).fs ⟨#[97]⟩).has = X ∧ knownE (two u ⟨#[97]⟩ ⟨#[98]⟩ X Y).fs ⟨#[97]⟩ = 0 ∧ (fileAt (two u ⟨#[97]⟩ ⟨#[98]⟩ X Y).fs ⟨#[98]⟩).has = Y ∧ knownE (two u ⟨#[97]⟩ ⟨#[98]⟩ X Y).fs ⟨#[98]⟩ = 0 := ⟨by kernel_rfl, by kernel_rfl, by kernel_rfl, by kernel_rfl⟩
def turnX (a b : ByteArray) (k : Nat) : ByteArray := if k % 2 = 1 then b else a
theorem turnX_succ (a b : ByteArray) (k : Nat) : turnX a b (k + 1) = turnX b a k := by
  unfold turnX
  rcases Nat.mod_two_eq_zero_or_one k with h | h
  · rw [if_pos (by omega), if_neg (by omega)]
  · rw [if_neg (by omega), if_pos h]
set_option maxRecDepth 100000 in
set_option maxHeartbeats 8000000 in
theorem turns_walk (a b : ByteArray) (n : Int) (w : World) (ha : a.size ≤ 140737488351232) (hb : b.size ≤ 140737488351232) (hwf : (Lit.int .i64 n).wf = true) :
    Calls Tryd.prog 4 #[.string a, .string b, .int .i64 n] w fun e w' => e = .returned (.bool true) ∧ Below w.heap.size w w' := by
  have ham := fun W => among_calls n 20 W (by decide) (by decide)
  have hbd := amg_bounds n 20 (by decide) (by decide)
  generalize amg n 20 = m at *
  have HAM := Lib.hid ham
  clear ham hwf
  go_enter Tryd.func4, Tryd.ntmps4
  have hc := LoneK.new (w0 := w) (w := w) 4000 (Below.refl _ _) (by decide) (by decide)
  go_wp2_with (fail)
  refine hc.mono ?_
  rintro e w1 ⟨g, F, rfl, h1, _⟩
  clear hc
  have H1 := Lib.hid h1
  clear h1
  have hc := works_calls w1
  go_wp2_with (fail)
  refine hc.mono ?_
  rintro e w2 ⟨rfl, hb2⟩
  clear hc
  have H2 := Lib.hid (H1.out.below hb2)
  clear hb2 H1
  by_cases h1 : a.size ≤ 1000
  · have g1 : (a.size : Int) ≤ 1000 := by omega
    by_cases h2 : b.size ≤ 1000
    · have g2 : (b.size : Int) ≤ 1000 := by omega
      have hc := H2.out.append ⟨#[97]⟩ a (by decide) ha
      rw [first_a 4000 a (by omega)] at hc
      go_wp2_with (fail)
      refine hc.mono ?_
      rintro e w3 ⟨rfl, h, hk⟩
      have H3 := Lib.hid h
      clear hc h hk H2
      have hc := H3.out.append ⟨#[98]⟩ b (by decide) hb
      rw [then_b 4000 a b 0 (by omega)] at hc
      go_wp2_with (fail)
      refine hc.mono ?_
      rintro e w4 ⟨rfl, h, hk⟩
      have H4 := Lib.hid h
      clear hc h hk H3
      have hc := HAM.out w4
      go_wp2_with (fail)
      refine hc.mono ?_
      rintro e w5 ⟨rfl, rfl⟩
      clear hc
      go_wp2_with (fail)
      obtain ⟨mm, rfl⟩ : ∃ mm : Nat, m = mm := ⟨m.toNat, by omega⟩
      go_loopg [47] mm (fun gg s47 wr => ∃ (k : Nat), k ≤ mm ∧ mm - k ≤ gg ∧ s47 = .int .i64 k ∧ Hid (LoneK w wr F g (two ((a.size : Int) + b.size) ⟨#[97]⟩ ⟨#[98]⟩ (turnX a b k) (turnX b a k))))
      case atStart => exact ⟨0, Nat.zero_le _, by omega, by go_num, H4⟩
      case round =>
        obtain ⟨k, hk, hgg, rfl, HL⟩ := hrel
        by_cases hlt : k < mm
        · have hlz : (k : Int) < (mm : Int) := by omega
          have hc := HL.out.rename ⟨#[97]⟩ ⟨#[99]⟩ (by decide) (by decide)
          rw [turn1] at hc
          go_wp2_with (fail)
          refine hc.mono ?_
          rintro e w6 ⟨rfl, h, hk⟩
          have HL1 := Lib.hid h
          clear hc h hk HL
          have hc := HL1.out.rename ⟨#[98]⟩ ⟨#[97]⟩ (by decide) (by decide)
          rw [turn2] at hc
          go_wp2_with (fail)
          refine hc.mono ?_
          rintro e w7 ⟨rfl, h, hk⟩
          have HL2 := Lib.hid h
          clear hc h hk HL1
          have hc := HL2.out.rename ⟨#[99]⟩ ⟨#[98]⟩ (by decide) (by decide)
          rw [turn3] at hc
          go_wp2_with (fail)
          refine hc.mono ?_
          rintro e w8 ⟨rfl, h, hk⟩
          have HL3 := Lib.hid h
          clear hc h hk HL2
          have HL4 : Hid (LoneK w w8 F g (two ((a.size : Int) + b.size) ⟨#[97]⟩ ⟨#[98]⟩ (turnX a b (k + 1)) (turnX b a (k + 1)))) := Lib.hid (by rw [turnX_succ, turnX_succ]; exact HL3.out)
          clear HL3
          go_wp2
          go_roundg (mm - (k + 1))
          case measure => omega
          case rel => exact ⟨k + 1, hlt, Nat.le_refl _, by go_num, HL4⟩
        · have hkm : k = mm := by omega
          subst hkm
          clear hlt
          have hw0 : IntKind.i64.wrap ((a.size : Int) + (b.size : Int)) = (a.size : Int) + (b.size : Int) := by rw [IntKind.wrap_i64]; omega
          have hw1 : IntKind.i64.wrap ((b.size : Int) + (a.size : Int)) = (b.size : Int) + (a.size : Int) := by rw [IntKind.wrap_i64]; omega
          have hco : (a.size : Int) + (b.size : Int) = (b.size : Int) + (a.size : Int) := Int.add_comm _ _
          have HCO := Lib.hid hco
          clear hco
          rcases Nat.mod_two_eq_zero_or_one k with hpar | hpar
          · have hz : ((k : Int) % 2 == 1) = false := beq_eq_false_iff_ne.2 (by omega)
            have HX : Hid (LoneK w wr F g (two ((a.size : Int) + b.size) ⟨#[97]⟩ ⟨#[98]⟩ a b)) := Lib.hid (by
              have := HL.out
              unfold turnX at this
              rw [if_neg (by omega), if_neg (by omega)] at this
              exact this)
            clear hpar HL
            have hc := HX.out.read ⟨#[97]⟩ (by decide)
            rw [(read_two _ _ _).1, (read_two _ _ _).2.1] at hc
            go_wp2_with (fail)
            refine hc.mono ?_
            rintro e w6 ⟨rfl, h, hk⟩
            have H6 := Lib.hid h
            clear hc h hk HX
            have hc := H6.out.read ⟨#[98]⟩ (by decide)
            rw [(read_two _ _ _).2.2.1, (read_two _ _ _).2.2.2] at hc
            go_wp2_with (fail)
            refine hc.mono ?_
            rintro e w7 ⟨rfl, h, hk⟩
            have H7 := Lib.hid h
            clear hc h hk H6
            have hc := H7.out.used
            go_wp2_with (fail)
            refine hc.mono ?_
            rintro e w8 ⟨rfl, rfl⟩
            clear hc
            have hc := H7.out.names
            go_wp2_with (fail)
            refine hc.mono ?_
            rintro e w9 ⟨v, rfl, hr, h9, _⟩
            obtain ⟨Av, cv, rfl⟩ := hr.shape_n (n := 2) rfl
            clear hc hr
            go_wp2
            go_ret
            exact ⟨rfl, h9.back⟩
          · have hz : ((k : Int) % 2 == 1) = true := beq_iff_eq.2 (by omega)
            have HX : Hid (LoneK w wr F g (two ((a.size : Int) + b.size) ⟨#[97]⟩ ⟨#[98]⟩ b a)) := Lib.hid (by
              have := HL.out
              unfold turnX at this
              rw [if_pos hpar, if_pos hpar] at this
              exact this)
            clear hpar HL
            have hc := HX.out.read ⟨#[97]⟩ (by decide)
            rw [(read_two _ _ _).1, (read_two _ _ _).2.1] at hc
            go_wp2_with (fail)
            refine hc.mono ?_
            rintro e w6 ⟨rfl, h, hk⟩
            have H6 := Lib.hid h
            clear hc h hk HX
            have hc := H6.out.read ⟨#[98]⟩ (by decide)
            rw [(read_two _ _ _).2.2.1, (read_two _ _ _).2.2.2] at hc
            go_wp2_with (fail)
            refine hc.mono ?_
            rintro e w7 ⟨rfl, h, hk⟩
            have H7 := Lib.hid h
            clear hc h hk H6
            have hc := H7.out.used
            go_wp2_with (fail)
            refine hc.mono ?_
            rintro e w8 ⟨rfl, rfl⟩
            clear hc
            have hq : (((a.size : Int) + b.size) == ((b.size : Int) + a.size)) = true := beq_iff_eq.2 HCO.out
            have hc := H7.out.names
            go_wp2_with (fail)
            refine hc.mono ?_
            rintro e w9 ⟨v, rfl, hr, h9, _⟩
            obtain ⟨Av, cv, rfl⟩ := hr.shape_n (n := 2) rfl
            clear hc hr
            go_wp2
            go_ret
            exact ⟨rfl, h9.back⟩
    · have g2 : (1000 : Int) < (b.size : Int) := by omega
      go_wp2
      go_ret
      exact ⟨rfl, H2.out.back⟩
  · have g1 : (1000 : Int) < (a.size : Int) := by omega
    go_wp2
    go_ret
    exact ⟨rfl, H2.out.back⟩
end Go.Proofs.YtaghdopickgpgaaDoor
