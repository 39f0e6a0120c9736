import Derived.Test.YtaghdopickgpgaaDoorDkY
namespace Go.Proofs.YtaghdopickgpgaaDoor
open Go Go.RowKit
set_option linter.unusedVariables false
set_option linter.unusedSimpArgs false

/-! DiskSafe. -/
def safeS (wh su : ByteArray) (k : Nat) : DkS := if k = 0 then ⟨262144, 0, [], false, false, 0⟩ else ⟨262144, wh.size, [(⟨#[97]⟩, ⟨wh, su.size⟩)], false, false, 0⟩
theorem more_a (r : Int) (wh x : ByteArray) (sf : Int) (h : (wh.size : Int) + x.size ≤ r) : DkS.append ⟨r, wh.size, [(⟨#[97]⟩, ⟨wh, sf⟩)], false, false, 0⟩ ⟨#[97]⟩ x = (⟨r, (wh ++ x).size, [(⟨#[97]⟩, ⟨wh ++ x, sf⟩)], false, false, 0⟩, 0) := by
  unfold DkS.append
  rw [if_neg (by rw [ok_a]; simp), if_neg (show ¬ DkS.tight ⟨r, wh.size, [(⟨#[97]⟩, ⟨wh, sf⟩)], false, false, 0⟩ ⟨#[97]⟩ x from fun h => by
    unfold DkS.tight at h
    have : (look [((⟨#[97]⟩ : ByteArray), (⟨wh, sf⟩ : DF))] ⟨#[97]⟩).isSome = true := by kernel_rfl
    simp only at h
    rw [this] at h
    simp at h
    omega), tick_free rfl, if_neg (by simp)]
  have e : DkS.set ⟨r, wh.size, [(⟨#[97]⟩, ⟨wh, sf⟩)], false, false, 0⟩ ⟨#[97]⟩ ⟨(fileAt [(⟨#[97]⟩, ⟨wh, sf⟩)] ⟨#[97]⟩).has ++ x, (fileAt [(⟨#[97]⟩, ⟨wh, sf⟩)] ⟨#[97]⟩).safe⟩ = ⟨r, (wh.size : Int) + (((wh ++ x : ByteArray).size : Int) - (wh.size : Int)), [(⟨#[97]⟩, ⟨wh ++ x, sf⟩)], false, false, 0⟩ := by kernel_rfl
  rw [e, show (wh.size : Int) + (((wh ++ x : ByteArray).size : Int) - (wh.size : Int)) = ((wh ++ x).size : Int) by omega]
theorem safe_append (wh su x : ByteArray) (k : Nat) (h : (wh.size : Int) + x.size ≤ 262144) (h0 : k = 0 → wh = ⟨#[]⟩ ∧ su = ⟨#[]⟩) : (safeS wh su k).append ⟨#[97]⟩ x = (safeS (wh ++ x) su (k + 1), 0) := by
  unfold safeS
  rw [if_neg (show ¬ k + 1 = 0 by omega)]
  by_cases hk : k = 0
  · obtain ⟨rfl, rfl⟩ := h0 hk
    rw [if_pos hk, first_a _ _ (by omega), nil_append]
    rfl
  · rw [if_neg hk, more_a _ _ _ _ h]
theorem safe_sync (wh su : ByteArray) (k : Nat) : (safeS wh su (k + 1)).sync = (safeS wh wh (k + 1), 0) := by
  have e : ∀ u, safeS wh u (k + 1) = ⟨262144, wh.size, [(⟨#[97]⟩, ⟨wh, u.size⟩)], false, false, 0⟩ := fun u => by unfold safeS; rw [if_neg (by omega)]
  rw [e, e]
  rfl
/-- What a crash leaves of the file. -/
def left1 (wh su : ByteArray) (d : Int) : ByteArray := (crash1 ⟨wh, su.size⟩ [d]).1.has
theorem safe_left (wh su : ByteArray) (k : Nat) (hk : k ≠ 0) (d : Int) : (fileAt ((safeS wh su k).crashed [d]).fs ⟨#[97]⟩).has = left1 wh su d ∧ knownE ((safeS wh su k).crashed [d]).fs ⟨#[97]⟩ = 0 := by
  have e : ((safeS wh su k).crashed [d]).fs = (⟨#[97]⟩, (crash1 ⟨wh, su.size⟩ [d]).1) :: [] := by
    unfold safeS
    rw [if_neg hk]
    rfl
  rw [e]
  have := read_first ⟨#[97]⟩ (crash1 ⟨wh, su.size⟩ [d]).1 [] ok_a
  exact ⟨by rw [this.1]; rfl, this.2⟩
theorem extract_all (wh : ByteArray) : wh.extract 0 wh.size = wh := by
  apply ByteArray.ext
  simp [ByteArray.data_extract]
theorem left_ok (wh su : ByteArray) (d : Int) (h : su.size ≤ wh.size) : su.size ≤ (left1 wh su d).size ∧ (left1 wh su d).size ≤ wh.size ∧ wh.extract 0 (left1 wh su d).size = left1 wh su d := by
  unfold left1 crash1
  split
  · exact ⟨h, Nat.le_refl _, extract_all wh⟩
  · rename_i ht
    unfold tailF at ht ⊢
    have hp : 0 < (wh.size : Int) - su.size + 1 := by omega
    have k0 := Int.emod_nonneg (max 0 d) (show (wh.size : Int) - su.size + 1 ≠ 0 by omega)
    have k1 := Int.emod_lt_of_pos (max 0 d) hp
    have key : ∀ kp : Int, 0 ≤ kp → kp < (wh.size : Int) - su.size + 1 → su.size ≤ (wh.extract 0 ((su.size : Int) + kp).toNat).size ∧ (wh.extract 0 ((su.size : Int) + kp).toNat).size ≤ wh.size ∧ wh.extract 0 (wh.extract 0 ((su.size : Int) + kp).toNat).size = wh.extract 0 ((su.size : Int) + kp).toNat := by
      intro kp h0 h1
      have hsz : (wh.extract 0 ((su.size : Int) + kp).toNat).size = ((su.size : Int) + kp).toNat := by rw [ByteArray.size_extract]; omega
      rw [hsz]
      exact ⟨by omega, by omega, rfl⟩
    exact key _ k0 k1
open Shape in
theorem open_str1 {w : World} (r : List Value) (h : SK.oks Tryd.prog w [.str] r) : ∃ x : ByteArray, r = scells x ∧ x.size ≤ 140737488351232 := by
  obtain ⟨v1, r1, rfl, h1, h⟩ := oks_cons h
  obtain rfl := oks_nil h
  simp only [SK.ok] at h1
  obtain ⟨t, rfl, ht⟩ := h1
  exact ⟨t, rfl, ht⟩
theorem segG_strs {w : World} {A : Option Addr} {len cap : Nat} (h : Shape.SK.oks Tryd.prog w [.row 9 [.str]] [.slice A len cap]) : ∃ l : List ByteArray, l.length = len ∧ SegG w scells (.slice A len cap) l ∧ (∀ x ∈ l, x.size ≤ 140737488351232) ∧ len ≤ 140737488351232 := by
  have hb : Tryd.prog.bytesOf 9 = 16 := by kernel_rfl
  obtain ⟨v, vs, e, h, _⟩ := oks_cons h
  simp only [Shape.SK.ok] at h
  obtain ⟨A', len', cap', rows, hv, h1, h2, h3, h4, h5, h7, h6⟩ := h
  simp only [List.cons.injEq] at e
  rw [hv] at e
  simp only [Value.slice.injEq] at e
  obtain ⟨⟨rfl, rfl, rfl⟩, _⟩ := e
  obtain ⟨xs, hx, hd⟩ := rows_map scells (fun x => x.size ≤ 140737488351232) open_str1 rows h6
  rw [hb] at h3
  exact ⟨xs, by rw [← h4, hx, List.length_map], segG_of_rows (sz := 1) (fun _ => rfl) (by decide) xs hx h4 h1 h2 h5, hd, by omega⟩
attribute [local go_sem] toList_beq
set_option maxRecDepth 100000 in
set_option maxHeartbeats 8000000 in
theorem safe_walk (A : Option Addr) (len cap : Nat) (sy dr : Int) (w : World) (hS : Shape.SK.oks Tryd.prog w [.row 9 [.str]] [.slice A len cap]) (wf1 : (Lit.int .i64 sy).wf = true) (wf2 : (Lit.int .i64 dr).wf = true) :
    Calls Tryd.prog 3 #[.slice A len cap, .int .i64 sy, .int .i64 dr] w fun e w' => e = .returned (.bool true) ∧ Below w.heap.size w w' := by
  obtain ⟨l, hxl, hX, hfit, hlen⟩ := segG_strs hS
  have HX := Lib.hid hX
  have HFIT := Lib.hid hfit
  have HXL := Lib.hid hxl
  have ham := fun W => among_calls sy 60 W (by decide) (by decide)
  have hbd := amg_bounds sy 60 (by decide) (by decide)
  generalize amg sy 60 = m at *
  have HAM := Lib.hid ham
  clear hS hX hfit hxl wf1 wf2 ham
  go_enter Tryd.func3, Tryd.ntmps3
  have hc := LoneK.new (w0 := w) (w := w) 262144 (Below.refl _ _) (by decide) (by decide)
  go_wp2_with (fail)
  refine hc.mono ?_
  rintro e w1 ⟨g, F, rfl, h1, _⟩
  clear hc
  have H1 := Lib.hid h1
  clear h1
  have hc := works_calls w1
  go_wp2_with (fail)
  refine hc.mono ?_
  rintro e w2 ⟨rfl, hb2⟩
  clear hc
  have H2 := Lib.hid (H1.out.below hb2)
  clear hb2 H1
  go_wp2_with (fail)
  go_loopg [9, 10, 11] 50 (fun gg s9 s10 s11 wr => ∃ (k : Nat) (wh su : ByteArray), k ≤ len ∧ k ≤ 50 ∧ 50 - k ≤ gg ∧ s9 = .string su ∧ s10 = .string wh ∧ s11 = .int .i64 k ∧ wh.size ≤ 1000 * k ∧ su.size ≤ wh.size ∧ Hid (k = 0 → wh = ⟨#[]⟩ ∧ su = ⟨#[]⟩) ∧ Hid (LoneK w wr F g (safeS wh su k)))
  case atStart => exact ⟨0, ⟨#[]⟩, ⟨#[]⟩, Nat.zero_le _, by omega, by omega, rfl, rfl, by go_num, by decide, Nat.le_refl _, Lib.hid (fun _ => ⟨rfl, rfl⟩), H2⟩
  case round =>
    obtain ⟨k, wh, su, hk1, hk2, hgg, rfl, rfl, rfl, hwh, hsu, HZ, HL⟩ := hrel
    have hlm2 : (len : Int) ≤ 140737488351232 := by omega
    by_cases hlt : k < len ∧ k < 50
    · obtain ⟨hlt, h50⟩ := hlt
      have hkl : k < l.length := by rw [HXL.out]; exact hlt
      have r := HX.out.kept0 (Kept.of_below HL.out.back fun _ => False) (fun _ _ _ h => h)
      obtain ⟨ad, c', hv, _⟩ := r.form (by omega)
      injection hv with hA hnn hc
      clear hnn
      subst hA hc
      have c0 := r.cell (sz := 1) (fun _ => rfl) k 0 hkl (by omega)
      have HF := Lib.hid (HFIT.out _ (List.getElem_mem hkl))
      clear r
      generalize l[k] = x at c0 HF
      simp only [scells, adr, List.getElem?_cons_zero, Nat.mul_one] at c0
      have g1 : (k : Int) < (len : Int) := by omega
      have g2 : (k : Int) < 50 := by omega
      have g0 : (0 : Int) ≤ (k : Int) := by omega
      by_cases hx : x.size ≤ 1000
      · have g3 : (x.size : Int) ≤ 1000 := by omega
        have hsz : (wh ++ x).size = wh.size + x.size := append_size wh x
        have hwx : wh.size + x.size ≤ 9223372036854775807 := by omega
        have hap := HL.out.append ⟨#[97]⟩ x (by decide) HF.out
        rw [safe_append wh su x k (by omega) HZ.out] at hap
        go_wp2_with (fail)
        refine hap.mono ?_
        rintro e w3 ⟨rfl, h3, _⟩
        have H3 := Lib.hid h3
        have c0' : w3.cell? (ad.add k) = some (.string x) := by
          have r := HX.out.kept0 (Kept.of_below h3.back fun _ => False) (fun _ _ _ h => h)
          have r0 := HX.out.kept0 (Kept.of_below HL.out.back fun _ => False) (fun _ _ _ h => h)
          have a1 := r.cell (sz := 1) (fun _ => rfl) k 0 hkl (by omega)
          have a2 := r0.cell (sz := 1) (fun _ => rfl) k 0 hkl (by omega)
          simp only [scells, adr, List.getElem?_cons_zero, Nat.mul_one] at a1 a2
          rw [a1, ← a2]
          exact c0
        clear hap h3 HL c0
        have hc := HAM.out w3
        go_wp2_with (fail)
        refine hc.mono ?_
        rintro e w4 ⟨rfl, rfl⟩
        clear hc c0'
        by_cases hm : (k : Int) ≤ m
        · have hc := H3.out.sync
          rw [safe_sync (wh ++ x) su k] at hc
          go_wp2_with (fail)
          refine hc.mono ?_
          rintro e w5 ⟨rfl, h, hk⟩
          have H4 := Lib.hid h
          clear hc h hk H3
          go_wp2
          go_roundg (50 - (k + 1))
          case measure => omega
          case rel => exact ⟨k + 1, wh ++ x, wh ++ x, by omega, by omega, Nat.le_refl _, rfl, rfl, by go_num, by omega, Nat.le_refl _, Lib.hid (fun h => by omega), H4⟩
        · have hm2 : m < (k : Int) := by omega
          clear hm
          go_wp2
          go_roundg (50 - (k + 1))
          case measure => omega
          case rel => exact ⟨k + 1, wh ++ x, su, by omega, by omega, Nat.le_refl _, rfl, rfl, by go_num, by omega, by omega, Lib.hid (fun h => by omega), H3⟩
      · have g3 : (1000 : Int) < (x.size : Int) := by omega
        go_wp2
        go_ret
        exact ⟨rfl, HL.out.back⟩
    · have g00 : ¬ ((k : Int) < (len : Int)) ∨ (k : Int) < (len : Int) ∧ ¬ ((k : Int) < 50) := by omega
      clear hlt
      by_cases he : wh = ⟨#[]⟩
      · subst he
        rcases g00 with g1 | ⟨g1, g2⟩
        all_goals
          go_wp2
          go_ret
          exact ⟨rfl, HL.out.back⟩
      · have hk0 : k ≠ 0 := fun h => he (HZ.out h).1
        have hq : wh.toList.isEmpty = false := by rw [List.isEmpty_eq_false_iff]; exact fun e => he (by have := (toList_nil wh).1 e; exact ByteArray.ext (Array.eq_empty_of_size_eq_zero this))
        have hE : ¬ wh.toList = [] := fun e => he (by have := (toList_nil wh).1 e; exact ByteArray.ext (Array.eq_empty_of_size_eq_zero this))
        have HLO := Lib.hid (left_ok wh su dr hsu)
        have HRD := Lib.hid (safe_left wh su k hk0 dr)
        have hnF : ¬ F wr.heap.size := fun hF => absurd (HL.out.at_.foot hF) (Nat.lt_irrefl _)
        have hD : Draws (wr.alloc (.cells #[.int .i64 dr] 3)) F (some ⟨wr.heap.size, 0, none⟩) [dr] := fun _ => ⟨_, rfl, by simp, hnF, fun i y hi => by
          have hb := Blk.new wr 3 #[.int .i64 dr]
          rw [addr0, hb.cell]
          match i, hi with
          | 0, hi => cases hi; rfl
          | i + 1, hi => simp at hi⟩
        have HL2 := Lib.hid (HL.out.below ((Below.refl _ wr).alloc (Nat.le_refl _) (.cells #[.int .i64 dr] 3)))
        have hcr := HL2.out.crash (some ⟨wr.heap.size, 0, none⟩) [dr] 1 hD (by simp) (by simp)
        clear he hk0 hnF hD HL
        rcases g00 with g1 | ⟨g1, g2⟩
        all_goals
          go_wp2_with (fail)
          refine hcr.mono ?_
          rintro e w3 ⟨rfl, h3, _⟩
          have H3 := Lib.hid h3
          clear hcr h3 HL2
          have hc := H3.out.read ⟨#[97]⟩ (by decide)
          rw [HRD.out.1, HRD.out.2] at hc
          go_wp2_with (fail)
          refine hc.mono ?_
          rintro e w4 ⟨rfl, h, hk⟩
          have H4 := Lib.hid h
          clear hc h hk H3
          have l1 := HLO.out.1
          have l2 := HLO.out.2.1
          have l3 := HLO.out.2.2
          have hwb : wh.size ≤ 50000 := by omega
          clear HRD HLO
          generalize left1 wh su dr = res at *
          have m1 : (su.size : Int) ≤ (res.size : Int) := by omega
          have m2 : (res.size : Int) ≤ (wh.size : Int) := by omega
          clear l1 l2 hsu hwh
          go_wp2
          go_ret
          exact ⟨by simp [l3], H4.out.back⟩
end Go.Proofs.YtaghdopickgpgaaDoor
