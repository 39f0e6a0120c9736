import Derived.Test.YtodplpjoonkniaaW7
namespace Go.Proofs.Ytodplpjoonkniaa
open Go Go.RowKit
set_option linter.unusedVariables false
set_option linter.unusedSimpArgs false

theorem drV_ok {wd n : Int} (h : drOk n = true) (hm : 0 ≤ mix (nxt wd)) : 0 ≤ drV wd n ∧ drV wd n < n := by
  have h' := h
  simp only [drOk, Bool.and_eq_true, decide_eq_true_eq] at h'
  have h1 := Int.tmod_nonneg n hm
  have h2 := Int.tmod_lt_of_pos (mix (nxt wd)) (show 0 < n by omega)
  unfold drV
  rw [if_pos h]
  unfold wrap64
  omega
theorem xor_u64_nonneg (a b : Int) : 0 ≤ Go.bits .xor .u64 a b := by
  have h : ∀ x : Int, 0 ≤ IntKind.u64.wrap x := fun x => by
    have : IntKind.u64.wrap x = x % 18446744073709551616 := by simp [IntKind.wrap, IntKind.bits, IntKind.signed]
    rw [this]; omega
  exact h _
theorem mix_nonneg (z : Int) : 0 ≤ mix z := xor_u64_nonneg _ _

theorem drV_nonneg (wd n : Int) : 0 ≤ drV wd n := by
  by_cases h : drOk n = true
  · exact (drV_ok h (mix_nonneg _)).1
  · unfold drV; rw [if_neg h]; omega
theorem drV_below (wd n : Int) : (drE n == 0) = false ∨ ((drE n == 0) = true ∧ drV wd n < n) := by
  by_cases h : drOk n = true
  · exact .inr ⟨by unfold drE; rw [if_pos h]; rfl, (drV_ok h (mix_nonneg _)).2⟩
  · left; unfold drE; rw [if_neg h]; rfl
/-- A slice of whole numbers that is read. -/
def IntsAt (w : World) (A : Option Addr) (n : Nat) (f : Nat → Int) : Prop := 0 < n → ∃ ad, A = some ad ∧ ∀ i, i < n → w.cell? (ad.add i) = some (.int .i64 (f i))
theorem intsAt_of {w : World} {A : Option Addr} {len cap : Nat} {rows : List (List Value)} (h : Open.Rows w [.int .i64] A len cap rows) : ∃ f, IntsAt w A len f := by
  obtain ⟨hl, _, _, hr, hc⟩ := h
  refine ⟨fun i => match rows[i]? with | some [.int _ a] => a | _ => 0, fun h0 => ?_⟩
  obtain ⟨ad, hA, hcell⟩ := hc h0
  refine ⟨ad, hA, fun i hi => ?_⟩
  have hi' : i < rows.length := by omega
  obtain ⟨hll, hk⟩ := hr rows[i] (List.getElem_mem hi')
  obtain ⟨a, hrow⟩ : ∃ a : Int, rows[i] = [.int .i64 a] := by
    match hrr : rows[i], hll with
    | [x], _ =>
      obtain ⟨a, rfl, _⟩ := hk 0 (.int .i64) x rfl (by rw [hrr]; rfl)
      exact ⟨a, rfl⟩
  have hg : rows[i]? = some [.int .i64 a] := by rw [List.getElem?_eq_getElem hi', hrow]
  have h0 := hcell i _ hg 0 _ rfl
  simp only [List.length_cons, List.length_nil, Nat.zero_add, Nat.mul_one, Nat.add_zero] at h0
  simp only [hg]
  exact h0
theorem IntsAt.block_lt' {w : World} {A : Option Addr} {n : Nat} {f : Nat → Int} (h : IntsAt w A n f) (hn : 0 < n) (ad : Addr) (hA : A = some ad) : ad.block < w.heap.size := by
  obtain ⟨ad', hA', hc⟩ := h hn
  rw [hA] at hA'
  injection hA' with hA'
  subst hA'
  have := hc 0 hn
  have h2 : ad.add 0 = ad := by simp [Addr.add]
  rw [h2] at this
  exact World.block_lt_of_cell? w ad this
theorem IntsAt.at_ {w : World} {ad : Addr} {n : Nat} {f : Nat → Int} (h : IntsAt w (some ad) n f) {k : Nat} (hk : k < n) : w.cell? (ad.add k) = some (.int .i64 (f k)) := by
  obtain ⟨ad', hA', hc⟩ := h (by omega)
  injection hA' with hA'
  subst hA'
  exact hc k hk
theorem IntsAt.below {w w' : World} {A : Option Addr} {n : Nat} {f : Nat → Int} (h : IntsAt w A n f) (hb : Below w.heap.size w w') : IntsAt w' A n f := by
  intro hn
  obtain ⟨ad, hA, hc⟩ := h hn
  exact ⟨ad, hA, fun i hi => (hb.cell (World.block_lt_of_cell? w _ (hc i hi))).trans (hc i hi)⟩

/-- The fork, made or not. -/
def ForkAt (w : World) (v : Value) (made : Bool) (lo : Nat) (wd : Int) : Prop :=
  if made then ∃ g b, v = .pointer (some ⟨g, 0, none⟩) ∧ Clk w g b [0] wd ∧ lo ≤ g ∧ lo ≤ b else v = .pointer none

attribute [local go_sem ↓] min_rule
set_option maxHeartbeats 4000000 in
set_option maxRecDepth 100000 in
theorem forks_walk (a0 : Int) (A1 : Option Addr) (len1 cap1 : Nat) (rows1 : List (List Value)) (a2 : Int) (w : World) (w0 : (Lit.int .u64 a0).wf = true)
    (w1 : Open.Rows w [.int .i64] A1 len1 cap1 rows1) (y1 : len1 * Try.prog.bytesOf 3 ≤ 140737488351232) (w2 : (Lit.int .i64 a2).wf = true) :
    Calls Try.prog 5 #[.int .u64 a0, .slice A1 len1 cap1, .int .i64 a2] w fun e w' => e = .returned (.bool true) ∧ Below w.heap.size w w' := by
  obtain ⟨f, hF⟩ := intsAt_of w1
  have hlen : len1 ≤ 9223372036854775807 := by have h1 := w1.2.1; have h2 := w1.2.2.1; unfold maxLen at h2; omega
  clear w1 y1 w0 w2
  have HF := Lib.hid hF
  clear hF
  go_enter Try.func5, Try.ntmps5
  go_wp2_with (fail)
  refine (works_calls w).mono ?_
  rintro e wa ⟨rfl, hBa⟩
  have HBa := Lib.hid hBa
  clear hBa
  go_wp2_with (fail)
  refine (new_ok 1 a0 wa (by decide) (by decide)).mono ?_
  rintro e wb ⟨ga, ba, rfl, hC, hg, hb, hBb⟩
  have HCa := Lib.hid hC
  have HBb := Lib.hid (below_below HBa.out hBb)
  have hga : w.heap.size ≤ ga := Nat.le_trans HBa.out.size hg
  have hba : w.heap.size ≤ ba := Nat.le_trans HBa.out.size hb
  clear hC hBb hg hb HBa
  go_wp2_with (fail)
  refine (new_ok 3 a0 wb (by decide) (by decide)).mono ?_
  rintro e wc ⟨gb, bb, rfl, hC, hg, hb, hBc⟩
  have HCa2 := Lib.hid (HCa.out.kept (Kept.of_below hBc (fun _ => False)) (fun h => h) (fun h => h))
  have HCb := Lib.hid hC
  have HBc := Lib.hid (below_below HBb.out hBc)
  have l1 : ga < gb := by have := HCa.out.lt; omega
  have l2 : ga < bb := by have := HCa.out.lt; omega
  have l3 : ba < gb := by have := HCa.out.lt; omega
  have l4 : ba < bb := by have := HCa.out.lt; omega
  clear hC hBc hg hb HBb HCa
  go_wp2_with (fail)
  refine (all_clk gb bb (List.replicate 3 0) a0 7 wc HCb.out (by decide) (by decide) (by decide) (by decide) (by decide) (by decide) (by decide) (by decide)).mono ?_
  rintro e wd ⟨rfl, hC, hK⟩
  have HCa3 := Lib.hid (HCa2.out.kept hK (by omega) (by omega))
  have HCb3 := Lib.hid hC
  have HBd := Lib.hid (below_kept HBc.out hK (fun k hk e => by subst e; omega))
  clear hC hK HBc HCb HCa2
  obtain ⟨N, hN⟩ : ∃ N : Nat, mnI len1 100 = (N : Int) := ⟨min len1 100, by unfold mnI; split <;> omega⟩
  have hN1 : N ≤ len1 := by unfold mnI at hN; split at hN <;> omega
  have hN2 : N ≤ 100 := by unfold mnI at hN; split at hN <;> omega
  go_wp2_with (fail)
  clear hN
  refine (among_calls a2 _ _ (by omega)).mono ?_
  rintro e we ⟨rfl, rfl⟩
  obtain ⟨cut, hcut⟩ : ∃ c : Nat, amg a2 ((N : Int) + 1) = (c : Int) := ⟨(amg a2 ((N : Int) + 1)).toNat, by have := amg_bounds a2 ((N : Int) + 1) (by omega) (by omega); omega⟩
  rw [hcut]
  clear hcut
  obtain ⟨lo, hlo1, hlo2, hlo3⟩ : ∃ lo : Nat, gb < lo ∧ bb < lo ∧ lo ≤ max gb bb + 1 := ⟨max gb bb + 1, by omega, by omega, by omega⟩
  go_wp2
  go_loopw [59, 12] (fun i v wr => ∃ (k : Nat) (wd0 : Int) (tsb : List Int) (made : Bool), k ≤ N ∧ i = .int .i64 k ∧ (made = true → cut < k) ∧ (made = false → k ≤ cut) ∧ Hid (Clk wr ga ba [0] wd0) ∧ Hid (Clk wr gb bb tsb wd0) ∧ tsb.length = 3 ∧ ForkAt wr v made lo wd0 ∧ Hid (Below w.heap.size w wr)) (fun i _ _ => N - (intOf i).toNat)
  case atStart => exact ⟨0, a0, _, false, by omega, rfl, (by intro h; cases h), (by intro _; omega), HCa3.out, HCb3.out, rfl, rfl, HBd.out⟩
  case round =>
    obtain ⟨k, wd0, tsb, made, hk, rfl, hm1, hm2, HCA, HCB, htsb, hfork, HBW⟩ := hrel
    clear HCa3 HCb3 HBd
    have HTS := Lib.hid htsb
    by_cases hlt : k < N
    · have g1 : (k : Int) < (N : Int) := by omega
      obtain ⟨ad, hA, hcell⟩ := (HF.out.below HBW.out) (by omega)
      obtain rfl := hA
      have hc0 := hcell k (by omega)
      clear hcell
      have hblt : ad.block < w.heap.size := HF.out.block_lt' (by omega) ad rfl
      clear htsb
      cases made with
      | true =>
        have hcut : cut < k := hm1 rfl
        have g2 : ((k : Int) == (cut : Int)) = false := by simp; omega
        obtain ⟨gf, bf, hv, hCf, hgf, hbf⟩ := hfork
        obtain rfl := hv
        have HCF := Lib.hid hCf
        clear hCf hm1 hm2
        go_wp2_with (fail)
        refine (draw_any ga ba [0] wd0 (f k) _ HCA.out).mono ?_
        rintro e w1 ⟨rfl, hC, hK⟩
        have HA1 := Lib.hid hC
        have HB1 := Lib.hid (HCB.out.kept hK (by omega) (by omega))
        have HF1 := Lib.hid (HCF.out.kept hK (by omega) (by omega))
        have HW1 := Lib.hid (below_kept HBW.out hK (fun j hj e => by subst e; omega))
        clear hC hK
        have hcw1 := (HF.out.below HW1.out).at_ (k := k) (by omega)
        go_wp2_with (fail)
        refine (draw_any gb bb tsb wd0 (f k) _ HB1.out).mono ?_
        rintro e w2 ⟨rfl, hC, hK⟩
        have HA2 := Lib.hid (HA1.out.kept hK (by omega) (by omega))
        have HB2 := Lib.hid hC
        have HF2 := Lib.hid (HF1.out.kept hK (by omega) (by omega))
        have HW2 := Lib.hid (below_kept HW1.out hK (fun j hj e => by subst e; omega))
        clear hC hK
        obtain ⟨X, hX⟩ : ∃ X, drV wd0 (f k) = X := ⟨_, rfl⟩
        obtain ⟨E, hE⟩ : ∃ E, drE (f k) = E := ⟨_, rfl⟩
        have hX0 : 0 ≤ X := by rw [← hX]; exact drV_nonneg _ _
        have hXE : (E == 0) = false ∨ ((E == 0) = true ∧ X < f k) := by rw [← hX, ← hE]; exact drV_below _ _
        have HXV := Lib.hid hX
        have HEV := Lib.hid hE
        rw [hX, hE]
        clear hX hE
        have hcw2 := (HF.out.below HW2.out).at_ (k := k) (by omega)
        rcases hXE with q | ⟨q, q'⟩
        all_goals
          go_wp2_with (fail)
          refine (draw_any gf bf [0] wd0 (f k) _ HF2.out).mono ?_
          rintro e w3 ⟨rfl, hC, hK⟩
          have HA3 := Lib.hid (HA2.out.kept hK (by omega) (by omega))
          have HB3 := Lib.hid (HB2.out.kept hK (by omega) (by omega))
          have HF3 := Lib.hid hC
          have HW3 := Lib.hid (below_kept HW2.out hK (fun j hj e => by subst e; omega))
          clear hC hK
          rw [HXV.out, HEV.out]
          go_wp2
          go_roundw
          case rel => exact ⟨k + 1, drW wd0 (f k), tsb, true, by omega, by go_num, (by intro _; omega), (by intro h; cases h), HA3.out, HB3.out, HTS.out, ⟨gf, bf, rfl, HF3.out, by omega, by omega⟩, HW3.out⟩
          case measure => simp [intOf]; omega
      | false =>
        have hkc : k ≤ cut := hm2 rfl
        have hv : _ = Value.pointer none := hfork
        obtain rfl := hv
        clear hm1 hm2 hfork
        by_cases hc : k = cut
        · have g2 : ((k : Int) == (cut : Int)) = true := by simp; omega
          have g3 : cut ≤ k := by omega
          clear hc
          go_wp2_with (fail)
          refine (fork_calls ga ba [0] wd0 _ HCA.out (by decide) (by decide)).mono ?_
          rintro e wf ⟨gf, bf, rfl, hCf, hgf, hbf, hBf⟩
          have HCF := Lib.hid hCf
          have hltA := HCA.out.lt
          have hltB := HCB.out.lt
          have hgf2 : lo ≤ gf := by omega
          have hbf2 : lo ≤ bf := by omega
          have HCA' := Lib.hid (HCA.out.kept (Kept.of_below hBf (fun _ => False)) (fun h => h) (fun h => h))
          have HCB' := Lib.hid (HCB.out.kept (Kept.of_below hBf (fun _ => False)) (fun h => h) (fun h => h))
          have HBW' := Lib.hid (below_below HBW.out hBf)
          have hcf := (HF.out.below HBW'.out).at_ (k := k) (by omega)
          clear hCf hgf hbf hBf hltA hltB
          go_wp2_with (fail)
          refine (draw_any ga ba [0] wd0 (f k) _ HCA'.out).mono ?_
          rintro e w1 ⟨rfl, hC, hK⟩
          have HA1 := Lib.hid hC
          have HB1 := Lib.hid (HCB'.out.kept hK (by omega) (by omega))
          have HF1 := Lib.hid (HCF.out.kept hK (by omega) (by omega))
          have HW1 := Lib.hid (below_kept HBW'.out hK (fun j hj e => by subst e; omega))
          clear hC hK
          have hcw1 := (HF.out.below HW1.out).at_ (k := k) (by omega)
          go_wp2_with (fail)
          refine (draw_any gb bb tsb wd0 (f k) _ HB1.out).mono ?_
          rintro e w2 ⟨rfl, hC, hK⟩
          have HA2 := Lib.hid (HA1.out.kept hK (by omega) (by omega))
          have HB2 := Lib.hid hC
          have HF2 := Lib.hid (HF1.out.kept hK (by omega) (by omega))
          have HW2 := Lib.hid (below_kept HW1.out hK (fun j hj e => by subst e; omega))
          clear hC hK
          obtain ⟨X, hX⟩ : ∃ X, drV wd0 (f k) = X := ⟨_, rfl⟩
          obtain ⟨E, hE⟩ : ∃ E, drE (f k) = E := ⟨_, rfl⟩
          have hX0 : 0 ≤ X := by rw [← hX]; exact drV_nonneg _ _
          have hXE : (E == 0) = false ∨ ((E == 0) = true ∧ X < f k) := by rw [← hX, ← hE]; exact drV_below _ _
          have HXV := Lib.hid hX
          have HEV := Lib.hid hE
          rw [hX, hE]
          clear hX hE
          have hcw2 := (HF.out.below HW2.out).at_ (k := k) (by omega)
          rcases hXE with q | ⟨q, q'⟩
          all_goals
            go_wp2_with (fail)
            refine (draw_any gf bf [0] wd0 (f k) _ HF2.out).mono ?_
            rintro e w3 ⟨rfl, hC, hK⟩
            have HA3 := Lib.hid (HA2.out.kept hK (by omega) (by omega))
            have HB3 := Lib.hid (HB2.out.kept hK (by omega) (by omega))
            have HF3 := Lib.hid hC
            have HW3 := Lib.hid (below_kept HW2.out hK (fun j hj e => by subst e; omega))
            clear hC hK
            rw [HXV.out, HEV.out]
            go_wp2
            go_roundw
            case rel => exact ⟨k + 1, drW wd0 (f k), tsb, true, by omega, by go_num, (by intro _; omega), (by intro h; cases h), HA3.out, HB3.out, HTS.out, ⟨gf, bf, rfl, HF3.out, by omega, by omega⟩, HW3.out⟩
            case measure => simp [intOf]; omega
        · have g2 : ((k : Int) == (cut : Int)) = false := by simp; omega
          have g3 : k < cut := by omega
          clear hc
          go_wp2_with (fail)
          refine (draw_any ga ba [0] wd0 (f k) _ HCA.out).mono ?_
          rintro e w1 ⟨rfl, hC, hK⟩
          have HA1 := Lib.hid hC
          have HB1 := Lib.hid (HCB.out.kept hK (by omega) (by omega))
          have HW1 := Lib.hid (below_kept HBW.out hK (fun j hj e => by subst e; omega))
          clear hC hK
          have hcw1 := (HF.out.below HW1.out).at_ (k := k) (by omega)
          go_wp2_with (fail)
          refine (draw_any gb bb tsb wd0 (f k) _ HB1.out).mono ?_
          rintro e w2 ⟨rfl, hC, hK⟩
          have HA2 := Lib.hid (HA1.out.kept hK (by omega) (by omega))
          have HB2 := Lib.hid hC
          have HW2 := Lib.hid (below_kept HW1.out hK (fun j hj e => by subst e; omega))
          clear hC hK
          obtain ⟨X, hX⟩ : ∃ X, drV wd0 (f k) = X := ⟨_, rfl⟩
          obtain ⟨E, hE⟩ : ∃ E, drE (f k) = E := ⟨_, rfl⟩
          have hX0 : 0 ≤ X := by rw [← hX]; exact drV_nonneg _ _
          have hXE : (E == 0) = false ∨ ((E == 0) = true ∧ X < f k) := by rw [← hX, ← hE]; exact drV_below _ _
          have HXV := Lib.hid hX
          have HEV := Lib.hid hE
          rw [hX, hE]
          clear hX hE
          have hcw2 := (HF.out.below HW2.out).at_ (k := k) (by omega)
          rcases hXE with q | ⟨q, q'⟩
          all_goals
            go_wp2
            go_roundw
            case rel => exact ⟨k + 1, drW wd0 (f k), tsb, false, by omega, by go_num, (by intro h; cases h), (by intro _; omega), HA2.out, HB2.out, HTS.out, rfl, HW2.out⟩
            case measure => simp [intOf]; omega
    · go_wp2
      go_ret
      exact ⟨rfl, HBW.out⟩
end Go.Proofs.Ytodplpjoonkniaa
