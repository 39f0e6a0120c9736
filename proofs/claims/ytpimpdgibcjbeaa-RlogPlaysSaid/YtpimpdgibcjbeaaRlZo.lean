import Derived.Test.YtpimpdgibcjbeaaRlZn
namespace Go.Proofs.Ytpimpdgibcjbeaa
open Go Go.RowKit
set_option linter.unusedVariables false
set_option linter.unusedSimpArgs false

theorem med_count_not (zs : List Int) (x : Int) (hp : 0 < zs.length) (hx : medZ zs < x) : 2 * atLeast x zs ≤ zs.length := by
  have hl := isort_length zs
  have h1 : atLeast x zs = atLeast x (isort zs) := ((isort_perm zs).countP_eq _).symm
  have hm : medZ zs = (isort zs)[(zs.length - 1) / 2]'(by omega) := by unfold medZ; rw [List.getElem?_eq_getElem (by omega)]; rfl
  have h2 : atLeast x ((isort zs).take ((zs.length - 1) / 2 + 1)) = 0 := by
    unfold atLeast
    rw [List.countP_eq_zero]
    intro y hy
    obtain ⟨i, hi, rfl⟩ := List.mem_iff_getElem.1 hy
    rw [List.length_take] at hi
    rw [List.getElem_take]
    rw [hm] at hx
    simp only [decide_eq_true_eq, Int.not_le]
    rcases Nat.lt_or_ge i ((zs.length - 1) / 2) with h | h
    · exact Int.lt_of_le_of_lt ((List.pairwise_iff_getElem.1 (isort_sorted zs)) _ _ (by omega) (by omega) h) hx
    · have : i = (zs.length - 1) / 2 := by omega
      subst this
      exact hx
  have h3 : atLeast x (isort zs) = atLeast x ((isort zs).take ((zs.length - 1) / 2 + 1)) + atLeast x ((isort zs).drop ((zs.length - 1) / 2 + 1)) := by
    unfold atLeast
    rw [← List.countP_append, List.take_append_drop]
  have h4 : atLeast x ((isort zs).drop ((zs.length - 1) / 2 + 1)) ≤ ((isort zs).drop ((zs.length - 1) / 2 + 1)).length := List.countP_le_length
  rw [List.length_drop] at h4
  omega
theorem med_iff (zs : List Int) (x : Int) (hp : 0 < zs.length) : zs.length < 2 * atLeast x zs ↔ x ≤ medZ zs := by
  constructor
  · intro h
    rcases Int.lt_or_le (medZ zs) x with h' | h'
    · have := med_count_not zs x hp h'; omega
    · exact h'
  · exact med_count zs x hp
theorem agreedN_none (s : LogS) (hv term commit : Int) (h : ∀ j, j < cntD s commit → hitD hv term (dn s j) = false) : s.agreedN hv term commit = commit := by
  have := find_none (hv := hv) (term := term) (l := upto (dn s) (cntD s commit)) (fun x hx => by
    obtain ⟨j, hj, rfl⟩ := mem_upto.1 hx
    exact h j hj)
  unfold LogS.agreedN
  unfold hitD at this
  rw [this]
theorem agreedN_hit (s : LogS) (hv term commit : Int) (k : Nat) (hk : k < cntD s commit) (h : ∀ j, j < k → hitD hv term (dn s j) = false) (hx : hitD hv term (dn s k) = true) : s.agreedN hv term commit = (dn s k).1 := by
  have := find_upto hk (fun x hx => by
    obtain ⟨j, hj, rfl⟩ := mem_upto.1 hx
    exact h j hj) hx
  unfold LogS.agreedN
  unfold hitD at this
  rw [this]
theorem ref_agreed_bad (g : Nat) (A : Option Addr) (m cap : Nat) (term commit : Int) (w : World) (hbad : m = 0 ∨ commit < 0) :
    Calls Try.prog 37 #[.pointer (some ⟨g, 0, none⟩), .slice A m cap, .int .i64 term, .int .i64 commit] w fun e w' => e = .returned (.tuple #[.int .i64 0, .int .i64 1]) ∧ w' = w := by
  by_cases hm : m = 0
  · subst hm
    clear hbad
    go_enter Try.func37, Try.ntmps37
    go_wp2
    go_ret2
    exact ⟨rfl, rfl⟩
  · have hc : commit < 0 := by omega
    have q0 : ((m : Int) == 0) = false := by simp; omega
    have q1 : decide (commit < 0) = true := decide_eq_true hc
    clear hbad hm
    go_enter Try.func37, Try.ntmps37
    go_wp2
    go_ret2
    exact ⟨rfl, rfl⟩
set_option maxRecDepth 100000 in
set_option maxHeartbeats 4000000 in
theorem ref_agreed_ok (F : Nat → Prop) (g : Nat) (s : LogS) (v : Value) (zs : List Int) (term commit : Int) (w : World) (h : RAt w F g s) (hb0 : 0 ≤ s.base) (hl : s.base + s.l.length ≤ 1048576) (hS : SegG w icell v zs) (hp : 0 < zs.length) (hz : zs.length ≤ 70368744177664) (hc : 0 ≤ commit) :
    Calls Try.prog 37 #[.pointer (some ⟨g, 0, none⟩), v, .int .i64 term, .int .i64 commit] w fun e w' => e = .returned (.tuple #[.int .i64 (s.agreedN (medZ zs) term commit), .int .i64 0]) ∧ Below w.heap.size w w' := by
  obtain ⟨A, c, rfl, _⟩ := hS.shape
  obtain ⟨R, hR⟩ : ∃ R, s.agreedN (medZ zs) term commit = R := ⟨_, rfl⟩
  rw [hR]
  have HRR := Lib.hid hR
  have HS := Lib.hid hS
  have H := Lib.hid h
  obtain ⟨vl, hb, h1, hg, f1⟩ := h
  obtain ⟨Al, cl, rfl⟩ := h1.shape
  have HBg := Lib.hid hb
  have H1 := Lib.hid h1
  have b0 := hb.cell 0
  have b2 := hb.cell 2
  have hgl := hb.lt
  obtain ⟨n, hn⟩ : ∃ n, zs.length = n := ⟨_, rfl⟩
  have HN := Lib.hid hn
  obtain ⟨N, hN⟩ : ∃ N, s.l.length = N := ⟨_, rfl⟩
  have HNN := Lib.hid hN
  rw [hN] at b2 hl
  rw [hn] at hp hz ⊢
  have q0 : ((n : Int) == 0) = false := by simp; omega
  have q1 : decide (commit < 0) = false := decide_eq_false (by omega)
  have hw0 : IntKind.i64.wrap (s.base + (N : Int)) = s.base + (N : Int) := by rw [IntKind.wrap_i64]; omega
  have HC := Lib.hid hc
  clear hS hR hb h1 hn hN hc
  go_enter Try.func37, Try.ntmps37
  go_wp2_with (fail)
  go_quiet (fail)
  go_wp2_with (fail)
  go_loopg [10] N (fun gg s10 wr => ∃ k : Nat, k ≤ N ∧ N - k ≤ gg ∧ s10 = .int .i64 (s.base + (N : Int) - k) ∧ Hid (Below w.heap.size w wr) ∧ Hid (∀ j, j < k → hitD (medZ zs) term (dn s j) = false) ∧ Hid (k ≤ cntD s commit))
  case atStart => exact ⟨0, Nat.zero_le _, by omega, by simp, Lib.hid (pw_drewN (Below.refl _ _) _), Lib.hid (fun j hj => by omega), Lib.hid (Nat.zero_le _)⟩
  case round =>
    obtain ⟨k, hk, hgk, rfl, HBr, HA, HKC⟩ := hrel
    have b0r := (HBg.out.kept (Kept.of_below HBr.out fun _ => False) (fun h => h)).cell 0
    have hcn : cntD s commit = min N (s.base + (N : Int) - commit).toNat := by unfold cntD LogS.last; rw [HNN.out]
    obtain ⟨nk, hnk⟩ : ∃ nk : Int, s.base + (N : Int) - (k : Int) = nk := ⟨_, rfl⟩
    rw [hnk]
    by_cases hlt : k < cntD s commit
    · have g1 : commit < nk := by omega
      have g2 : s.base < nk := by omega
      have q2 : decide (commit < nk) = true := decide_eq_true g1
      have q3 : decide (s.base < nk) = true := decide_eq_true g2
      have HLT := Lib.hid hlt
      have HNK := Lib.hid hnk
      have hkN : k < N := by omega
      have hnkb : nk ≤ 1048576 ∧ 0 < nk := by omega
      have hnk1 : nk ≤ 1048576 := hnkb.1
      have hnk0 : 0 < nk := hnkb.2
      clear hlt hnk hcn hnkb
      obtain ⟨wq, hwq⟩ : ∃ wq, wq = wr := ⟨_, rfl⟩
      subst wr
      go_wp2_with (fail)
      go_loopg [11, 12] n (fun gg s11 s12 wr => ∃ j : Nat, j ≤ n ∧ n - j ≤ gg ∧ s11 = .int .i64 (atLeast nk (zs.take j) : Nat) ∧ s12 = .int .i64 j ∧ wr = wq)
      case atStart => exact ⟨0, Nat.zero_le _, by omega, by simp [atLeast], rfl, rfl⟩
      case round =>
        obtain ⟨j, hj, hgj, rfl, rfl, hww⟩ := hrel
        subst hww
        by_cases hjn : j < n
        · have hjl : j < zs.length := by rw [HN.out]; exact hjn
          have RX := HS.out.below HBr.out
          obtain ⟨b1, d1, hv1, _⟩ := RX.form (by omega)
          injection hv1 with hA1 hnn hc1
          clear hnn
          subst hA1 hc1
          have y0 := RX.cell (sz := 1) (fun _ => rfl) j 0 hjl (by omega)
          have HCN := Lib.hid (show atLeast nk (zs.take (j + 1)) = atLeast nk (zs.take j) + if nk ≤ zs[j] then 1 else 0 by
            rw [← List.take_append_getElem hjl]
            unfold atLeast
            rw [List.countP_append]
            by_cases h : nk ≤ zs[j]
            · simp [h]
            · simp [h])
          have hcb : atLeast nk (zs.take j) ≤ n := by
            have h1 : atLeast nk (zs.take j) ≤ (zs.take j).length := List.countP_le_length
            rw [List.length_take] at h1
            omega
          generalize zs[j] = y at y0 HCN
          generalize atLeast nk (zs.take j) = cj at *
          generalize hcj1 : atLeast nk (zs.take (j + 1)) = cj1 at HCN
          have HC1 := Lib.hid hcj1
          simp only [icell, adr, List.getElem?_cons_zero, Nat.add_zero, Nat.mul_one] at y0
          have g6 : (j : Int) < (n : Int) := by omega
          have g7 : (0 : Int) ≤ (j : Int) := by omega
          have hwc : IntKind.i64.wrap ((cj : Int) + 1) = (cj : Int) + 1 := by rw [IntKind.wrap_i64]; omega
          clear RX hcj1
          by_cases hxy : nk ≤ y
          · have hc1 : cj1 = cj + 1 := by rw [HCN.out, if_pos hxy]
            have HC2 := Lib.hid hc1
            clear hc1
            go_wp2
            go_roundg (n - (j + 1))
            case measure => omega
            case rel => exact ⟨j + 1, by omega, Nat.le_refl _, by rw [HC1.out, HC2.out]; go_num, by go_num, rfl⟩
          · have hc1 : cj1 = cj := by rw [HCN.out, if_neg hxy]; rfl
            have HC2 := Lib.hid hc1
            have qxy : decide (nk ≤ y) = false := decide_eq_false hxy
            clear hc1
            go_wp2
            go_roundg (n - (j + 1))
            case measure => omega
            case rel => exact ⟨j + 1, by omega, Nat.le_refl _, by rw [HC1.out, HC2.out], by go_num, rfl⟩
        · obtain rfl : j = n := by omega
          have g6 : ¬ (j : Int) < (j : Int) := by omega
          have htk : zs.take j = zs := List.take_of_length_le (by rw [HN.out]; exact Nat.le_refl _)
          rw [htk]
          have HIF := Lib.hid (med_iff zs nk (by rw [HN.out]; exact hp))
          rw [HN.out] at HIF
          have hcb : atLeast nk zs ≤ j := by
            have h1 : atLeast nk zs ≤ zs.length := List.countP_le_length
            rw [HN.out] at h1
            exact h1
          generalize atLeast nk zs = cj at *
          have hwc : IntKind.i64.wrap ((cj : Int) * 2) = (cj : Int) * 2 := by rw [IntKind.wrap_i64]; omega
          have hBq := HBg.out.kept (Kept.of_below HBr.out fun _ => False) (fun h => h)
          have hRq := H1.out.kept (Kept.of_below HBr.out fun _ => False) (fun _ _ h => h)
          rw [HNN.out] at hBq
          have c2 := hBq.cell 2
          have hgq := hBq.lt
          obtain ⟨i, hi⟩ : ∃ i, N - 1 - k = i := ⟨_, rfl⟩
          have hiN : i < s.l.length := by rw [HNN.out]; omega
          obtain ⟨gb, c', hv, hgb, hcb2⟩ := hRq.form (by omega)
          injection hv with hA hnn hcc
          clear hnn
          subst hA hcc
          have y0 := hRq.cell (fun _ => rfl) i 0 hiN (by omega)
          have HDN := Lib.hid (show dn s k = (nk, (s.l[i]'hiN).term) by
            rw [dn_at s k hb0 (by rw [HNN.out]; exact hl) (by rw [HNN.out]; exact hkN)]
            have : s.last - (k : Int) = nk := by unfold LogS.last; rw [HNN.out]; exact HNK.out
            rw [this, HNN.out, hi, List.getElem?_eq_getElem hiN]
            rfl)
          generalize s.l[i]'hiN = x at y0 HDN
          simp only [Ent.cells, List.getElem?_cons_zero, Nat.add_zero, Nat.mul_one] at y0
          have hw5 : IntKind.i64.wrap (nk - s.base) = nk - s.base := by rw [IntKind.wrap_i64]; omega
          have hw6 : IntKind.i64.wrap (nk - s.base - 1) = (i : Int) := by have := HNK.out; rw [IntKind.wrap_i64]; omega
          have i0 : (0 : Int) ≤ (i : Int) := by omega
          have i1 : (i : Int) < (N : Int) := by omega
          have hw7 : IntKind.i64.wrap (nk - 1) = nk - 1 := by rw [IntKind.wrap_i64]; omega
          clear htk hBq hRq hcb2 hjn hiN hi
          by_cases hmaj : (j : Int) < (cj : Int) * 2
          · have q5 : decide ((j : Int) < (cj : Int) * 2) = true := decide_eq_true hmaj
            have HM := Lib.hid (HIF.out.1 (by omega))
            by_cases hxt : x.term = term
            · obtain rfl : R = nk := by
                rw [← HRR.out, agreedN_hit s _ term commit k HLT.out HA.out (by rw [HDN.out]; unfold hitD; simp [HM.out, hxt]), HDN.out]
              subst hxt
              go_wp2_with (fail)
              go_quiet (fail)
              go_wp2
              go_ret2
              exact ⟨rfl, pw_drewN HBr.out _⟩
            · have qx : (x.term == term) = false := by simpa using hxt
              have HNH := Lib.hid (show hitD (medZ zs) term (dn s k) = false by rw [HDN.out]; unfold hitD; simp [hxt])
              go_wp2_with (fail)
              go_quiet (fail)
              go_wp2
              go_roundg (N - (k + 1))
              case measure => omega
              case rel => exact ⟨k + 1, by omega, Nat.le_refl _, by rw [← HNK.out]; congr 1; omega, Lib.hid (pw_drewN HBr.out _), Lib.hid (fun j' hj' => by
                rcases Nat.lt_or_ge j' k with h' | h'
                · exact HA.out j' h'
                · obtain rfl : j' = k := by omega
                  exact HNH.out), Lib.hid HLT.out⟩
          · have q5 : decide ((j : Int) < (cj : Int) * 2) = false := decide_eq_false hmaj
            have HNH := Lib.hid (show hitD (medZ zs) term (dn s k) = false by
              rw [HDN.out]
              have : ¬ nk ≤ medZ zs := fun h => by have := HIF.out.2 h; omega
              unfold hitD
              simp [this])
            go_wp2_with (fail)
            go_quiet (fail)
            go_wp2
            go_roundg (N - (k + 1))
            case measure => omega
            case rel => exact ⟨k + 1, by omega, Nat.le_refl _, by rw [← HNK.out]; congr 1; omega, Lib.hid (pw_drewN HBr.out _), Lib.hid (fun j' hj' => by
              rcases Nat.lt_or_ge j' k with h' | h'
              · exact HA.out j' h'
              · obtain rfl : j' = k := by omega
                exact HNH.out), Lib.hid HLT.out⟩
    · have hkc : k = cntD s commit := by have := HKC.out; omega
      obtain rfl : R = commit := by rw [← HRR.out]; exact agreedN_none s _ term commit (fun j hj => HA.out j (by omega))
      have g3 : nk ≤ R ∨ R < nk ∧ nk ≤ s.base := by omega
      clear hlt hkc hcn hnk
      rcases g3 with g3 | ⟨g3, g4⟩
      · have q2 : decide (R < nk) = false := decide_eq_false (by omega)
        go_wp2
        go_ret2
        exact ⟨rfl, HBr.out⟩
      · have q2 : decide (R < nk) = true := decide_eq_true (by omega)
        have q3 : decide (s.base < nk) = false := decide_eq_false (by omega)
        go_wp2
        go_ret2
        exact ⟨rfl, HBr.out⟩
end Go.Proofs.Ytpimpdgibcjbeaa
