import Derived.Test.YtodplpjoonkniaaW6
namespace Go.Proofs.Ytodplpjoonkniaa
open Go Go.RowKit
set_option linter.unusedVariables false
set_option linter.unusedSimpArgs false

/-- Times of so many nodes, each from 0 to m. -/
structure Times (n : Nat) (m : Int) (ts : List Int) : Prop where
  len : ts.length = n
  lo : ∀ x ∈ ts, 0 ≤ x
  hi : ∀ x ∈ ts, x ≤ m
theorem Times.apart {n : Nat} {m : Int} {ts : List Int} (h : Times n m ts) (h0 : 0 < n) (hm : m ≤ 4611686018427387904) : wrap64 (hiL ts - loL ts) = hiL ts - loL ts ∧ 0 ≤ loL ts ∧ hiL ts ≤ m ∧ loL ts ≤ hiL ts := by
  have h1 := hiL_spec (ts := ts) (by rw [h.len]; exact h0)
  have h2 := loL_spec (ts := ts) (by rw [h.len]; exact h0)
  have a := h.hi _ h1.1
  have b := h.lo _ h2.1
  have c := h2.2 _ h1.1
  exact ⟨by unfold wrap64; omega, b, a, c⟩
theorem Times.more {n : Nat} {m m' : Int} {ts : List Int} (h : Times n m ts) (hm : m ≤ m') : Times n m' ts := ⟨h.len, h.lo, fun x hx => by have := h.hi x hx; omega⟩
theorem Times.add {n : Nat} {m d : Int} {ts : List Int} (h : Times n m ts) (hd : 0 ≤ d) : Times n (m + d) (ts.map (· + d)) := by
  refine ⟨by simp [h.len], fun x hx => ?_, fun x hx => ?_⟩ <;> obtain ⟨y, hy, rfl⟩ := List.mem_map.1 hx
  · have := h.lo y hy; show 0 ≤ y + d; omega
  · have := h.hi y hy; show y + d ≤ m + d; omega
theorem Times.set {n : Nat} {m d x : Int} {k : Nat} {ts : List Int} (h : Times n m ts) (hd : 0 ≤ d) (hx : ts[k]? = some x) : Times n (m + d) (ts.set k (x + d)) := by
  have hxm := List.mem_of_getElem? hx
  refine ⟨by simp [h.len], fun y hy => ?_, fun y hy => ?_⟩ <;> rcases List.mem_or_eq_of_mem_set hy with hy | rfl
  · exact h.lo y hy
  · have := h.lo x hxm; omega
  · have := h.hi y hy; omega
  · have := h.hi x hxm; omega
theorem hi_add {ts : List Int} {d : Int} (h : 0 < ts.length) : hiL (ts.map (· + d)) = hiL ts + d := by
  have h1 := hiL_spec h
  have h2 := hiL_spec (ts := ts.map (· + d)) (by simpa using h)
  obtain ⟨y, hy, e⟩ := List.mem_map.1 h2.1
  have e' : y + d = hiL (ts.map (· + d)) := e
  have a := h1.2 y hy
  have b := h2.2 (hiL ts + d) (List.mem_map.2 ⟨_, h1.1, rfl⟩)
  omega
theorem lo_add {ts : List Int} {d : Int} (h : 0 < ts.length) : loL (ts.map (· + d)) = loL ts + d := by
  have h1 := loL_spec h
  have h2 := loL_spec (ts := ts.map (· + d)) (by simpa using h)
  obtain ⟨y, hy, e⟩ := List.mem_map.1 h2.1
  have e' : y + d = loL (ts.map (· + d)) := e
  have a := h1.2 y hy
  have b := h2.2 (loL ts + d) (List.mem_map.2 ⟨_, h1.1, rfl⟩)
  omega
theorem apart_set {ts : List Int} {k : Nat} {x d : Int} (hx : ts[k]? = some x) (hd : 0 ≤ d) : hiL (ts.set k (x + d)) - loL (ts.set k (x + d)) ≤ hiL ts - loL ts + d ∧ hiL ts - loL ts - d ≤ hiL (ts.set k (x + d)) - loL (ts.set k (x + d)) := by
  have hk : k < ts.length := (List.getElem?_eq_some_iff.1 hx).1
  have hxm := List.mem_of_getElem? hx
  have h1 := hiL_spec (ts := ts) (by omega)
  have h2 := loL_spec (ts := ts) (by omega)
  have h3 := hiL_spec (ts := ts.set k (x + d)) (by simp; omega)
  have h4 := loL_spec (ts := ts.set k (x + d)) (by simp; omega)
  -- every old time is there, or is x
  have old : ∀ y ∈ ts, y ∈ ts.set k (x + d) ∨ y = x := by
    intro y hy
    obtain ⟨i, hi⟩ := List.mem_iff_getElem?.1 hy
    by_cases e : k = i
    · subst e; rw [hx] at hi; injection hi with hi; exact .inr hi.symm
    · exact .inl (List.mem_iff_getElem?.2 ⟨i, by rw [List.getElem?_set_ne e]; exact hi⟩)
  have new : x + d ∈ ts.set k (x + d) := List.mem_iff_getElem?.2 ⟨k, List.getElem?_set_self hk⟩
  have a1 : hiL (ts.set k (x + d)) ≤ hiL ts + d := by
    rcases List.mem_or_eq_of_mem_set h3.1 with h | h
    · have := h1.2 _ h; omega
    · have := h1.2 _ hxm; omega
  have a2 : hiL ts ≤ hiL (ts.set k (x + d)) := by
    rcases old _ h1.1 with h | h
    · exact h3.2 _ h
    · have := h3.2 _ new; omega
  have a3 : loL ts ≤ loL (ts.set k (x + d)) := by
    rcases List.mem_or_eq_of_mem_set h4.1 with h | h
    · exact h2.2 _ h
    · have := h2.2 _ hxm; omega
  have a4 : loL (ts.set k (x + d)) ≤ loL ts + d := by
    rcases old _ h2.1 with h | h
    · have := h4.2 _ h; omega
    · have := h4.2 _ new; omega
  omega

set_option maxHeartbeats 4000000 in
set_option maxRecDepth 100000 in
theorem together_walk (a0 : Int) (A1 : Option Addr) (len1 cap1 : Nat) (rows1 : List (List Value)) (w : World) (w0 : (Lit.int .i64 a0).wf = true)
    (w1 : Open.Rows w [.int .i64, .int .i64, .int .i64] A1 len1 cap1 rows1) (y1 : len1 * Try.prog.bytesOf 39 ≤ 140737488351232) :
    Calls Try.prog 3 #[.int .i64 a0, .slice A1 len1 cap1] w fun e w' => e = .returned (.bool true) ∧ Below w.heap.size w w' := by
  obtain ⟨f, hF⟩ := act3_of w1
  have hlen : len1 ≤ 9223372036854775807 := by have h1 := w1.2.1; have h2 := w1.2.2.1; unfold maxLen at h2; omega
  clear w1 y1 w0
  have HF := Lib.hid hF
  clear hF
  obtain ⟨nn, hnn⟩ : ∃ nn : Nat, 1 + amg a0 16 = (nn : Int) := ⟨(1 + amg a0 16).toNat, by have := amg_bounds a0 16 (by decide) (by decide); omega⟩
  have hn1 : 1 ≤ nn := by have := amg_bounds a0 16 (by decide) (by decide); omega
  have hn2 : nn ≤ 16 := by have := amg_bounds a0 16 (by decide) (by decide); omega
  have q1 : (1 : Int) ≤ nn := by omega
  have q2 : (nn : Int) ≤ 16 := by omega
  have hab := amg_bounds a0 16 (by decide) (by decide)
  have hab1 := hab.1
  have hab2 := hab.2
  clear hab
  have HNN := Lib.hid hnn
  clear hnn
  go_enter Try.func3, Try.ntmps3
  go_wp2_with (fail)
  refine (works_calls w).mono ?_
  rintro e wa ⟨rfl, hBa⟩
  have HBa := Lib.hid hBa
  clear hBa
  go_wp2_with (fail)
  refine (among_calls a0 16 wa (by decide)).mono ?_
  rintro e wa' ⟨rfl, rfl⟩
  go_wp2_with (fail)
  rw [HNN.out]
  refine (new_ok nn 9 wa hn1 hn2).mono ?_
  rintro e wb ⟨g, b, rfl, hC, hg, hb, hBb⟩
  have HC := Lib.hid hC
  have HB := Lib.hid (below_below HBa.out hBb)
  have hg' : w.heap.size ≤ g := Nat.le_trans HBa.out.size hg
  have hb' : w.heap.size ≤ b := Nat.le_trans HBa.out.size hb
  clear hC hBb hg hb HBa
  go_wp2
  go_loopw [7] (fun i wr => ∃ (k : Nat) (ts : List Int), k ≤ len1 ∧ k ≤ 100 ∧ i = .int .i64 k ∧ Hid (Clk wr g b ts 9) ∧ Hid (Times nn (1000 * k) ts) ∧ Hid (Below w.heap.size w wr)) (fun i _ => len1 - (intOf i).toNat)
  case atStart => exact ⟨0, List.replicate nn 0, by omega, by omega, rfl, HC.out, ⟨by simp, fun x hx => by rw [(List.mem_replicate.1 hx).2]; omega, fun x hx => by rw [(List.mem_replicate.1 hx).2]; omega⟩, HB.out⟩
  case round =>
    obtain ⟨k, ts, hk1, hk2, rfl, HCr, HT, HBr⟩ := hrel
    clear HC HB
    by_cases hk : k < len1 ∧ k < 100
    · obtain ⟨hlt, h100⟩ := hk
      have g1 : (k : Int) < (len1 : Int) := by omega
      have g2 : (k : Int) < 100 := by omega
      obtain ⟨ad, hA, hcell⟩ := (HF.out.below HBr.out) (by omega)
      obtain rfl := hA
      obtain ⟨hc0, hc1, hc2⟩ := hcell k hlt
      clear hcell
      have hap := HT.out.apart (by omega) (by omega)
      have HAP := Lib.hid hap
      clear hap
      go_wp2_with (fail)
      refine (apart_clk g b ts 9 wr HCr.out (by rw [HT.out.len]; omega) (by rw [HT.out.len]; omega)).mono ?_
      rintro e wr1 ⟨rfl, n1, rfl⟩
      rw [HAP.out.1]
      go_wp2_with (fail)
      refine (among_calls _ 1000 _ (by decide)).mono ?_
      rintro e wr2 ⟨rfl, rfl⟩
      obtain ⟨d, hd⟩ : ∃ d, amg (f k).2.2 1000 = d := ⟨_, rfl⟩
      have hdb := amg_bounds (f k).2.2 1000 (by decide) (by decide)
      rw [hd] at hdb ⊢
      clear hd
      have hd0 := hdb.1
      have hd1 := hdb.2
      clear hdb
      go_wp2_with (fail)
      refine (among_calls _ 2 _ (by decide)).mono ?_
      rintro e wr2 ⟨rfl, rfl⟩
      by_cases hkd : amg (f k).1 2 = 0
      · rw [hkd]
        clear hkd
        go_wp2_with (fail)
        have hl0 : 0 < ts.length := by rw [HT.out.len]; omega
        refine (all_clk g b ts 9 d _ (HCr.out.drewN n1) hl0 (by rw [HT.out.len]; omega) hd0 HT.out.lo (by have := HAP.out.2.2.1; omega) (by have := HAP.out.2.2.1; omega) (by have := HAP.out.2; omega) (hiL_spec hl0).2).mono ?_
        rintro e wr3 ⟨rfl, hC3, hK3⟩
        have HC3 := Lib.hid hC3
        have HT3 := Lib.hid (HT.out.add hd0)
        have HB3 := Lib.hid (below_kept (below_drewN HBr.out n1) hK3 (fun k hk e => by subst e; omega))
        have HL0 := Lib.hid hl0
        clear hC3 hK3 hl0
        go_wp2_with (fail)
        refine (apart_clk g b (ts.map (· + d)) 9 wr3 HC3.out (by rw [HT3.out.len]; omega) (by rw [HT3.out.len]; omega)).mono ?_
        rintro e wr4 ⟨rfl, n2, rfl⟩
        have hv : wrap64 (hiL (ts.map (· + d)) - loL (ts.map (· + d))) = hiL ts - loL ts := by
          rw [hi_add HL0.out, lo_add HL0.out, show hiL ts + d - (loL ts + d) = hiL ts - loL ts by omega, HAP.out.1]
        rw [hv]
        clear hv
        go_wp2
        go_roundw
        case rel => exact ⟨k + 1, ts.map (· + d), by omega, by omega, by go_num, HC3.out, HT3.out.more (by omega), below_drewN HB3.out n2⟩
        case measure => simp [intOf]; omega
      · have q3 : (amg (f k).1 2 == 0) = false := by simpa using hkd
        clear hkd
        go_wp2_with (fail)
        refine (among_calls _ (nn : Int) _ (by omega)).mono ?_
        rintro e wr2 ⟨rfl, rfl⟩
        obtain ⟨kk, hkk⟩ : ∃ kk : Nat, amg (f k).2.1 (nn : Int) = (kk : Int) := ⟨(amg (f k).2.1 (nn : Int)).toNat, by have := amg_bounds (f k).2.1 nn (by omega) (by omega); omega⟩
        have hkl : kk < ts.length := by have := amg_bounds (f k).2.1 nn (by omega) (by omega); rw [HT.out.len]; omega
        rw [hkk]
        clear hkk
        obtain ⟨x, hx⟩ : ∃ x, ts[kk]? = some x := ⟨_, List.getElem?_eq_getElem hkl⟩
        have HX := Lib.hid hx
        have hxm := List.mem_of_getElem? hx
        have hx0 := HT.out.lo x hxm
        have hx1 := HT.out.hi x hxm
        clear hx hxm hkl
        go_wp2_with (fail)
        refine (step_clk g b kk ts 9 x d _ (HCr.out.drewN n1) HX.out (by rw [HT.out.len]; omega) hd0 (by omega) hx0).mono ?_
        rintro e wr3 ⟨rfl, hC3, hK3⟩
        have HC3 := Lib.hid hC3
        have HT3 := Lib.hid (HT.out.set hd0 HX.out)
        have HB3 := Lib.hid (below_kept (below_drewN HBr.out n1) hK3 (fun k hk e => by subst e; omega))
        have hs := apart_set HX.out hd0
        have hap3 := HT3.out.apart (by omega) (by omega)
        obtain ⟨D, hD⟩ : ∃ D, hiL (ts.set kk (x + d)) - loL (ts.set kk (x + d)) = D := ⟨_, rfl⟩
        rw [hD] at hs hap3
        have HV := Lib.hid (show wrap64 (hiL (ts.set kk (x + d)) - loL (ts.set kk (x + d))) = D by rw [hD]; exact hap3.1)
        have hb := HAP.out.2
        obtain ⟨hb1, hb2, hb3⟩ := hb
        obtain ⟨hs1, hs2⟩ := hs
        clear hC3 hK3 hap3 hD
        go_wp2_with (fail)
        refine (apart_clk g b _ 9 wr3 HC3.out (by rw [HT3.out.len]; omega) (by rw [HT3.out.len]; omega)).mono ?_
        rintro e wr4 ⟨rfl, n2, rfl⟩
        rw [HV.out]
        go_wp2_with (fail)
        refine (apart_clk g b _ 9 _ (HC3.out.drewN n2) (by rw [HT3.out.len]; omega) (by rw [HT3.out.len]; omega)).mono ?_
        rintro e wr5 ⟨rfl, n3, rfl⟩
        rw [HV.out]
        go_wp2
        go_roundw
        case rel => exact ⟨k + 1, _, by omega, by omega, by go_num, HC3.out, HT3.out.more (by omega), below_drewN HB3.out _⟩
        case measure => simp [intOf]; omega
    · have hk3 : len1 ≤ k ∨ 100 ≤ k := by omega
      rcases hk3 with h | h
      · have g1 : (len1 : Int) ≤ (k : Int) := by omega
        clear hk
        go_wp2
        go_ret
        exact ⟨rfl, HBr.out⟩
      · have g1 : (100 : Int) ≤ (k : Int) := by omega
        clear hk
        by_cases h2 : len1 ≤ k
        all_goals
          go_wp2
          go_ret
          exact ⟨rfl, HBr.out⟩
end Go.Proofs.Ytodplpjoonkniaa
