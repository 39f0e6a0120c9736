import Derived.Test.YtaaeiljeanfinaaNetI
namespace Go.Proofs.Ytaaeiljeanfinaa
open Go Go.RowKit
set_option linter.unusedVariables false
set_option linter.unusedSimpArgs false

theorem net_new_bad (n : Int) (w : World) (hn : n < 1 ∨ 16 < n) :
    Calls Try.prog 8 #[.int .i64 n] w fun e w' => e = .returned (.tuple #[.pointer none, .int .i64 1]) ∧ Below w.heap.size w w' := by
  by_cases h : n < 1
  · clear hn
    go_enter Try.func8, Try.ntmps8
    go_wp2
    go_ret2
    exact ⟨rfl, Below.refl _ _⟩
  · have h2 : 16 < n := by omega
    have h3 : 1 ≤ n := by omega
    clear hn h
    go_enter Try.func8, Try.ntmps8
    go_wp2
    go_ret2
    exact ⟨rfl, Below.refl _ _⟩
theorem net_new_ok (n : Int) (w : World) (h1 : 1 ≤ n) (h2 : n ≤ 16) :
    Calls Try.prog 8 #[.int .i64 n] w fun e w' => e = .returned (.tuple #[.pointer (some ⟨w.heap.size, 0, none⟩), .int .i64 0]) ∧ Below w.heap.size w w' ∧ NetAt w' (fun k => k = w.heap.size) w.heap.size ⟨n, 0, [], []⟩ ∧ w'.heap.size = w.heap.size + 1 := by
  go_enter Try.func8, Try.ntmps8
  go_wp2
  go_ret2
  exact ⟨rfl, (Below.refl _ _).alloc (Nat.le_refl _) _, ⟨_, _, Blk.new w _ _, Row.nil_ .., Row.nil_ .., rfl, by simp [Value.ownBlock], by simp [Value.ownBlock]⟩, by simp⟩

def NetS.askParted (s : NetS) (a b : Int) : Bool × Int := if (s.has a && s.has b) = true then (s.isParted a b, 0) else (false, 30)
set_option maxHeartbeats 1000000 in
theorem net_parted (F : Nat → Prop) (g : Nat) (s : NetS) (a b : Int) (w : World) (h : NetAt w F g s) (hlp : s.parted.length ≤ 1000000) :
    Calls Try.prog 18 #[.pointer (some ⟨g, 0, none⟩), .int .i64 a, .int .i64 b] w fun e w' => e = .returned (.tuple #[.bool (s.askParted a b).1, .int .i64 (s.askParted a b).2]) ∧ Below w.heap.size w w' := by
  have h1 := h.below ((Below.refl _ w).alloc (Nat.le_refl _) (.cells #[.int .i64 a, .int .i64 b] 3))
  have hk := net_known F g s _ [a, b] _ h1 (row_two w a b) (by simp)
  rw [show [a, b].all s.has = (s.has a && s.has b) by simp] at hk
  have HS := Lib.hid (show s.askParted a b = if (s.has a && s.has b) = true then (s.isParted a b, 0) else (false, 30) from rfl)
  obtain ⟨vl, vp, hb, r1, r2, hg', f1, f2⟩ := h
  have HA := Lib.hid (asks_of w vp s.parted r2 hlp)
  have hglt := hb.lt
  have hc3 := hb.cell 3
  obtain ⟨Ap, np, cp, rfl⟩ := r2.some_slice
  generalize s.askParted a b = r at HS ⊢
  generalize (s.has a && s.has b) = q at hk HS
  clear h1 hb r1 r2
  cases q with
  | false =>
    obtain rfl : r = (false, 30) := HS.out
    go_enter Try.func18, Try.ntmps18
    go_wp2_with (fail)
    refine hk.mono ?_
    rintro e w' ⟨rfl, hb'⟩
    go_wp2
    go_ret2
    exact ⟨rfl, below_next ((Below.refl _ _).alloc (Nat.le_refl _) _) hb'⟩
  | true =>
    obtain rfl : r = (s.isParted a b, 0) := HS.out
    unfold NetS.isParted
    obtain ⟨pr, HPr⟩ : ∃ pr, Hid (pr = s.parted.any fun x : Pr => min a b == x.1 && max a b == x.2) := ⟨_, Lib.hid rfl⟩
    rw [← HPr.out]
    clear HS
    go_enter Try.func18, Try.ntmps18
    go_wp2_with (fail)
    refine hk.mono ?_
    rintro e w' ⟨rfl, hb'⟩
    have d3 : w'.cell? ⟨g, 3, none⟩ = _ := (hb'.cell (p := ⟨g, 3, none⟩) (by simp; omega)).trans ((World.cell?_alloc_lt _ _ _ hglt).trans hc3)
    have HB := Lib.hid (below_next ((Below.refl _ w).alloc (Nat.le_refl _) _) hb')
    clear hb' hk hc3
    go_wp2
    go_region_held3 (fun W => W.cell? ⟨g, 3, none⟩ = some (.slice Ap np cp)) (first | go_keep | assumption)
      (first
        | (go_at_call 28; (with_reducible refine (net_of _ _ _).mono ?_); rintro e w1 ⟨rfl, hb1⟩; have q3 : w1.cell? ⟨g, 3, none⟩ = _ := (hb1.cell (p := ⟨g, 3, none⟩) (lt_of_cell d3)).trans d3; have HB1 := Lib.hid (below_next HB.out.drew hb1); clear hb1)
        | (go_at_call 27; (refine (HA.out _ _ _ HB1.out).mono ?_); rintro e w2 ⟨rfl, hb2⟩; have t3 : w2.cell? ⟨g, 3, none⟩ = _ := (hb2.cell (p := ⟨g, 3, none⟩) (lt_of_cell q3)).trans q3; have HB2 := Lib.hid (below_next HB1.out hb2); clear hb2; rw [← HPr.out]))
    all_goals
      go_wp2
      go_ret2
      exact ⟨rfl, HB2.out⟩

def NetS.join (s : NetS) (a b : Int) : NetS × Int := if (s.has a && s.has b) = true then ({ s with parted := s.parted.filter fun x : Pr => !(x.1 == min a b && x.2 == max a b) }, 0) else (s, 30)
set_option maxHeartbeats 1000000 in
theorem net_join (F : Nat → Prop) (g : Nat) (s : NetS) (a b : Int) (w : World) (h : NetAt w F g s) (hF : ∀ k, F k → k < w.heap.size) (hlp : s.parted.length ≤ 1000000) :
    Calls Try.prog 17 #[.pointer (some ⟨g, 0, none⟩), .int .i64 a, .int .i64 b] w fun e w' => e = .returned (.int .i64 (s.join a b).2) ∧ NetPost w F g (s.join a b).1 w' := by
  have hbb := Lib.hid ((((Below.refl _ w).alloc (Nat.le_refl _) (.cells #[.int .i64 a] 3)).alloc (by simp) (.cells #[.int .i64 b] 3)).alloc (by simp; omega) (.cells #[.int .i64 a, .int .i64 b] 3))
  have h1 := h.below hbb.out
  have hk := net_known F g s _ [a, b] _ h1 (row_two ((w.alloc _).alloc _) a b) (by simp)
  rw [show [a, b].all s.has = (s.has a && s.has b) by simp] at hk
  have H := Lib.hid h
  have HS := Lib.hid (show s.join a b = if (s.has a && s.has b) = true then ({ s with parted := s.parted.filter fun x : Pr => !(x.1 == min a b && x.2 == max a b) }, 0) else (s, 30) from rfl)
  generalize s.join a b = r at HS ⊢
  generalize (s.has a && s.has b) = q at hk HS
  clear h1
  simp only [World.size_alloc] at hk
  cases q with
  | false =>
    obtain rfl : r = (s, 30) := HS.out
    clear h
    go_enter Try.func17, Try.ntmps17
    go_wp2_with (fail)
    refine hk.mono ?_
    rintro e w' ⟨rfl, hb'⟩
    go_wp2
    go_ret
    exact ⟨rfl, NetPost.of_below H.out (below_next hbb.out (by simpa using hb'))⟩
  | true =>
    obtain rfl : r = ({ s with parted := s.parted.filter fun x : Pr => !(x.1 == min a b && x.2 == max a b) }, 0) := HS.out
    obtain ⟨vl, vp, hb, r1, r2, hg, f1, f2⟩ := h
    have hglt := hb.lt
    have hc3 := hb.cell 3
    have HB := Lib.hid hb
    have R1 := Lib.hid r1
    have R2 := Lib.hid r2
    have hvp := Lib.hid (fun k (e : vp.ownBlock = some k) => r2.lt e)
    obtain ⟨Ap, np, cp, rfl⟩ := r2.some_slice
    clear hb r1 r2 HS
    go_enter Try.func17, Try.ntmps17
    go_wp2_with (fail)
    refine hk.mono ?_
    rintro e w' ⟨rfl, hb'⟩
    have HW := Lib.hid (below_next hbb.out (by simpa using hb'))
    have d3 : w'.cell? ⟨g, 3, none⟩ = _ := (HW.out.cell (p := ⟨g, 3, none⟩) hglt).trans hc3
    have d3f : w'.frozen? ⟨g, 3, none⟩ = false := (HW.out.frozen (p := ⟨g, 3, none⟩) hglt).trans (HB.out.frozen 3)
    have xa : w'.cell? ⟨w.heap.size, 0, none⟩ = some (.int .i64 a) := (hb'.cell (p := ⟨w.heap.size, 0, none⟩) (by simp; omega)).trans (by go_simp)
    have xb : w'.cell? ⟨w.heap.size + 1, 0, none⟩ = some (.int .i64 b) := (hb'.cell (p := ⟨w.heap.size + 1, 0, none⟩) (by simp)).trans (by go_simp)
    clear hb' hk hc3
    have hsz := hlp
    have HD := Lib.hid (delfunc_pairs (.slice Ap np cp) s.parted _ _ _ w' (R2.out.kept (Kept.of_below HW.out fun _ => False) (fun _ _ h => h)) (by omega) (join_says _ w.heap.size (w.heap.size + 1) a b w' xa (lt_of_cell xa) (fun e => by have := hvp.out _ e; omega) xb (lt_of_cell xb) (fun e => by have := hvp.out _ e; omega)) (Go.Proofs.enters_of Try.func31 (by kernel_rfl) rfl))
    go_wp2_with (fail)
    refine HD.out.mono ?_
    rintro e w2 ⟨v2, rfl, hR2, hK2, hO2⟩
    have HR2 := Lib.hid hR2
    have HK2 := Lib.hid hK2
    have HO2 := Lib.hid hO2
    have hB2 := Lib.hid ((HB.out.kept (Kept.of_below HW.out fun _ => False) (fun h => h)).kept hK2 (fun e => R2.out.ne_blk HB.out (by decide) e))
    have t3 := hB2.out.cell 3
    have t3f := hB2.out.frozen 3
    obtain ⟨A2, n2, c2, rfl⟩ := hR2.some_slice
    clear hR2 hK2 hO2
    go_wp2
    go_ret
    have hks : Kept w2 (w2.setCell ⟨g, 3, none⟩ (.slice A2 n2 c2)) (fun k => k = g) := (Kept.refl w2 (fun k => k = g)).setCell (p := ⟨g, 3, none⟩) (.inl rfl) _
    refine ⟨rfl, NetPost.kept (((Kept.of_below HW.out F).trans (HK2.out.mono fun k _ e => f2 k e)).setCell (.inl hg) _) ⟨vl, _, hB2.out.set_ 3 _, ?_, HR2.out.kept hks (fun k e h => HR2.out.ne_blk hB2.out (by decide) (h ▸ e)), hg, f1, fun k e => f2 k (HO2.out ▸ e)⟩⟩
    have r1' := (R1.out.kept (Kept.of_below HW.out fun _ => False) (fun _ _ h => h)).kept HK2.out (fun k e e' => R1.out.apart R2.out (by decide) k e e')
    exact r1'.kept hks (fun k e h => r1'.ne_blk hB2.out (by decide) (h ▸ e))
end Go.Proofs.Ytaaeiljeanfinaa
