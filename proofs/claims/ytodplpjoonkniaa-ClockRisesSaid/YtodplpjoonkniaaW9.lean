import Derived.Test.YtodplpjoonkniaaW8
namespace Go.Proofs.Ytodplpjoonkniaa
open Go Go.RowKit
set_option linter.unusedVariables false
set_option linter.unusedSimpArgs false

/-- A reference's clock. -/
def Rlk (w : World) (g b : Nat) (ts : List Int) (wd : Int) : Prop := (∃ c : Nat, Blk w g 59 #[.slice (some ⟨b, 0, none⟩) ts.length c, .int .u64 wd]) ∧ Ints w b ts
section
variable {w w' : World} {g b : Nat} {ts : List Int} {wd : Int}
theorem Rlk.ne (h : Rlk w g b ts wd) : g ≠ b := by
  obtain ⟨⟨c, h1⟩, cur, h2, _⟩ := h
  exact h1.ne_ h2 (by decide)
theorem Rlk.lt (h : Rlk w g b ts wd) : g < w.heap.size ∧ b < w.heap.size := by
  obtain ⟨⟨c, h1⟩, h2⟩ := h
  exact ⟨h1.lt, h2.lt⟩
theorem Rlk.kept {S : Nat → Prop} (h : Rlk w g b ts wd) (hk : Kept w w' S) (hg : ¬ S g) (hb : ¬ S b) : Rlk w' g b ts wd := by
  obtain ⟨⟨c, h1⟩, h2⟩ := h
  exact ⟨⟨c, h1.kept hk hg⟩, h2.kept hk hb⟩
theorem Rlk.drewN (h : Rlk w g b ts wd) (n : Nat) : Rlk (w.drewN n) g b ts wd := h
end

theorem rnew_bad (n seed : Int) (w : World) (hn : n < 1 ∨ 16 < n) :
    Calls Try.prog 16 #[.int .i64 n, .int .u64 seed] w fun e w' => e = .returned (.tuple #[.pointer none, .int .i64 1]) ∧ w = w' := by
  by_cases h : n < 1
  · clear hn
    go_enter Try.func16, Try.ntmps16
    go_wp2
    go_ret2
    exact ⟨rfl, rfl⟩
  · have h2 : 16 < n := by omega
    clear hn
    go_enter Try.func16, Try.ntmps16
    go_wp2
    go_ret2
    exact ⟨rfl, rfl⟩
theorem rnew_ok (n : Nat) (seed : Int) (w : World) (h1 : 1 ≤ n) (h2 : n ≤ 16) :
    Calls Try.prog 16 #[.int .i64 n, .int .u64 seed] w fun e w' => ∃ g b, e = .returned (.tuple #[.pointer (some ⟨g, 0, none⟩), .int .i64 0]) ∧ Rlk w' g b (List.replicate n 0) seed ∧ w.heap.size ≤ g ∧ w.heap.size ≤ b ∧ Below w.heap.size w w' := by
  obtain ⟨i0, hi, hz0, hz1, hz2⟩ := info_parts info3
  have hmk : ∀ w : World, (Instr.makeSlice 31 (.int .i64 (n : Int)) (.int .i64 (n : Int))).run Try.prog w = .ok (.slice (some ⟨w.heap.size, 0, none⟩) n n) (w.alloc (.cells (madeCells #[Value.int .i64 0] n) 3)) := fun w => by
    have hr := run_make (P := Try.prog) w 31 3 i0 (.int .i64 0) Try.underlying31 hi hz0 .i64 .i64 n n (by omega) (by omega) (by rw [hz2]; omega) (by omega)
    simp only [Int.toNat_natCast, hz1, Nat.mul_one] at hr
    exact hr
  have g1 : (1 : Int) ≤ n := by omega
  have g2 : (n : Int) ≤ 16 := by omega
  clear hi hz0 hz1 hz2
  go_enter Try.func16, Try.ntmps16
  go_wp2
  go_ret2
  refine ⟨_, _, rfl, ⟨⟨n, by simpa using Blk.new (w.alloc _) 59 _⟩, ⟨_, (Blk.new w 3 (madeCells #[Value.int .i64 0] n)).alloc _, fun i x hx => ?_⟩⟩, by simp, by simp, ((Below.refl _ _).alloc (Nat.le_refl _) _).alloc (by simp) _⟩
  obtain ⟨hi, hx⟩ := List.getElem?_eq_some_iff.1 hx
  simp only [List.length_replicate] at hi
  simp only [List.getElem_replicate] at hx
  subst hx
  exact zeros_get n i hi

theorem none_in (g b : Nat) (ts : List Int) (wd k : Int) (w : World) (h : Rlk w g b ts wd) (h0 : 0 ≤ k) (h1 : k < (ts.length : Int)) :
    Calls Try.prog 28 #[.pointer (some ⟨g, 0, none⟩), .int .i64 k] w fun e w' => e = .returned (.bool false) ∧ w = w' := by
  obtain ⟨⟨c, hb⟩, _⟩ := h
  have hc : w.cell? ⟨g, 0, none⟩ = some (.slice (some ⟨b, 0, none⟩) ts.length c) := hb.cell 0
  have q : decide ((ts.length : Int) ≤ k) = false := by simp; omega
  have q0 : decide (k < 0) = false := by simp; omega
  clear hb
  go_enter Try.func28, Try.ntmps28
  go_wp2
  go_ret
  exact ⟨rfl, rfl⟩
theorem none_out (g b : Nat) (ts : List Int) (wd k : Int) (w : World) (h : Rlk w g b ts wd) (hk : k < 0 ∨ (ts.length : Int) ≤ k) :
    Calls Try.prog 28 #[.pointer (some ⟨g, 0, none⟩), .int .i64 k] w fun e w' => e = .returned (.bool true) ∧ w = w' := by
  obtain ⟨⟨c, hb⟩, _⟩ := h
  have hc : w.cell? ⟨g, 0, none⟩ = some (.slice (some ⟨b, 0, none⟩) ts.length c) := hb.cell 0
  clear hb
  by_cases h0 : k < 0
  · clear hk
    go_enter Try.func28, Try.ntmps28
    go_wp2
    go_ret
    exact ⟨rfl, rfl⟩
  · have h1 : (ts.length : Int) ≤ k := by omega
    have q0 : decide (k < 0) = false := by simp; omega
    clear hk
    go_enter Try.func28, Try.ntmps28
    go_wp2
    go_ret
    exact ⟨rfl, rfl⟩

theorem rnow_any (g b : Nat) (ts : List Int) (wd k : Int) (w : World) (h : Rlk w g b ts wd) (hg : Good ts) :
    Calls Try.prog 20 #[.pointer (some ⟨g, 0, none⟩), .int .i64 k] w fun e w' => e = .returned (.tuple #[.int .i64 (nwV ts k), .int .i64 (nwE ts k)]) ∧ w = w' := by
  by_cases hin : isIn ts k
  · have hx := tm_get hin
    simp only [nwV, nwE, if_pos hin]
    have hin' := hin
    unfold isIn at hin'
    have HH := Lib.hid (none_in g b ts wd k w h hin'.1 hin'.2)
    obtain ⟨⟨c, hb⟩, hi⟩ := h
    have hc : w.cell? ⟨g, 0, none⟩ = some (.slice (some ⟨b, 0, none⟩) ts.length c) := hb.cell 0
    obtain ⟨kk, rfl⟩ : ∃ kk : Nat, k = (kk : Int) := ⟨k.toNat, by omega⟩
    have hcx := hi.cell hx
    rw [Int.toNat_natCast] at hcx
    have hk := hin'.2
    have hl := hg.len
    clear hb hi hx hin hin'
    go_enter Try.func20, Try.ntmps20
    go_wp2_with (go_at_call 28; refine HH.out.mono ?_; rintro e w' ⟨rfl, rfl⟩)
    go_ret2
    exact ⟨rfl, rfl⟩
  · simp only [nwV, nwE, if_neg hin]
    have HH := Lib.hid (none_out g b ts wd k w h (by unfold isIn at hin; omega))
    clear h hin
    go_enter Try.func20, Try.ntmps20
    go_wp2_with (go_at_call 28; refine HH.out.mono ?_; rintro e w' ⟨rfl, rfl⟩)
    go_ret2
    exact ⟨rfl, rfl⟩

theorem rdraw_bad (g : Nat) (n : Int) (w : World) (hn : n < 1 ∨ 2147483648 < n) :
    Calls Try.prog 19 #[.pointer (some ⟨g, 0, none⟩), .int .i64 n] w fun e w' => e = .returned (.tuple #[.int .i64 0, .int .i64 1]) ∧ w = w' := by
  by_cases h : n < 1
  · clear hn
    go_enter Try.func19, Try.ntmps19
    go_wp2
    go_ret2
    exact ⟨rfl, rfl⟩
  · have h2 : 2147483648 < n := by omega
    clear hn
    go_enter Try.func19, Try.ntmps19
    go_wp2
    go_ret2
    exact ⟨rfl, rfl⟩
theorem rdraw_ok (g b : Nat) (ts : List Int) (wd n : Int) (w : World) (h : Rlk w g b ts wd) (h1 : 1 ≤ n) (h2 : n ≤ 2147483648) :
    Calls Try.prog 19 #[.pointer (some ⟨g, 0, none⟩), .int .i64 n] w fun e w' => e = .returned (.tuple #[.int .i64 (wrap64 ((mix (nxt wd)).tmod n)), .int .i64 0]) ∧ w' = w.setCell ⟨g, 1, none⟩ (.int .u64 (nxt wd)) := by
  obtain ⟨⟨c, hb⟩, _⟩ := h
  have hc : w.cell? ⟨g, 1, none⟩ = some (.int .u64 wd) := hb.cell 1
  have hf := hb.frozen 1
  clear hb
  go_enter Try.func19, Try.ntmps19
  go_wp2
  go_ret2
  exact ⟨rfl, rfl⟩
theorem rdraw_any (g b : Nat) (ts : List Int) (wd n : Int) (w : World) (h : Rlk w g b ts wd) :
    Calls Try.prog 19 #[.pointer (some ⟨g, 0, none⟩), .int .i64 n] w fun e w' => e = .returned (.tuple #[.int .i64 (drV wd n), .int .i64 (drE n)]) ∧ Rlk w' g b ts (drW wd n) ∧ Kept w w' (fun k => k = g) := by
  by_cases hn : 1 ≤ n ∧ n ≤ 2147483648
  · have hd : drOk n = true := by simp [drOk, hn]
    simp only [drV, drE, drW, hd, if_true]
    refine (rdraw_ok g b ts wd n w h hn.1 hn.2).mono ?_
    rintro e w' ⟨rfl, rfl⟩
    have hne := h.ne
    obtain ⟨⟨c, hb⟩, hi⟩ := h
    exact ⟨rfl, ⟨⟨c, by simpa using hb.set_ 1 _⟩, hi.far (p := ⟨g, 1, none⟩) (fun e => hne e.symm) _⟩, (Kept.refl w (fun k => k = g)).setCell (.inl rfl) _⟩
  · have hd : drOk n = false := by
      simp only [drOk, Bool.and_eq_false_iff, decide_eq_false_iff_not]
      omega
    simp only [drV, drE, drW, hd, Bool.false_eq_true, if_false]
    refine (rdraw_bad g n w (by omega)).mono ?_
    rintro e w' ⟨rfl, rfl⟩
    exact ⟨rfl, h, Kept.refl _ _⟩

theorem rstep_any (g b : Nat) (ts : List Int) (wd k n : Int) (w : World) (h : Rlk w g b ts wd) (hg : Good ts) :
    Calls Try.prog 17 #[.pointer (some ⟨g, 0, none⟩), .int .i64 k, .int .i64 n] w fun e w' => e = .returned (.tuple #[.int .i64 (stV ts k n), .int .i64 (stE ts k n)]) ∧ Rlk w' g b (stT ts k n) wd ∧ Kept w w' (fun j => j = b) := by
  by_cases hin : isIn ts k
  · have hx := tm_get hin
    have hxm := List.mem_of_getElem? hx
    have hx0 := hg.lo _ hxm
    have hx1 := hg.hi _ hxm
    have hin' := hin
    unfold isIn at hin'
    have HH := Lib.hid (none_in g b ts wd k w h hin'.1 hin'.2)
    have hne := h.ne
    have H := Lib.hid h
    obtain ⟨⟨c, hb⟩, hi⟩ := h
    have hc : w.cell? ⟨g, 0, none⟩ = some (.slice (some ⟨b, 0, none⟩) ts.length c) := hb.cell 0
    obtain ⟨kk, rfl⟩ : ∃ kk : Nat, k = (kk : Int) := ⟨k.toNat, by omega⟩
    rw [Int.toNat_natCast] at hx
    have hcx := hi.cell hx
    have hfx := hi.frozen kk
    have hk := hin'.2
    have hkk : kk < ts.length := by omega
    have hl := hg.len
    simp only [stV, stE, stT, if_pos hin, Int.toNat_natCast]
    obtain ⟨x, hxe⟩ : ∃ x, tm ts (kk : Int) = x := ⟨_, rfl⟩
    rw [hxe] at hx hcx hx0 hx1 ⊢
    have hc2 : (w.setCell ⟨b, kk, none⟩ (.int .i64 (x + n))).cell? ⟨b, kk, none⟩ = some (.int .i64 (x + n)) := (hi.set_ kk hkk (x + n)).cell (by simp [hkk])
    have hc3 : (w.setCell ⟨b, kk, none⟩ (.int .i64 (x + n))).cell? ⟨g, 0, none⟩ = some (.slice (some ⟨b, 0, none⟩) ts.length c) := (hb.far (p := ⟨b, kk, none⟩) hne (.int .i64 (x + n))).cell 0
    have HB := Lib.hid hb
    have HI := Lib.hid hi
    have HNE := Lib.hid hne
    clear hxe hb hi hx hin hin' hxm hne hg
    by_cases h0 : n < 0
    · simp only [if_pos h0]
      clear hc2 hc3
      go_enter Try.func17, Try.ntmps17
      go_wp2_with (go_at_call 28; refine HH.out.mono ?_; rintro e w' ⟨rfl, rfl⟩)
      go_ret2
      exact ⟨rfl, H.out, Kept.refl _ _⟩
    · by_cases h1 : n > 1073741824 - x
      · simp only [if_neg h0, if_pos h1]
        have h2 : 0 ≤ n := by omega
        clear hc2 hc3 h0
        go_enter Try.func17, Try.ntmps17
        go_wp2_with (go_at_call 28; refine HH.out.mono ?_; rintro e w' ⟨rfl, rfl⟩)
        go_ret2
        exact ⟨rfl, H.out, Kept.refl _ _⟩
      · simp only [if_neg h0, if_neg h1]
        have h2 : 0 ≤ n := by omega
        have h3 : n ≤ 1073741824 - x := by omega
        clear h0 h1
        go_enter Try.func17, Try.ntmps17
        go_wp2_with (go_at_call 28; refine HH.out.mono ?_; rintro e w' ⟨rfl, rfl⟩)
        go_ret2
        exact ⟨rfl, ⟨⟨c, by simpa using HB.out.far (p := ⟨b, kk, none⟩) HNE.out _⟩, HI.out.set_ kk hkk _⟩, (Kept.refl w (fun j => j = b)).setCell (.inl rfl) _⟩
  · simp only [stV, stE, stT, if_neg hin]
    have HH := Lib.hid (none_out g b ts wd k w h (by unfold isIn at hin; omega))
    have H := Lib.hid h
    clear h hin
    go_enter Try.func17, Try.ntmps17
    go_wp2_with (go_at_call 28; refine HH.out.mono ?_; rintro e w' ⟨rfl, rfl⟩)
    go_ret2
    exact ⟨rfl, H.out, Kept.refl _ _⟩
end Go.Proofs.Ytodplpjoonkniaa
