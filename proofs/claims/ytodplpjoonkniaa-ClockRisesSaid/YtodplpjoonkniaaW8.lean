import Derived.Test.YtodplpjoonkniaaW7
namespace Go.Proofs.Ytodplpjoonkniaa
open Go Go.RowKit
set_option linter.unusedVariables false
set_option linter.unusedSimpArgs false

/-- Is there such a node? -/
def isIn (ts : List Int) (k : Int) : Prop := 0 ≤ k ∧ k < (ts.length : Int)
instance (ts : List Int) (k : Int) : Decidable (isIn ts k) := by unfold isIn; infer_instance
def tm (ts : List Int) (k : Int) : Int := ts.getD k.toNat 0
/-- Step: its number, its error, the times behind it. -/
def stV (ts : List Int) (k n : Int) : Int := if isIn ts k then (if n < 0 then 0 else if n > 1073741824 - tm ts k then 0 else tm ts k + n) else 0
def stE (ts : List Int) (k n : Int) : Int := if isIn ts k then (if n < 0 then 1 else if n > 1073741824 - tm ts k then 2 else 0) else 30
def stT (ts : List Int) (k n : Int) : List Int := if isIn ts k then (if n < 0 then ts else if n > 1073741824 - tm ts k then ts else ts.set k.toNat (tm ts k + n)) else ts
def alE (ts : List Int) (n : Int) : Int := if n < 0 then 1 else if n > 1073741824 - hiL ts then 2 else 0
def alT (ts : List Int) (n : Int) : List Int := if n < 0 then ts else if n > 1073741824 - hiL ts then ts else ts.map (· + n)
def nwV (ts : List Int) (k : Int) : Int := if isIn ts k then tm ts k else 0
def nwE (ts : List Int) (k : Int) : Int := if isIn ts k then 0 else 30
/-- Times as a clock has them. -/
structure Good (ts : List Int) : Prop where
  pos : 0 < ts.length
  len : ts.length ≤ 16
  lo : ∀ x ∈ ts, 0 ≤ x
  hi : ∀ x ∈ ts, x ≤ 1073741824
theorem tm_get {ts : List Int} {k : Int} (h : isIn ts k) : ts[k.toNat]? = some (tm ts k) := by
  have hk : k.toNat < ts.length := by unfold isIn at h; omega
  unfold tm
  rw [List.getD_eq_getElem?_getD, List.getElem?_eq_getElem hk]
  rfl
theorem Good.hiL {ts : List Int} (h : Good ts) : 0 ≤ hiL ts ∧ hiL ts ≤ 1073741824 := by
  have h1 := (hiL_spec h.pos).1
  exact ⟨h.lo _ h1, h.hi _ h1⟩
theorem Good.st {ts : List Int} (h : Good ts) (k n : Int) : Good (stT ts k n) := by
  unfold stT
  split
  · rename_i hin
    split
    · exact h
    · split
      · exact h
      · have hx := List.mem_of_getElem? (tm_get hin)
        have h0 := h.lo _ hx
        refine ⟨by simpa using h.pos, by simpa using h.len, fun x hx => ?_, fun x hx => ?_⟩
        · rcases List.mem_or_eq_of_mem_set hx with hx | rfl
          · exact h.lo _ hx
          · omega
        · rcases List.mem_or_eq_of_mem_set hx with hx | rfl
          · exact h.hi _ hx
          · omega
  · exact h
theorem Good.al {ts : List Int} (h : Good ts) (n : Int) : Good (alT ts n) := by
  unfold alT
  split
  · exact h
  · split
    · exact h
    · have hh := (hiL_spec h.pos).2
      refine ⟨by simpa using h.pos, by simpa using h.len, fun x hx => ?_, fun x hx => ?_⟩ <;> obtain ⟨y, hy, rfl⟩ := List.mem_map.1 hx
      · have := h.lo _ hy; show 0 ≤ y + n; omega
      · have := hh _ hy; show y + n ≤ 1073741824; omega

theorem step_out (g b : Nat) (k n : Int) (ts : List Int) (wd : Int) (w : World) (h : Clk w g b ts wd) (hk : k < 0 ∨ (ts.length : Int) ≤ k) :
    Calls Try.prog 12 #[.pointer (some ⟨g, 0, none⟩), .int .i64 k, .int .i64 n] w fun e w' => e = .returned (.tuple #[.int .i64 0, .int .i64 30]) ∧ w = w' := by
  obtain ⟨⟨c, h1⟩, h2⟩ := h
  have HH := Lib.hid (at_out g b ts.length c k _ w h1 hk)
  clear h1 h2 hk
  go_enter Try.func12, Try.ntmps12
  go_wp2_with (go_at_call 25; refine HH.out.mono ?_; rintro e w' ⟨rfl, rfl⟩)
  go_ret2
  exact ⟨rfl, rfl⟩
theorem step_bad (g b k : Nat) (ts : List Int) (wd x n : Int) (w : World) (h : Clk w g b ts wd) (hx : ts[k]? = some x) (hl : ts.length ≤ 16) (hx0 : 0 ≤ x) (hx1 : x ≤ 1073741824) (hn : n < 0 ∨ n > 1073741824 - x) :
    Calls Try.prog 12 #[.pointer (some ⟨g, 0, none⟩), .int .i64 (k : Int), .int .i64 n] w fun e w' => e = .returned (.tuple #[.int .i64 0, .int .i64 (if n < 0 then 1 else 2)]) ∧ w = w' := by
  obtain ⟨⟨c, h1⟩, h2⟩ := h
  have hc := h2.cell hx
  have hk : k < ts.length := (List.getElem?_eq_some_iff.1 hx).1
  have HH := Lib.hid (at_in g b ts.length c k _ w h1 hk hl)
  clear h1 h2 hx hl
  by_cases h0 : n < 0
  · rw [if_pos h0]
    clear hn
    go_enter Try.func12, Try.ntmps12
    go_wp2_with (go_at_call 25; refine HH.out.mono ?_; rintro e w' ⟨rfl, rfl⟩)
    go_ret2
    exact ⟨rfl, rfl⟩
  · rw [if_neg h0]
    have h1 : 1073741824 - x < n := by omega
    have h2 : 0 ≤ n := by omega
    clear hn h0
    go_enter Try.func12, Try.ntmps12
    go_wp2_with (go_at_call 25; refine HH.out.mono ?_; rintro e w' ⟨rfl, rfl⟩)
    go_ret2
    exact ⟨rfl, rfl⟩
theorem step_any (g b : Nat) (ts : List Int) (wd k n : Int) (w : World) (h : Clk w g b ts wd) (hg : Good ts) :
    Calls Try.prog 12 #[.pointer (some ⟨g, 0, none⟩), .int .i64 k, .int .i64 n] w fun e w' => e = .returned (.tuple #[.int .i64 (stV ts k n), .int .i64 (stE ts k n)]) ∧ Clk w' g b (stT ts k n) wd ∧ Kept w w' (fun j => j = b) := by
  by_cases hin : isIn ts k
  · have hx := tm_get hin
    have hxm := List.mem_of_getElem? hx
    obtain ⟨kk, rfl⟩ : ∃ kk : Nat, k = (kk : Int) := ⟨k.toNat, by unfold isIn at hin; omega⟩
    simp only [stV, stE, stT, if_pos hin, Int.toNat_natCast] at hx ⊢
    by_cases hb : n < 0 ∨ n > 1073741824 - tm ts kk
    · refine (step_bad g b kk ts wd _ n w h hx hg.len (hg.lo _ hxm) (hg.hi _ hxm) hb).mono ?_
      rintro e w' ⟨rfl, rfl⟩
      by_cases h0 : n < 0
      · simp only [if_pos h0]
        exact ⟨trivial, h, Kept.refl _ _⟩
      · have h1 : n > 1073741824 - tm ts kk := by omega
        simp only [if_neg h0, if_pos h1]
        exact ⟨trivial, h, Kept.refl _ _⟩
    · have h0 : ¬ n < 0 := by omega
      have h1 : ¬ n > 1073741824 - tm ts kk := by omega
      simp only [if_neg h0, if_neg h1]
      exact step_clk g b kk ts wd _ n w h hx hg.len (by omega) (by omega) (hg.lo _ hxm)
  · simp only [stV, stE, stT, if_neg hin]
    refine (step_out g b k n ts wd w h (by unfold isIn at hin; omega)).mono ?_
    rintro e w' ⟨rfl, rfl⟩
    exact ⟨rfl, h, Kept.refl _ _⟩
theorem all_any (g b : Nat) (ts : List Int) (wd n : Int) (w : World) (h : Clk w g b ts wd) (hg : Good ts) :
    Calls Try.prog 11 #[.pointer (some ⟨g, 0, none⟩), .int .i64 n] w fun e w' => e = .returned (.int .i64 (alE ts n)) ∧ Clk w' g b (alT ts n) wd ∧ Kept w w' (fun j => j = b) := by
  have hh := hg.hiL
  by_cases h0 : n < 0
  · simp only [alE, alT, if_pos h0]
    cases ts with
    | nil => have := hg.pos; simp at this
    | cons x l =>
      refine (all_bad g b x l wd n w h (by have := hg.len; simp at this; omega) h0).mono ?_
      rintro e w' ⟨rfl, rfl⟩
      exact ⟨rfl, h, Kept.refl _ _⟩
  · by_cases h1 : n > 1073741824 - hiL ts
    · simp only [alE, alT, if_neg h0, if_pos h1]
      cases ts with
      | nil => have := hg.pos; simp at this
      | cons x l =>
        refine (all_long g b x l wd n w h (by have := hg.len; simp at this; omega) (by omega) hh.1 hh.2 h1).mono ?_
        rintro e w' ⟨rfl, rfl⟩
        exact ⟨rfl, h, Kept.refl _ _⟩
    · simp only [alE, alT, if_neg h0, if_neg h1]
      exact all_clk g b ts wd n w h hg.pos hg.len (by omega) hg.lo hh.2 (by omega) hh.1 (hiL_spec hg.pos).2
theorem now_any (g b : Nat) (ts : List Int) (wd k : Int) (w : World) (h : Clk w g b ts wd) (hg : Good ts) :
    Calls Try.prog 13 #[.pointer (some ⟨g, 0, none⟩), .int .i64 k] w fun e w' => e = .returned (.tuple #[.int .i64 (nwV ts k), .int .i64 (nwE ts k)]) ∧ w = w' := by
  by_cases hin : isIn ts k
  · have hx := tm_get hin
    obtain ⟨kk, rfl⟩ : ∃ kk : Nat, k = (kk : Int) := ⟨k.toNat, by unfold isIn at hin; omega⟩
    simp only [nwV, nwE, if_pos hin, Int.toNat_natCast] at hx ⊢
    exact now_in g b kk ts wd _ w h hx hg.len
  · simp only [nwV, nwE, if_neg hin]
    obtain ⟨⟨c, h1⟩, h2⟩ := h
    have HH := Lib.hid (at_out g b ts.length c k _ w h1 (by unfold isIn at hin; omega))
    clear h1 h2 hin
    go_enter Try.func13, Try.ntmps13
    go_wp2_with (go_at_call 25; refine HH.out.mono ?_; rintro e w' ⟨rfl, rfl⟩)
    go_ret2
    exact ⟨rfl, rfl⟩
end Go.Proofs.Ytodplpjoonkniaa
