import Derived.Test.YtodplpjoonkniaaW5
namespace Go.Proofs.Ytodplpjoonkniaa
open Go Go.RowKit
set_option linter.unusedVariables false
set_option linter.unusedSimpArgs false

theorem Clk.drewN {w : World} {g b : Nat} {ts : List Int} {wd : Int} (h : Clk w g b ts wd) (n : Nat) : Clk (w.drewN n) g b ts wd := h
/-- 'among': a number from 0 to n - 1. -/
def amg (a b : Int) : Int := (wrap64 (a.tmod b + b)).tmod b
theorem amg_bounds (a b : Int) (h : 0 < b) (hb : b ≤ 4611686018427387904) : 0 ≤ amg a b ∧ amg a b < b := by
  have h1 := Int.tmod_lt_of_pos a h
  have h2 : -b < a.tmod b := by
    have := Int.lt_tmod_of_pos a h
    omega
  have hw : wrap64 (a.tmod b + b) = a.tmod b + b := by unfold wrap64; omega
  unfold amg
  rw [hw]
  exact ⟨Int.tmod_nonneg _ (by omega), Int.tmod_lt_of_pos _ h⟩
theorem among_calls (a b : Int) (w : World) (h : 0 < b) : Calls Try.prog 8 #[.int .i64 a, .int .i64 b] w fun e w' => e = .returned (.int .i64 (amg a b)) ∧ w = w' := by
  have h0 : (b == 0) = false := by simp; omega
  have hb : b ≠ 0 := by omega
  go_enter Try.func8, Try.ntmps8
  go_wp2
  go_ret
  exact ⟨rfl, rfl⟩

/-- What an act's cells hold. -/
def Act3 (w : World) (A : Option Addr) (n : Nat) (f : Nat → Int × Int × Int) : Prop :=
  0 < n → ∃ ad, A = some ad ∧ ∀ i, i < n → w.cell? (ad.add (i * 3)) = some (.int .i64 (f i).1) ∧ w.cell? ⟨(ad.add (i * 3)).block, (ad.add (i * 3)).off + 1, none⟩ = some (.int .i64 (f i).2.1) ∧ w.cell? ⟨(ad.add (i * 3)).block, (ad.add (i * 3)).off + 2, none⟩ = some (.int .i64 (f i).2.2)
theorem add_field' (a : Addr) (x j : Nat) (h : 0 < j) : a.add (x + j) = ⟨(a.add x).block, (a.add x).off + j, none⟩ := by
  unfold Addr.add
  rw [if_neg (by omega)]
  split
  · rename_i h0; simp [h0]
  · simp [Nat.add_assoc]
theorem row3 {r : List Value} (h : Open.RowK [.int .i64, .int .i64, .int .i64] r) : ∃ a b c : Int, r = [.int .i64 a, .int .i64 b, .int .i64 c] := by
  obtain ⟨hl, hk⟩ := h
  match r, hl with
  | [x, y, z], _ =>
    obtain ⟨a, rfl, _⟩ := hk 0 _ _ rfl rfl
    obtain ⟨b, rfl, _⟩ := hk 1 _ _ rfl rfl
    obtain ⟨c, rfl, _⟩ := hk 2 _ _ rfl rfl
    exact ⟨a, b, c, rfl⟩
theorem act3_of {w : World} {A : Option Addr} {len cap : Nat} {rows : List (List Value)} (h : Open.Rows w [.int .i64, .int .i64, .int .i64] A len cap rows) : ∃ f, Act3 w A len f := by
  obtain ⟨hl, _, _, hr, hc⟩ := h
  refine ⟨fun i => match rows[i]? with | some [.int _ a, .int _ b, .int _ c] => (a, b, c) | _ => (0, 0, 0), fun h0 => ?_⟩
  obtain ⟨ad, hA, hcell⟩ := hc h0
  refine ⟨ad, hA, fun i hi => ?_⟩
  have hi' : i < rows.length := by omega
  obtain ⟨a, b, c, hrow⟩ := row3 (hr rows[i] (List.getElem_mem hi'))
  have hg : rows[i]? = some [.int .i64 a, .int .i64 b, .int .i64 c] := by rw [List.getElem?_eq_getElem hi', hrow]
  have h0 := hcell i _ hg 0 _ rfl
  have h1 := hcell i _ hg 1 _ rfl
  have h2 := hcell i _ hg 2 _ rfl
  simp only [List.length_cons, List.length_nil] at h0 h1 h2
  simp only [hg]
  exact ⟨h0, by rw [← add_field' _ _ 1 (by omega)]; exact h1, by rw [← add_field' _ _ 2 (by omega)]; exact h2⟩
theorem Act3.block_lt {w : World} {A : Option Addr} {n : Nat} {f : Nat → Int × Int × Int} (h : Act3 w A n f) (hn : 0 < n) : ∀ ad, A = some ad → ad.block < w.heap.size := by
  intro ad hA
  obtain ⟨ad', hA', hc⟩ := h hn
  rw [hA] at hA'
  injection hA' with hA'
  subst hA'
  have := (hc 0 hn).1
  rw [Nat.zero_mul] at this
  have h2 : ad.add 0 = ad := by simp [Addr.add]
  rw [h2] at this
  exact World.block_lt_of_cell? w ad this
theorem Act3.below {w w' : World} {A : Option Addr} {n : Nat} {f : Nat → Int × Int × Int} (h : Act3 w A n f) (hb : Below w.heap.size w w') : Act3 w' A n f := by
  intro hn
  have hlt := h.block_lt hn
  obtain ⟨ad, hA, hc⟩ := h hn
  refine ⟨ad, hA, fun i hi => ?_⟩
  obtain ⟨h1, h2, h3⟩ := hc i hi
  exact ⟨(hb.cell (World.block_lt_of_cell? w _ h1)).trans h1, (hb.cell (World.block_lt_of_cell? w _ h2)).trans h2, (hb.cell (World.block_lt_of_cell? w _ h3)).trans h3⟩
/-- A step that touches blocks of the call's own alone. -/
theorem below_kept {w w1 w2 : World} {S : Nat → Prop} (h : Below w.heap.size w w1) (hk : Kept w1 w2 S) (hs : ∀ k, k < w.heap.size → ¬ S k) : Below w.heap.size w w2 := Below.trans h (hk.below h.size hs)
theorem below_drewN {w w1 : World} (h : Below w.heap.size w w1) (n : Nat) : Below w.heap.size w (w1.drewN n) := ⟨h.os, h.tape, h.output, h.size, h.block⟩
theorem below_below {w w1 w2 : World} (h : Below w.heap.size w w1) (h2 : Below w1.heap.size w1 w2) : Below w.heap.size w w2 := Below.trans h (h2.mono h.size)
end Go.Proofs.Ytodplpjoonkniaa
