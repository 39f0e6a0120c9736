import Derived.Test.YtodplpjoonkniaaW6
import Derived.Deep.RegionWith
namespace Go.Proofs.Ytodplpjoonkniaa
open Go Go.RowKit
set_option linter.unusedVariables false
set_option linter.unusedSimpArgs false

/-- The smaller of two, as Go's min tells it. -/
def mnI (a b : Int) : Int := if b < a then b else a
theorem min_rule (ats : Array TypeId) (ty : TypeId) (k k' : IntKind) (x y : Int) : Builtin.min_ ats ty #[.int k x, .int k' y] = pure (.int k (mnI x y)) := by
  simp only [Builtin.min_, List.foldlM_cons, List.foldlM_nil, Builtin.min2, mnI]
  rfl

def drOk (n : Int) : Bool := decide (1 ≤ n) && decide (n ≤ 2147483648)
def drV (wd n : Int) : Int := if drOk n then wrap64 ((mix (nxt wd)).tmod n) else 0
def drE (n : Int) : Int := if drOk n then 0 else 1
def drW (wd n : Int) : Int := if drOk n then nxt wd else wd
theorem draw_any (g b : Nat) (ts : List Int) (wd n : Int) (w : World) (h : Clk w g b ts wd) :
    Calls Try.prog 15 #[.pointer (some ⟨g, 0, none⟩), .int .i64 n] w fun e w' => e = .returned (.tuple #[.int .i64 (drV wd n), .int .i64 (drE n)]) ∧ Clk w' g b ts (drW wd n) ∧ Kept w w' (fun k => k = g) := by
  by_cases hn : 1 ≤ n ∧ n ≤ 2147483648
  · have hd : drOk n = true := by simp [drOk, hn]
    simp only [drV, drE, drW, hd, if_true]
    exact draw_clk g b ts wd n w h hn.1 hn.2
  · have hd : drOk n = false := by
      simp only [drOk, Bool.and_eq_false_iff, decide_eq_false_iff_not]
      omega
    simp only [drV, drE, drW, hd, Bool.false_eq_true, if_false]
    refine (draw_bad g n w (by omega)).mono ?_
    rintro e w' ⟨rfl, rfl⟩
    exact ⟨rfl, h, Kept.refl _ _⟩

set_option maxHeartbeats 1000000 in
theorem fork_calls (g b : Nat) (ts : List Int) (wd : Int) (w : World) (h : Clk w g b ts wd) (h0 : 0 < ts.length) (hn : ts.length ≤ 16) :
    Calls Try.prog 14 #[.pointer (some ⟨g, 0, none⟩)] w fun e w' => ∃ g' b', e = .returned (.pointer (some ⟨g', 0, none⟩)) ∧ Clk w' g' b' ts wd ∧ w.heap.size ≤ g' ∧ w.heap.size ≤ b' ∧ Below w.heap.size w w' := by
  obtain ⟨⟨c, h1⟩, h2⟩ := h
  have hc0 : w.cell? ⟨g, 0, none⟩ = some (.slice (some ⟨b, 0, none⟩) ts.length c) := h1.cell 0
  have hc1 : w.cell? ⟨g, 1, none⟩ = some (.int .u64 wd) := h1.cell 1
  have hlt := h1.lt
  have H2 := Lib.hid h2
  have HC1 := Lib.hid hc1
  clear h1 h2
  go_enter Try.func14, Try.ntmps14
  go_wp2
  go_region_with (go_at_call 26; refine (clone_calls b ts.length c ts w.drew H2.out rfl h0 hn).mono ?_; rintro e w1 ⟨g1, cap, rfl, hI, hg1, hB⟩; have hc1' : w1.cell? ⟨g, 1, none⟩ = some (.int .u64 wd) := (hB.cell (p := ⟨g, 1, none⟩) hlt).trans HC1.out; have HI := Lib.hid hI; clear hI)
  all_goals
    go_wp2
    go_ret
    refine ⟨_, g1, rfl, ⟨⟨cap, by simpa using Blk.new w1 37 _⟩, HI.out.alloc _⟩, hB.size, hg1, ?_⟩
    exact Below.alloc (B := w.heap.size) (a := w) ⟨hB.os, hB.tape, hB.output, hB.size, hB.block⟩ hB.size _
end Go.Proofs.Ytodplpjoonkniaa
