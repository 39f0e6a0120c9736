import Derived.Test.YtodplpjoonkniaaW4
import Derived.Test.YtodplpjoonkniaaOpen
namespace Go.Proofs.Ytodplpjoonkniaa
open Go Go.RowKit
set_option linter.unusedVariables false
set_option linter.unusedSimpArgs false

theorem draw_clk (g b : Nat) (ts : List Int) (wd n : Int) (w : World) (h : Clk w g b ts wd) (h1 : 1 ≤ n) (h2 : n ≤ 2147483648) :
    Calls Try.prog 15 #[.pointer (some ⟨g, 0, none⟩), .int .i64 n] w fun e w' => e = .returned (.tuple #[.int .i64 (wrap64 ((mix (nxt wd)).tmod n)), .int .i64 0]) ∧ Clk w' g b ts (nxt wd) ∧ Kept w w' (fun k => k = g) := by
  refine (draw_ok g b ts wd n w h h1 h2).mono ?_
  rintro e w' ⟨rfl, rfl⟩
  have hne := h.ne
  obtain ⟨⟨c, hb⟩, hi⟩ := h
  exact ⟨rfl, ⟨⟨c, by simpa using hb.set_ 1 _⟩, hi.far (p := ⟨g, 1, none⟩) (fun e => hne e.symm) _⟩, (Kept.refl w (fun k => k = g)).setCell (.inl rfl) _⟩
theorem step_clk (g b k : Nat) (ts : List Int) (wd x n : Int) (w : World) (h : Clk w g b ts wd) (hx : ts[k]? = some x) (hl : ts.length ≤ 16) (h0 : 0 ≤ n) (hn : n ≤ 1073741824 - x) (hx0 : 0 ≤ x) :
    Calls Try.prog 12 #[.pointer (some ⟨g, 0, none⟩), .int .i64 (k : Int), .int .i64 n] w fun e w' => e = .returned (.tuple #[.int .i64 (x + n), .int .i64 0]) ∧ Clk w' g b (ts.set k (x + n)) wd ∧ Kept w w' (fun k => k = b) := by
  refine (step_in g b k ts wd x n w h hx hl h0 hn hx0).mono ?_
  rintro e w' ⟨rfl, rfl⟩
  have hne := h.ne
  have hk : k < ts.length := (List.getElem?_eq_some_iff.1 hx).1
  obtain ⟨⟨c, hb⟩, hi⟩ := h
  exact ⟨rfl, ⟨⟨c, by simpa using hb.far (p := ⟨b, k, none⟩) hne _⟩, hi.set_ k hk _⟩, (Kept.refl w (fun k => k = b)).setCell (.inl rfl) _⟩
def hiL : List Int → Int | [] => 0 | x :: l => maxL x l
def loL : List Int → Int | [] => 0 | x :: l => minL x l
theorem apart_clk (g b : Nat) (ts : List Int) (wd : Int) (w : World) (h : Clk w g b ts wd) (h0 : 0 < ts.length) (hn : ts.length ≤ 16) :
    Calls Try.prog 10 #[.pointer (some ⟨g, 0, none⟩)] w fun e w' => e = .returned (.int .i64 (wrap64 (hiL ts - loL ts))) ∧ ∃ n, w' = w.drewN n := by
  obtain ⟨⟨c, hb⟩, hi⟩ := h
  cases ts with
  | nil => simp at h0
  | cons x l =>
    simp only [List.length_cons] at hn
    exact apart_calls g b c x l _ w hb hi (by omega)
theorem all_clk (g b : Nat) (ts : List Int) (wd n : Int) (w : World) (h : Clk w g b ts wd) (h0 : 0 < ts.length) (hl : ts.length ≤ 16) (hn : 0 ≤ n) (hr : ∀ x ∈ ts, 0 ≤ x) (hm1 : hiL ts ≤ 1073741824) (hm : n ≤ 1073741824 - hiL ts) (hm0 : 0 ≤ hiL ts)
    (hr2 : ∀ x ∈ ts, x ≤ hiL ts) :
    Calls Try.prog 11 #[.pointer (some ⟨g, 0, none⟩), .int .i64 n] w fun e w' => e = .returned (.int .i64 0) ∧ Clk w' g b (ts.map (· + n)) wd ∧ Kept w w' (fun k => k = b) := by
  cases ts with
  | nil => simp at h0
  | cons x l =>
    simp only [List.length_cons] at hl
    exact all_ok g b x l wd n w h (by omega) hn hm0 hm1 hm (fun y hy => ⟨hr y hy, by have := hr2 y hy; simp only [hiL] at *; omega⟩)

theorem maxL_ge (m : Int) (l : List Int) : m ≤ maxL m l ∧ ∀ x ∈ l, x ≤ maxL m l := by
  induction l generalizing m with
  | nil => exact ⟨Int.le_refl _, fun x hx => by cases hx⟩
  | cons y l ih =>
    have := ih (if m < y then y else m)
    simp only [maxL]
    refine ⟨?_, fun x hx => ?_⟩
    · have h := this.1; split at h <;> omega
    · rcases List.mem_cons.1 hx with rfl | hx
      · have h := this.1; split at h <;> omega
      · exact this.2 x hx
theorem maxL_mem (m : Int) (l : List Int) : maxL m l = m ∨ maxL m l ∈ l := by
  induction l generalizing m with
  | nil => exact .inl rfl
  | cons y l ih =>
    simp only [maxL]
    rcases ih (if m < y then y else m) with h | h
    · split at h
      · exact .inr (by rw [if_pos ‹_›, h]; simp)
      · exact .inl (by rw [if_neg ‹_›]; exact h)
    · exact .inr (List.mem_cons_of_mem _ h)
theorem minL_le (m : Int) (l : List Int) : minL m l ≤ m ∧ ∀ x ∈ l, minL m l ≤ x := by
  induction l generalizing m with
  | nil => exact ⟨Int.le_refl _, fun x hx => by cases hx⟩
  | cons y l ih =>
    have := ih (if y < m then y else m)
    simp only [minL]
    refine ⟨?_, fun x hx => ?_⟩
    · have h := this.1; split at h <;> omega
    · rcases List.mem_cons.1 hx with rfl | hx
      · have h := this.1; split at h <;> omega
      · exact this.2 x hx
theorem minL_mem (m : Int) (l : List Int) : minL m l = m ∨ minL m l ∈ l := by
  induction l generalizing m with
  | nil => exact .inl rfl
  | cons y l ih =>
    simp only [minL]
    rcases ih (if y < m then y else m) with h | h
    · split at h
      · exact .inr (by rw [if_pos ‹_›, h]; simp)
      · exact .inl (by rw [if_neg ‹_›]; exact h)
    · exact .inr (List.mem_cons_of_mem _ h)
theorem hiL_spec {ts : List Int} (h : 0 < ts.length) : hiL ts ∈ ts ∧ ∀ x ∈ ts, x ≤ hiL ts := by
  cases ts with
  | nil => simp at h
  | cons y l =>
    have h1 := maxL_ge y l
    have h2 := maxL_mem y l
    simp only [hiL]
    refine ⟨by rcases h2 with h | h <;> simp [h], fun x hx => ?_⟩
    rcases List.mem_cons.1 hx with rfl | hx
    · exact h1.1
    · exact h1.2 x hx
theorem loL_spec {ts : List Int} (h : 0 < ts.length) : loL ts ∈ ts ∧ ∀ x ∈ ts, loL ts ≤ x := by
  cases ts with
  | nil => simp at h
  | cons y l =>
    have h1 := minL_le y l
    have h2 := minL_mem y l
    simp only [loL]
    refine ⟨by rcases h2 with h | h <;> simp [h], fun x hx => ?_⟩
    rcases List.mem_cons.1 hx with rfl | hx
    · exact h1.1
    · exact h1.2 x hx

theorem mix535 : wrap64 ((mix (nxt 0)).tmod 1000) = 535 := by kernel_rfl
theorem mix700 : wrap64 ((mix (nxt (nxt 0))).tmod 1000) = 700 := by kernel_rfl

set_option maxHeartbeats 1000000 in
theorem works_calls (w : World) : Calls Try.prog 7 #[] w fun e w' => e = .returned (.bool true) ∧ Below w.heap.size w w' := by
  go_enter Try.func7, Try.ntmps7
  go_wp2_with (go_at_call 9; refine (new_ok 2 0 w (by decide) (by decide)).mono ?_; rintro e w1 ⟨g, b, rfl, hC1, hg, hb, hB1⟩)
  have hne := Lib.hid hC1.ne
  have HC1 := Lib.hid hC1
  clear hC1
  go_wp2_with (fail)
  refine (draw_clk g b _ 0 1000 w1 HC1.out (by decide) (by decide)).mono ?_
  rintro e w2 ⟨rfl, hC2, hK2⟩
  rw [mix535]
  have HC2 := Lib.hid hC2
  have HK2 := Lib.hid hK2
  clear hC2 hK2
  go_wp2_with (fail)
  refine (draw_clk g b _ _ 1000 w2 HC2.out (by decide) (by decide)).mono ?_
  rintro e w3 ⟨rfl, hC3, hK3⟩
  rw [mix700]
  have HC3 := Lib.hid hC3
  have HK3 := Lib.hid hK3
  clear hC3 hK3
  go_wp2_with (fail)
  refine (step_clk g b 1 _ _ 0 5 w3 HC3.out rfl (by decide) (by decide) (by decide) (by decide)).mono ?_
  rintro e w4 ⟨rfl, hC4, hK4⟩
  have HC4 := Lib.hid hC4
  have HK4 := Lib.hid hK4
  clear hC4 hK4
  go_wp2_with (fail)
  refine (apart_clk g b _ _ w4 HC4.out (by decide) (by decide)).mono ?_
  rintro e w5 ⟨rfl, n, rfl⟩
  rw [show wrap64 (hiL (List.set (List.replicate 2 (0 : Int)) 1 (0 + 5)) - loL (List.set (List.replicate 2 (0 : Int)) 1 (0 + 5))) = 5 by kernel_rfl]
  go_wp2
  go_ret
  refine ⟨rfl, ?_⟩
  have hb2 : Below w.heap.size w w2 := Below.trans hB1 (HK2.out.below hB1.size (fun k hk e => by subst e; omega))
  have hb3 : Below w.heap.size w w3 := Below.trans hb2 (HK3.out.below hb2.size (fun k hk e => by subst e; omega))
  have hb4 : Below w.heap.size w w4 := Below.trans hb3 (HK4.out.below hb3.size (fun k hk e => by subst e; omega))
  exact ⟨hb4.os, hb4.tape, hb4.output, hb4.size, hb4.block⟩
end Go.Proofs.Ytodplpjoonkniaa
