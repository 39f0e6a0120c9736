import Derived.Test.YtodplpjoonkniaaW1
namespace Go.Proofs.Ytodplpjoonkniaa
open Go Go.RowKit
set_option linter.unusedVariables false
set_option linter.unusedSimpArgs false

/-- A clock: its struct in block g, its times in block b. -/
def Clk (w : World) (g b : Nat) (ts : List Int) (wd : Int) : Prop := (∃ c : Nat, Blk w g 37 #[.slice (some ⟨b, 0, none⟩) ts.length c, .int .u64 wd]) ∧ Ints w b ts

theorem at_in (g b n : Nat) (c k : Nat) (v1 : Value) (w : World) (h : Blk w g 37 #[.slice (some ⟨b, 0, none⟩) n c, v1]) (hk : k < n) (hn : n ≤ 16) :
    Calls Try.prog 25 #[.pointer (some ⟨g, 0, none⟩), .int .i64 (k : Int)] w fun e w' => e = .returned (.pointer (some ⟨b, k, none⟩)) ∧ w' = w := by
  have hc : w.cell? ⟨g, 0, none⟩ = some (.slice (some ⟨b, 0, none⟩) n c) := h.cell 0
  have hf := h.frozen 0
  have h0 : (0 : Int) ≤ (k : Int) := by omega
  have h1 : decide ((n : Int) ≤ (k : Int)) = false := by simp; omega
  clear h
  go_enter Try.func25, Try.ntmps25
  go_wp2
  go_ret
  exact ⟨rfl, rfl⟩

theorem at_out (g b n : Nat) (c : Nat) (k : Int) (v1 : Value) (w : World) (h : Blk w g 37 #[.slice (some ⟨b, 0, none⟩) n c, v1]) (hk : k < 0 ∨ (n : Int) ≤ k) :
    Calls Try.prog 25 #[.pointer (some ⟨g, 0, none⟩), .int .i64 k] w fun e w' => e = .returned (.pointer none) ∧ w' = w := by
  have hc : w.cell? ⟨g, 0, none⟩ = some (.slice (some ⟨b, 0, none⟩) n c) := h.cell 0
  have hf := h.frozen 0
  clear h
  by_cases h0 : k < 0
  · clear hk
    go_enter Try.func25, Try.ntmps25
    go_wp2
    go_ret
    exact ⟨rfl, rfl⟩
  · have h1 : (n : Int) ≤ k := by omega
    clear hk
    go_enter Try.func25, Try.ntmps25
    go_wp2
    go_ret
    exact ⟨rfl, rfl⟩

theorem ret_int {k : IntKind} {a b : Int} (h : a = b) : Ending.returned (.int k a) = .returned (.int k b) := by rw [h]
def maxL : Int → List Int → Int
  | m, [] => m
  | m, x :: l => maxL (if m < x then x else m) l
def minL : Int → List Int → Int
  | m, [] => m
  | m, x :: l => minL (if x < m then x else m) l
theorem maxL_append (m : Int) (l : List Int) (x : Int) : maxL m (l ++ [x]) = if maxL m l < x then x else maxL m l := by
  induction l generalizing m with
  | nil => rfl
  | cons y l ih => exact ih _
theorem minL_append (m : Int) (l : List Int) (x : Int) : minL m (l ++ [x]) = if x < minL m l then x else minL m l := by
  induction l generalizing m with
  | nil => rfl
  | cons y l ih => exact ih _

theorem max_calls (b c : Nat) (x0 : Int) (l : List Int) (w : World) (h : Ints w b (x0 :: l)) (hn : l.length ≤ 16) :
    Calls Try.prog 23 #[.slice (some ⟨b, 0, none⟩) (l.length + 1) c] w fun e w' => e = .returned (.int .i64 (maxL x0 l)) ∧ w' = w := by
  have hc0 : w.cell? ⟨b, 0, none⟩ = some (.int .i64 x0) := h.cell rfl
  go_enter Try.func23, Try.ntmps23
  go_wp2
  go_loop [3, 4] (fun m i => ∃ k : Nat, k ≤ l.length ∧ i = .int .i64 ((k : Int) + 1) ∧ m = .int .i64 (maxL x0 (l.take k))) (fun _ i => l.length + 1 - (intOf i).toNat)
  case atStart => exact ⟨0, Nat.zero_le _, rfl, rfl⟩
  case round =>
    obtain ⟨k, hk, rfl, rfl⟩ := hrel
    by_cases hlt : k < l.length
    · have hx : w.cell? ⟨b, k + 1, none⟩ = some (.int .i64 l[k]) := h.cell (by simp [hlt])
      have hm : Hid (maxL x0 (l.take (k + 1)) = if maxL x0 (l.take k) < l[k] then l[k] else maxL x0 (l.take k)) := by
        rw [List.take_succ_eq_append_getElem hlt]; exact maxL_append _ _ _
      go_wp2
      go_round
      case rel => exact ⟨k + 1, by omega, by go_num, by rw [hm.out]⟩
      case measure => simp [intOf]; omega
    · go_wp2
      go_ret
      exact ⟨ret_int (by rw [List.take_of_length_le (by omega)]), rfl⟩

theorem min_calls (b c : Nat) (x0 : Int) (l : List Int) (w : World) (h : Ints w b (x0 :: l)) (hn : l.length ≤ 16) :
    Calls Try.prog 24 #[.slice (some ⟨b, 0, none⟩) (l.length + 1) c] w fun e w' => e = .returned (.int .i64 (minL x0 l)) ∧ w' = w := by
  have hc0 : w.cell? ⟨b, 0, none⟩ = some (.int .i64 x0) := h.cell rfl
  go_enter Try.func24, Try.ntmps24
  go_wp2
  go_loop [3, 4] (fun m i => ∃ k : Nat, k ≤ l.length ∧ i = .int .i64 ((k : Int) + 1) ∧ m = .int .i64 (minL x0 (l.take k))) (fun _ i => l.length + 1 - (intOf i).toNat)
  case atStart => exact ⟨0, Nat.zero_le _, rfl, rfl⟩
  case round =>
    obtain ⟨k, hk, rfl, rfl⟩ := hrel
    by_cases hlt : k < l.length
    · have hx : w.cell? ⟨b, k + 1, none⟩ = some (.int .i64 l[k]) := h.cell (by simp [hlt])
      have hm : Hid (minL x0 (l.take (k + 1)) = if l[k] < minL x0 (l.take k) then l[k] else minL x0 (l.take k)) := by
        rw [List.take_succ_eq_append_getElem hlt]; exact minL_append _ _ _
      go_wp2
      go_round
      case rel => exact ⟨k + 1, by omega, by go_num, by rw [hm.out]⟩
      case measure => simp [intOf]; omega
    · go_wp2
      go_ret
      exact ⟨ret_int (by rw [List.take_of_length_le (by omega)]), rfl⟩

theorem apart_calls (g b c : Nat) (x0 : Int) (l : List Int) (v1 : Value) (w : World) (hb : Blk w g 37 #[.slice (some ⟨b, 0, none⟩) (l.length + 1) c, v1]) (h : Ints w b (x0 :: l)) (hn : l.length ≤ 16) :
    Calls Try.prog 10 #[.pointer (some ⟨g, 0, none⟩)] w fun e w' => e = .returned (.int .i64 (wrap64 (maxL x0 l - minL x0 l))) ∧ ∃ n, w' = w.drewN n := by
  have hc : w.cell? ⟨g, 0, none⟩ = some (.slice (some ⟨b, 0, none⟩) (l.length + 1) c) := hb.cell 0
  have hf := hb.frozen 0
  go_enter Try.func10, Try.ntmps10
  go_wp2
  go_quiet ((first | (go_at_call 23; exact Calls.quiet_of_same (max_calls b c x0 l _ h hn)) | (go_at_call 24; exact Calls.quiet_of_same (min_calls b c x0 l _ h hn))))
  go_wp2
  go_ret
  exact ⟨rfl, ⟨_, rfl⟩⟩
end Go.Proofs.Ytodplpjoonkniaa
