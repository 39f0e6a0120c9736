import Derived.Test.YtcpenjbgiecgnaaBkE
namespace Go.Proofs.Ytcpenjbgiecgnaa
open Go Go.RowKit
set_option linter.unusedVariables false
set_option linter.unusedSimpArgs false
set_option maxRecDepth 100000

/-! sameReply at two replies of the same client, number and one result without rows. -/
theorem same_rows (A : Option Addr) (c : Nat) (A' : Option Addr) (c' : Nat) (w : World) : Calls Try.prog 28 #[.slice A 0 c, .slice A' 0 c'] w fun e w' => e = .returned (.bool true) ∧ w' = w := by
  go_enter Try.func28, Try.ntmps28
  go_wp2_with (fail)
  go_loopg [5] 1 (fun gg s5 wr => s5 = .int .i64 0 ∧ wr = w)
  case atStart => exact ⟨rfl, rfl⟩
  case round =>
    obtain ⟨rfl, rfl⟩ := hrel
    go_wp2
    go_ret
    exact ⟨rfl, rfl⟩
set_option maxHeartbeats 4000000 in
theorem same_ress (n : Int) (g1 c1 g2 c2 : Nat) (w : World) (h1 : One w (.slice (some ⟨g1, 0, none⟩) 1 c1) n) (h2 : One w (.slice (some ⟨g2, 0, none⟩) 1 c2) n) :
    Calls Try.prog 18 #[.slice (some ⟨g1, 0, none⟩) 1 c1, .slice (some ⟨g2, 0, none⟩) 1 c2] w fun e w' => e = .returned (.bool true) ∧ Below w.heap.size w w' := by
  have H1 := Lib.hid h1
  have H2 := Lib.hid h2
  clear h1 h2
  go_enter Try.func18, Try.ntmps18
  go_wp2_with (fail)
  go_loopg [5] 1 (fun gg s5 wr => ∃ k : Nat, k ≤ 1 ∧ 1 - k ≤ gg ∧ s5 = .int .i64 k ∧ Hid (Below w.heap.size w wr))
  case atStart => exact ⟨0, by omega, by omega, rfl, Lib.hid (Below.refl _ _)⟩
  case round =>
    obtain ⟨k, hk, hgg, rfl, HB⟩ := hrel
    by_cases hk1 : k < 1
    · obtain rfl : k = 0 := by omega
      obtain ⟨A1, k1, r1⟩ := H1.out.kept (Kept.of_below HB.out fun _ => False) (fun _ _ h => h)
      obtain ⟨A2, k2, r2⟩ := H2.out.kept (Kept.of_below HB.out fun _ => False) (fun _ _ h => h)
      obtain ⟨a0, a1, a2, a3⟩ := row_cells r1
      obtain ⟨b0, b1, b2, b3⟩ := row_cells r2
      clear r1 r2 H1 H2
      go_wp2_with (fail)
      go_quiet (first | (go_at_call 28; exact Calls.quiet_of_same (same_rows _ _ _ _ _)) | fail)
      go_wp2
      go_roundg (1 - 1)
      case measure => omega
      case rel => exact ⟨1, by omega, by omega, by go_num, Lib.hid (pw_drewN HB.out _)⟩
    · obtain rfl : k = 1 := by omega
      go_wp2
      go_ret
      exact ⟨rfl, HB.out⟩
theorem eql_fault (w : World) : (binOp .eql 36 (.agg #[.int .i64 0, .int .i64 0]) (.agg #[.int .i64 0, .int .i64 0])).run Try.prog w = .ok (.bool true) w := by
  have u3 := Try.underlying3
  have a3 := Try.isAgg3
  have z3 := Try.sizeOf3
  have u9 := Try.underlying26
  have a9 := Try.isAgg26
  have z9 := Try.sizeOf26
  have hS : Try.prog.underlying 36 = some (.struct (Try.prog.fieldsOf 36)) := by kernel_rfl
  have hp : Try.prog.stoodInHeld 36 = false := by kernel_rfl
  rw [run_eql_struct, show (10000 : Nat) = 9999 + 1 from rfl, run_equalIn_agg w 9999 36 _ _ hS hp]
  simp only [Program.fieldsOf, Try.underlying36]
  go_simp
theorem bk_same {w : World} (c n : Int) (g1 c1 g2 c2 : Nat) (h1 : One w (.slice (some ⟨g1, 0, none⟩) 1 c1) n) (h2 : One w (.slice (some ⟨g2, 0, none⟩) 1 c2) n) :
    Calls Try.prog 13 #[.agg #[.int .i64 c, .int .i64 n, .slice (some ⟨g1, 0, none⟩) 1 c1, .int .i64 0, .int .i64 0], .agg #[.int .i64 c, .int .i64 n, .slice (some ⟨g2, 0, none⟩) 1 c2, .int .i64 0, .int .i64 0]] w fun e w' => e = .returned (.bool true) ∧ Below w.heap.size w w' := by
  have he := eql_fault
  have hb0 := (((Below.refl w.heap.size w).alloc (Nat.le_refl _) (.cells #[.int .i64 c, .int .i64 n, .slice (some ⟨g1, 0, none⟩) 1 c1, .int .i64 0, .int .i64 0] 38)).alloc (by simp) (.cells #[.int .i64 c, .int .i64 n, .slice (some ⟨g2, 0, none⟩) 1 c2, .int .i64 0, .int .i64 0] 38))
  have hc := same_ress n g1 c1 g2 c2 _ (h1.kept (Kept.of_below hb0 fun _ => False) (fun _ _ h => h)) (h2.kept (Kept.of_below hb0 fun _ => False) (fun _ _ h => h))
  have HB := Lib.hid hb0
  clear h1 h2 hb0
  go_enter Try.func13, Try.ntmps13
  go_wp2_with (fail)
  refine hc.mono ?_
  rintro e w2 ⟨rfl, hb2⟩
  have HB2 := Lib.hid (HB.out.trans (hb2.mono HB.out.size))
  clear hc hb2
  go_wp2
  go_ret
  exact ⟨rfl, HB2.out⟩
end Go.Proofs.Ytcpenjbgiecgnaa
