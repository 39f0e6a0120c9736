import Derived.Test.YtpimpdgibcjbeaaRlW
namespace Go.Proofs.Ytpimpdgibcjbeaa
open Go Go.RowKit
set_option linter.unusedVariables false
set_option linter.unusedSimpArgs false

theorem LoneL.seg {α : Type} {enc : α → List Value} {B : Nat} {w0 w w' : World} {F : Nat → Prop} {g : Nat} {s : LogS} (h : LoneL B w0 w F g s) (hb : Below w.heap.size w w') : LoneL B w0 w' F g s := h.below hb
set_option maxRecDepth 100000 in
set_option maxHeartbeats 4000000 in
theorem works_calls (w : World) : Calls Try.prog 9 #[] w fun e w' => e = .returned (.bool true) ∧ Below w.heap.size w w' := by
  have hS0 := Seg.of_row (Row.lit_ icell w 3 1 [1, 1, 2] #[.int .i64 1, .int .i64 1, .int .i64 2] 3 rfl rfl (fun _ => rfl) (by decide))
  have hO := of_calls _ [1, 1, 2] _ hS0 (by decide) of112
  have hB0 := Lib.hid ((Below.refl w.heap.size w).alloc (Nat.le_refl _) (.cells #[.int .i64 1, .int .i64 1, .int .i64 2] 3))
  clear hS0
  go_enter Try.func9, Try.ntmps9
  go_wp2_with (fail)
  refine hO.mono ?_
  rintro e w2 ⟨g, F, rfl, h2⟩
  have H2 := Lib.hid h2
  clear hO h2
  go_wp2_with (fail)
  have hS2 := Seg.of_row (Row.lit_ Ent.cells w2 44 2 (ofL [1, 3]) #[.int .i64 1, .string ⟨#[]⟩, .int .i64 3, .string ⟨#[]⟩] 2 rfl rfl (fun _ => rfl) (by decide))
  have hM := log_merge F g ⟨0, 0, ofL [1, 1, 2]⟩ 1 1 _ (ofL [1, 3]) _ ((H2.out.below ((Below.refl _ _).alloc (Nat.le_refl _) _)).log) (by decide) (by decide) hS2 (by decide)
  rw [merge112] at hM
  refine hM.mono ?_
  rintro e w3 ⟨rfl, h3⟩
  have H3 := Lib.hid ((H2.out.below ((Below.refl _ _).alloc (Nat.le_refl _) (.cells #[.int .i64 1, .string ⟨#[]⟩, .int .i64 3, .string ⟨#[]⟩] 44))).of h3)
  clear hM hS2 h3 H2
  obtain ⟨F3, hF3⟩ : ∃ F3, F3 = grow F (w2.alloc (.cells #[.int .i64 1, .string ⟨#[]⟩, .int .i64 3, .string ⟨#[]⟩] 44)) w3 := ⟨_, rfl⟩
  rw [← hF3] at H3
  clear hF3
  have hL := log_last F3 g ⟨0, 0, ofL [1, 1, 3]⟩ w3 H3.out.log (by decide) (by decide) (by decide)
  rw [show (LogS.mk 0 0 (ofL [1, 1, 3])).last = 3 from rfl, show (LogS.mk 0 0 (ofL [1, 1, 3])).lastTerm = 3 from rfl] at hL
  go_wp2_with (fail)
  refine hL.mono ?_
  rintro e w4 ⟨rfl, hb4⟩
  have H4 := Lib.hid (H3.out.below hb4)
  clear hL hb4 H3
  have hS4 := Seg.of_row (Row.lit_ icell w4 3 1 [3, 3, 1] #[.int .i64 3, .int .i64 3, .int .i64 1] 3 rfl rfl (fun _ => rfl) (by decide))
  have hA := log_agreed F3 g ⟨0, 0, ofL [1, 1, 3]⟩ _ [3, 3, 1] 3 0 _ (H4.out.below ((Below.refl _ _).alloc (Nat.le_refl _) _)).log (by decide) (by decide) hS4 (by decide)
  rw [agreed_a] at hA
  go_wp2_with (fail)
  refine hA.mono ?_
  rintro e w5 ⟨rfl, hb5⟩
  have H5 := Lib.hid ((H4.out.below ((Below.refl _ _).alloc (Nat.le_refl _) _)).below hb5)
  clear hA hS4 hb5 H4
  have hS5 := Seg.of_row (Row.lit_ icell w5 3 1 [3, 3, 1] #[.int .i64 3, .int .i64 3, .int .i64 1] 3 rfl rfl (fun _ => rfl) (by decide))
  have hA := log_agreed F3 g ⟨0, 0, ofL [1, 1, 3]⟩ _ [3, 3, 1] 1 0 _ (H5.out.below ((Below.refl _ _).alloc (Nat.le_refl _) _)).log (by decide) (by decide) hS5 (by decide)
  rw [agreed_b] at hA
  go_wp2_with (fail)
  refine hA.mono ?_
  rintro e w6 ⟨rfl, hb6⟩
  have H6 := Lib.hid ((H5.out.below ((Below.refl _ _).alloc (Nat.le_refl _) _)).below hb6)
  clear hA hS5 hb6 H5
  go_wp2
  go_ret
  exact ⟨rfl, (hB0.out.trans (H6.out.back.mono (by simp)))⟩
end Go.Proofs.Ytpimpdgibcjbeaa
