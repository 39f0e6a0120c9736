import Derived.Test.YtpimpdgibcjbeaaRlL
import Derived.Laws.IdiomStrings
namespace Go.Proofs.Ytpimpdgibcjbeaa
open Go Go.RowKit
set_option linter.unusedVariables false
set_option linter.unusedSimpArgs false

def icell (x : Int) : List Value := [.int .i64 x]
/-- The entries of grown, and the last one's term. -/
def grownT (f : Nat → Int) : Nat → Int
  | 0 => 1
  | n + 1 => grownT f n + amg (f n) 3
theorem grownT_bounds (f : Nat → Int) (n : Nat) : 1 ≤ grownT f n ∧ grownT f n ≤ 1 + 2 * n := by
  induction n with
  | zero => simp [grownT]
  | succ n ih =>
    have := amg_bounds (f n) 3 (by decide) (by decide)
    simp only [grownT]
    omega
def two (x y : Int) : ByteArray := ⟨#[UInt8.ofNat x.toNat, UInt8.ofNat y.toNat]⟩
def gEnt (f : Nat → Int) (i : Nat) : Ent := ⟨grownT f (i + 1), two i (f i % 256)⟩
def grownL (f : Nat → Int) : Nat → List Ent
  | 0 => []
  | n + 1 => grownL f n ++ [gEnt f n]
theorem grownL_length (f : Nat → Int) (n : Nat) : (grownL f n).length = n := by
  induction n with
  | zero => rfl
  | succ n ih => simp only [grownL, List.length_append, ih]; rfl
theorem grownL_last (f : Nat → Int) (n : Nat) : (LogS.mk 0 0 (grownL f n)).lastTerm ≤ grownT f n := by
  cases n with
  | zero => show (0 : Int) ≤ 1; decide
  | succ n =>
    rw [LogS.lastTerm_at (j := n) (grownL_length f (n + 1))]
    have : (grownL f (n + 1))[n]'(by rw [grownL_length]; omega) = gEnt f n := by
      simp only [grownL]
      rw [List.getElem_append_right (by rw [grownL_length]; omega)]
      simp [grownL_length]
    simp only [this]
    exact Int.le_refl _
theorem grown_app (f : Nat → Int) (n : Nat) (hn : n < 40) : (LogS.mk 0 0 (grownL f n)).app (gEnt f n) = (⟨0, 0, grownL f (n + 1)⟩, (n : Int) + 1, 0) := by
  have h1 := grownT_bounds f (n + 1)
  have h2 := grownL_last f n
  have h3 := amg_bounds (f n) 3 (by decide) (by decide)
  have h4 : grownT f n ≤ grownT f (n + 1) := by simp only [grownT]; omega
  unfold LogS.app
  rw [if_neg, if_neg, if_neg]
  · simp only [LogS.last, grownL_length, grownL]
    simp
  · rintro (h | h)
    · simp [gEnt, two, ByteArray.size] at h
    · simp only [LogS.last, grownL_length] at h
      omega
  · show ¬ (grownT f (n + 1) < _)
    exact Int.not_lt.2 (Int.le_trans h2 h4)
  · have e : mayT (gEnt f n).term = true := by
      show (decide (1 ≤ grownT f (n + 1)) && decide (grownT f (n + 1) ≤ 1073741824)) = true
      rw [decide_eq_true h1.1, decide_eq_true (by have := h1.2; omega)]
      rfl
    rw [e]
    decide
theorem conv_two (W : World) (x y : Int) (hx : 0 ≤ x ∧ x < 256) (hy : 0 ≤ y ∧ y < 256) :
    (convert 60 9 (.slice (some ⟨W.heap.size, 0, none⟩) 2 2)).run Try.prog (W.alloc (.cells #[.int .u8 x, .int .u8 y] 5)) = .ok (.string (two x y)) (W.alloc (.cells #[.int .u8 x, .int .u8 y] 5)) := by
  refine run_convert_bytes_back _ _ _ 5 ⟨W.heap.size, 0, none⟩ 2 [UInt8.ofNat x.toNat, UInt8.ofNat y.toNat] Try.underlying60 Try.underlying5 Try.underlying9 fun j hj => ?_
  have hc := (Blk.new W 5 #[.int .u8 x, .int .u8 y]).cell j
  rw [addr0, hc]
  have h2 : j = 0 ∨ j = 1 := by simp at hj; omega
  rcases h2 with rfl | rfl
  · have : ((UInt8.ofNat x.toNat).toNat : Int) = x := by rw [UInt8.toNat_ofNat']; omega
    simp [this]
    omega
  · have : ((UInt8.ofNat y.toNat).toNat : Int) = y := by rw [UInt8.toNat_ofNat']; omega
    simp [this]
    omega
set_option maxRecDepth 100000 in
set_option maxHeartbeats 2000000 in
theorem grown_calls (A : Option Addr) (len cap : Nat) (f : Nat → Int) (w : World) (hA : Args w A len 1 icell (fun _ => True) f) (hl : len ≤ 9223372036854775807) :
    Calls Try.prog 10 #[.slice A len cap] w fun e w' => ∃ g F, e = .returned (.pointer (some ⟨g, 0, none⟩)) ∧ LoneL w.heap.size w w' F g ⟨0, 0, grownL f (min len 40)⟩ := by
  have HA := Lib.hid hA
  clear hA
  go_enter Try.func10, Try.ntmps10
  go_wp2_with (fail)
  refine LoneL.new.mono ?_
  rintro e w2 ⟨rfl, h2⟩
  have H2 := Lib.hid h2
  clear h2
  go_wp2_with (fail)
  go_loopg [4, 5] 40 (fun gg s4 s5 wr => ∃ (k : Nat) (F : Nat → Prop), k ≤ len ∧ k ≤ 40 ∧ 40 - k ≤ gg ∧ s4 = .int .i64 (grownT f k) ∧ s5 = .int .i64 k ∧ Hid (LoneL w.heap.size w wr F w.heap.size ⟨0, 0, grownL f k⟩))
  case atStart => exact ⟨0, _, Nat.zero_le _, by omega, by omega, rfl, rfl, H2⟩
  case round =>
    obtain ⟨k, F, hk1, hk2, hg, rfl, rfl, HL⟩ := hrel
    by_cases hlt : k < len ∧ k < 40
    · obtain ⟨hlt, h40⟩ := hlt
      have g1 : (k : Int) < (len : Int) := by omega
      have g2 : (k : Int) < 40 := by omega
      have g0 : (0 : Int) ≤ (k : Int) := by omega
      obtain ⟨ad, hA, hcell⟩ := (HA.out.below HL.out.back).2 (by omega)
      obtain rfl := hA
      have c0 := hcell k hlt 0 _ rfl
      clear hcell
      simp only [adr, Nat.add_zero, Nat.mul_one] at c0
      go_wp2_with (fail)
      refine (among_calls (f k) 3 _ (by decide)).mono ?_
      rintro e w7 ⟨rfl, hw7⟩
      obtain rfl := hw7.symm
      clear hw7
      have hm := amg_bounds (f k) 3 (by decide) (by decide)
      have hT := grownT_bounds f k
      have hwr : wrap64 (grownT f k + amg (f k) 3) = grownT f (k + 1) := by
        simp only [grownT]
        unfold wrap64
        omega
      have hcv := conv_two wr (k : Int) (f k % 256) (by omega) (by omega)
      go_wp2_with (fail)
      have HB := Lib.hid (HL.out.below ((Below.refl wr.heap.size wr).alloc (Nat.le_refl _) (.cells #[.int .u8 (k : Int), .int .u8 (f k % 256)] 5)))
      refine (log_append F w.heap.size ⟨0, 0, grownL f k⟩ (gEnt f k) _ HB.out.log (Int.le_refl 0) (by show (0 : Int) + _ ≤ _; rw [grownL_length]; omega) (by show (two _ _).size ≤ _; simp [two, ByteArray.size])).mono ?_
      rw [grown_app f k h40]
      rintro e w8 ⟨rfl, h8⟩
      have H8 := Lib.hid (HB.out.of h8)
      clear h8 HB HL hm hT
      go_wp2
      go_roundg (40 - (k + 1))
      case measure => omega
      case rel => exact ⟨k + 1, _, by omega, by omega, Nat.le_refl _, by first | rfl | simp [hwr], by go_num, H8⟩
    · have hk : k = min len 40 := by omega
      have hk' := Lib.hid hk
      by_cases h1 : k < len
      · have g1 : (k : Int) < (len : Int) := by omega
        have g2 : ¬ ((k : Int) < 40) := by omega
        clear hlt
        go_wp2
        go_ret
        exact ⟨_, rfl, _, hk'.out ▸ HL.out⟩
      · have g1 : ¬ ((k : Int) < (len : Int)) := by omega
        clear hlt
        go_wp2
        go_ret
        exact ⟨_, rfl, _, hk'.out ▸ HL.out⟩
end Go.Proofs.Ytpimpdgibcjbeaa
