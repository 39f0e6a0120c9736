import Derived.Test.YtpimpdgibcjbeaaRlV
namespace Go.Proofs.Ytpimpdgibcjbeaa
open Go Go.RowKit
set_option linter.unusedVariables false
set_option linter.unusedSimpArgs false

def ofL (ts : List Int) : List Ent := ts.map fun t => ⟨t, ⟨#[]⟩⟩
theorem Row.lit_ {α : Type} (enc : α → List Value) (w : World) (e sz : Nat) (l : List α) (cs : Array Value) (n : Nat) (hn : l.length = n) (h : cs.toList = l.flatMap enc) (hs : ∀ x, (enc x).length = sz) (hm : n ≤ maxLen) : Row (w.alloc (.cells cs e)) e sz enc (.slice (some ⟨w.heap.size, 0, none⟩) n n) l := by
  have := World.ownsRow_lit (base := 0) (e := e) (size := sz) w cs n (Nat.zero_le _) hm (by rw [← Array.length_toList, h, flat_length hs, hn])
  unfold Row
  rw [hn, ← h]
  exact this
set_option maxRecDepth 100000 in
set_option maxHeartbeats 2000000 in
theorem of_calls (v : Value) (ts : List Int) (w : World) (hA : Seg w icell v ts) (hl : ts.length ≤ 1000)
    (hok : ∀ k (hk : k < ts.length), (LogS.mk 0 0 (ofL (ts.take k))).app ⟨ts[k], ⟨#[]⟩⟩ = (⟨0, 0, ofL (ts.take (k + 1))⟩, (k : Int) + 1, 0)) :
    Calls Try.prog 25 #[v] w fun e w' => ∃ g F, e = .returned (.pointer (some ⟨g, 0, none⟩)) ∧ LoneL w.heap.size w w' F g ⟨0, 0, ofL ts⟩ := by
  obtain ⟨A, c, rfl, _⟩ := hA.shape
  have HA := Lib.hid hA
  have HOK := Lib.hid hok
  clear hA hok
  go_enter Try.func25, Try.ntmps25
  go_wp2_with (fail)
  refine LoneL.new.mono ?_
  rintro e w2 ⟨rfl, h2⟩
  have H2 := Lib.hid h2
  clear h2
  go_wp2_with (fail)
  go_loopg [11] ts.length (fun gg s11 wr => ∃ (k : Nat) (F : Nat → Prop), k ≤ ts.length ∧ ts.length - k ≤ gg ∧ s11 = .int .i64 k ∧ Hid (LoneL w.heap.size w wr F w.heap.size ⟨0, 0, ofL (ts.take k)⟩))
  case atStart => exact ⟨0, _, Nat.zero_le _, by omega, rfl, H2⟩
  case round =>
    obtain ⟨k, F, hk1, hg, rfl, HL⟩ := hrel
    by_cases hlt : k < ts.length
    · obtain ⟨gb, c', hv, _⟩ := HA.out.form (by omega)
      injection hv with hA _ hc
      subst hA hc
      have r := HA.out.below HL.out.back
      have c0 := r.cell (sz := 1) (fun _ => rfl) k 0 hlt (by omega)
      have hok := HOK.out k hlt
      clear r
      generalize ts[k] = x at c0 hok
      simp only [icell, List.getElem?_cons_zero, Nat.add_zero, Nat.mul_one] at c0
      have g1 : (k : Int) < (ts.length : Int) := by omega
      go_wp2_with (fail)
      refine (log_append F w.heap.size ⟨0, 0, ofL (ts.take k)⟩ ⟨x, ⟨#[]⟩⟩ _ HL.out.log (Int.le_refl 0) (by show (0 : Int) + _ ≤ _; simp only [ofL, List.length_map, List.length_take]; omega) (by simp [ByteArray.size])).mono ?_
      rw [hok]
      rintro e w8 ⟨rfl, h8⟩
      have H8 := Lib.hid (HL.out.of h8)
      clear h8 HL hok
      go_wp2
      go_roundg (ts.length - (k + 1))
      case measure => omega
      case rel => exact ⟨k + 1, _, by omega, Nat.le_refl _, by go_num, H8⟩
    · have hk : k = ts.length := by omega
      have HK := Lib.hid hk
      have g1 : ¬ ((k : Int) < (ts.length : Int)) := by omega
      clear hlt hk
      go_wp2
      go_ret
      have h := HL.out
      rw [HK.out, List.take_length] at h
      exact ⟨_, rfl, _, h⟩
theorem of112 : ∀ k (hk : k < [(1 : Int), 1, 2].length), (LogS.mk 0 0 (ofL ([(1 : Int), 1, 2].take k))).app ⟨[(1 : Int), 1, 2][k], ⟨#[]⟩⟩ = (⟨0, 0, ofL ([(1 : Int), 1, 2].take (k + 1))⟩, (k : Int) + 1, 0) := by
  intro k hk
  match k, hk with
  | 0, _ => rfl
  | 1, _ => rfl
  | 2, _ => rfl
theorem merge112 : (LogS.mk 0 0 (ofL [1, 1, 2])).merge 1 1 (ofL [1, 3]) = (⟨0, 0, ofL [1, 1, 3]⟩, 3, 1, 0) := by rfl
theorem isort331 : isort [3, 3, 1] = [1, 3, 3] := by
  simp [isort, List.mergeSort, List.MergeSort.Internal.splitInTwo, List.merge]
theorem agreed_a : (LogS.mk 0 0 (ofL [1, 1, 3])).agreed [3, 3, 1] 3 0 = (3, 0) := by
  unfold LogS.agreed medZ
  rw [isort331, if_neg (by simp)]
  kernel_rfl
theorem agreed_b : (LogS.mk 0 0 (ofL [1, 1, 3])).agreed [3, 3, 1] 1 0 = (2, 0) := by
  unfold LogS.agreed medZ
  rw [isort331, if_neg (by simp)]
  kernel_rfl
end Go.Proofs.Ytpimpdgibcjbeaa
