import Derived.Test.YtaghdopickgpgaaDoorDkC
namespace Go.Proofs.YtaghdopickgpgaaDoor
open Go Go.RowKit
set_option linter.unusedVariables false
set_option linter.unusedSimpArgs false

/-! What always holds of a disk; plain. -/
def total (fs : Files) : Int := (fs.map fun p => (p.2.has.size : Int)).sum
structure DkS.Ok (s : DkS) : Prop where
  r0 : 0 ≤ s.room
  r1 : s.room ≤ 262144
  used : s.used = total s.fs
  u1 : s.used ≤ s.room
  n : s.fs.length ≤ 64
  safe : ∀ p ∈ s.fs, 0 ≤ p.2.safe ∧ p.2.safe ≤ (p.2.has.size : Int)
  names : ∀ p ∈ s.fs, okName p.1 = true
  sorted : s.fs.Pairwise fun p q => ltB p.1 q.1 = true
  l0 : 0 ≤ s.left
  l1 : s.left ≤ 9223372036854775807
theorem total_nn (fs : Files) : 0 ≤ total fs := by
  unfold total
  induction fs with
  | nil => simp
  | cons p fs ih => rw [List.map_cons, List.sum_cons]; omega
theorem total_cons (p : ByteArray × DF) (fs : Files) : total (p :: fs) = (p.2.has.size : Int) + total fs := by
  unfold total
  rw [List.map_cons, List.sum_cons]
theorem total_perm {a b : Files} (h : a.Perm b) : total a = total b := by
  induction h with
  | nil => rfl
  | cons x _ ih => rw [total_cons, total_cons, ih]
  | swap x y l => rw [total_cons, total_cons, total_cons, total_cons]; omega
  | trans _ _ h1 h2 => exact h1.trans h2
theorem total_mem {fs : Files} {p : ByteArray × DF} (h : p ∈ fs) : (p.2.has.size : Int) ≤ total fs := by
  induction fs with
  | nil => cases h
  | cons q fs ih =>
    rw [total_cons]
    rcases List.mem_cons.1 h with rfl | h
    · have := total_nn fs; omega
    · have := ih h; omega
theorem sizeAt_le (fs : Files) (k : ByteArray) : sizeAt fs k ≤ total fs := by
  unfold sizeAt fileAt
  cases h : look fs k with
  | none => exact total_nn fs
  | some f => exact total_mem (look_mem h)
theorem look_cons (p : ByteArray × DF) (fs : Files) (k : ByteArray) : look (p :: fs) k = if p.1 = k then some p.2 else look fs k := by
  unfold look
  by_cases h : p.1 = k
  · rw [List.find?_cons_of_pos (by simpa using h), if_pos h]; rfl
  · rw [List.find?_cons_of_neg (by simpa using h), if_neg h]
theorem look_none {fs : Files} {k : ByteArray} (h : ∀ p ∈ fs, p.1 ≠ k) : look fs k = none := by
  induction fs with
  | nil => rfl
  | cons p fs ih => rw [look_cons, if_neg (h p (by simp)), ih fun q hq => h q (by simp [hq])]
theorem ltB_irrefl (k : ByteArray) : ltB k k = false := decide_eq_false (List.lt_irrefl _)
theorem ltB_trans {a b c : ByteArray} (h : ltB a b = true) (k : ltB b c = true) : ltB a c = true := decide_eq_true (List.lt_trans (of_decide_eq_true h) (of_decide_eq_true k))
theorem ltB_ne {a b : ByteArray} (h : ltB a b = true) : a ≠ b := fun e => by rw [e, ltB_irrefl] at h; cases h
theorem sorted_nodup {fs : Files} (h : fs.Pairwise fun p q => ltB p.1 q.1 = true) : fs.Pairwise fun p q => p.1 ≠ q.1 := h.imp fun h => ltB_ne h
theorem sans_none {fs : Files} {k : ByteArray} (h : ∀ p ∈ fs, p.1 ≠ k) : sans fs k = fs := List.filter_eq_self.2 fun p hp => by simpa using h p hp
theorem total_sans {fs : Files} (h : fs.Pairwise fun p q => p.1 ≠ q.1) (k : ByteArray) : total (sans fs k) = total fs - sizeAt fs k := by
  induction fs with
  | nil => rfl
  | cons p fs ih =>
    obtain ⟨h1, h2⟩ := List.pairwise_cons.1 h
    unfold sizeAt fileAt
    rw [look_cons]
    by_cases hp : p.1 = k
    · have hn : ∀ q ∈ fs, q.1 ≠ k := fun q hq => by rw [← hp]; exact (h1 q hq).symm
      rw [if_pos hp, show sans (p :: fs) k = sans fs k from List.filter_cons_of_neg (by simpa using hp), sans_none hn, total_cons]
      show total fs = (p.2.has.size : Int) + total fs - (p.2.has.size : Int)
      omega
    · rw [if_neg hp, show sans (p :: fs) k = p :: sans fs k from List.filter_cons_of_pos (by simpa using hp), total_cons, total_cons, ih h2]
      unfold sizeAt fileAt
      omega
theorem sans_length {fs : Files} (h : fs.Pairwise fun p q => p.1 ≠ q.1) (k : ByteArray) : (sans fs k).length = fs.length - (if (look fs k).isSome = true then 1 else 0) := by
  induction fs with
  | nil => rfl
  | cons p fs ih =>
    obtain ⟨h1, h2⟩ := List.pairwise_cons.1 h
    rw [look_cons]
    by_cases hp : p.1 = k
    · have hn : ∀ q ∈ fs, q.1 ≠ k := fun q hq => by rw [← hp]; exact (h1 q hq).symm
      rw [if_pos hp, show sans (p :: fs) k = sans fs k from List.filter_cons_of_neg (by simpa using hp), sans_none hn]
      simp
    · rw [if_neg hp, show sans (p :: fs) k = p :: sans fs k from List.filter_cons_of_pos (by simpa using hp), List.length_cons, List.length_cons, ih h2]
      by_cases hl : (look fs k).isSome = true
      · rw [if_pos hl]
        have : 0 < fs.length := by
          obtain ⟨x, hx⟩ := Option.isSome_iff_exists.1 hl
          exact List.length_pos_of_mem (look_mem hx)
        omega
      · rw [if_neg hl]
        omega
theorem putF_length (fs : Files) (h : fs.Pairwise fun p q => p.1 ≠ q.1) (k : ByteArray) (f : DF) : (putF fs k f).length = if (look fs k).isSome = true then fs.length else fs.length + 1 := by
  rw [← (putF_perm fs k f).length_eq, List.length_cons, sans_length h]
  by_cases hl : (look fs k).isSome = true
  · rw [if_pos hl, if_pos hl]
    have : 0 < fs.length := by
      obtain ⟨x, hx⟩ := Option.isSome_iff_exists.1 hl
      exact List.length_pos_of_mem (look_mem hx)
    omega
  · rw [if_neg hl, if_neg hl]
    omega
theorem sans_mem {fs : Files} {k : ByteArray} {p : ByteArray × DF} (h : p ∈ sans fs k) : p ∈ fs ∧ p.1 ≠ k := by
  obtain ⟨h1, h2⟩ := List.mem_filter.1 h
  exact ⟨h1, by simpa using h2⟩
theorem putF_mem {fs : Files} {k : ByteArray} {f : DF} {p : ByteArray × DF} (h : p ∈ putF fs k f) : p = (k, f) ∨ p ∈ fs := by
  rcases List.mem_cons.1 ((putF_perm fs k f).mem_iff.2 h) with h | h
  · exact .inl h
  · exact .inr (sans_mem h).1
theorem putF_sorted {fs : Files} (h : fs.Pairwise fun p q => ltB p.1 q.1 = true) (k : ByteArray) (f : DF) : (putF fs k f).Pairwise fun p q => ltB p.1 q.1 = true := by
  unfold putF
  rw [List.pairwise_append]
  refine ⟨h.filter _, List.pairwise_cons.2 ⟨fun q hq => by simpa using (List.mem_filter.1 hq).2, h.filter _⟩, fun p hp q hq => ?_⟩
  have h1 : ltB p.1 k = true := by simpa using (List.mem_filter.1 hp).2
  rcases List.mem_cons.1 hq with rfl | hq
  · exact h1
  · exact ltB_trans h1 (by simpa using (List.mem_filter.1 hq).2)
namespace DkS.Ok
variable {s : DkS} (h : s.Ok)
include h
theorem u0 : 0 ≤ s.used := by rw [h.used]; exact total_nn _
theorem file_le (k : ByteArray) : ((fileAt s.fs k).has.size : Int) ≤ 262144 := by
  have := sizeAt_le s.fs k
  have := h.used
  have := h.u1
  have := h.r1
  unfold sizeAt at *
  omega
theorem file_le' (k : ByteArray) : (fileAt s.fs k).has.size ≤ 262144 := by have := h.file_le k; omega
theorem tick : s.tick.Ok := by
  unfold DkS.tick
  split
  · exact ⟨h.r0, h.r1, h.used, h.u1, h.n, h.safe, h.names, h.sorted, h.l0, h.l1⟩
  · split
    · rename_i q1 q2
      refine ⟨h.r0, h.r1, h.used, h.u1, h.n, h.safe, h.names, h.sorted, ?_, ?_⟩
      · show 0 ≤ s.left - 1
        have hf : s.fused = true := by cases hh : s.fused with | true => rfl | false => rw [hh] at q2; simp at q2
        have : s.left ≠ 0 := fun e => q1 (by rw [hf, e]; rfl)
        have := h.l0
        omega
      · show s.left - 1 ≤ _
        have := h.l1
        omega
    · exact h
theorem set (k : ByteArray) (f : DF) (hk : okName k = true) (hf : 0 ≤ f.safe ∧ f.safe ≤ (f.has.size : Int)) (hu : s.used + ((f.has.size : Int) - sizeAt s.fs k) ≤ s.room) (hn : (look s.fs k).isSome = true ∨ s.fs.length < 64) : (s.set k f).Ok := by
  have hnd := sorted_nodup h.sorted
  refine ⟨h.r0, h.r1, ?_, hu, ?_, fun p hp => ?_, fun p hp => ?_, putF_sorted h.sorted k f, h.l0, h.l1⟩
  · show s.used + _ = total (putF s.fs k f)
    rw [← total_perm (putF_perm s.fs k f), total_cons, total_sans hnd, h.used]
    show total s.fs + ((f.has.size : Int) - sizeAt s.fs k) = (f.has.size : Int) + (total s.fs - sizeAt s.fs k)
    omega
  · show (putF s.fs k f).length ≤ 64
    rw [putF_length _ hnd]
    have := h.n
    split
    · exact this
    · rename_i q
      rcases hn with hn | hn
      · exact absurd hn q
      · omega
  · rcases putF_mem hp with rfl | hp
    · exact hf
    · exact h.safe p hp
  · rcases putF_mem hp with rfl | hp
    · exact hk
    · exact h.names p hp
theorem drop (k : ByteArray) : (s.drop k).Ok := by
  have hnd := sorted_nodup h.sorted
  refine ⟨h.r0, h.r1, ?_, ?_, ?_, fun p hp => h.safe p (sans_mem hp).1, fun p hp => h.names p (sans_mem hp).1, h.sorted.filter _, h.l0, h.l1⟩
  · show s.used - _ = total (sans s.fs k)
    rw [total_sans hnd, h.used]
  · show s.used - sizeAt s.fs k ≤ s.room
    have := h.u1
    have : 0 ≤ sizeAt s.fs k := by unfold sizeAt; omega
    omega
  · show (sans s.fs k).length ≤ 64
    exact Nat.le_trans (List.length_filter_le _ _) h.n
end DkS.Ok
theorem tick_fs (s : DkS) : s.tick.fs = s.fs := by
  unfold DkS.tick
  repeat' split
  all_goals rfl
theorem tick_used (s : DkS) : s.tick.used = s.used := by
  unfold DkS.tick
  repeat' split
  all_goals rfl
theorem tick_room (s : DkS) : s.tick.room = s.room := by
  unfold DkS.tick
  repeat' split
  all_goals rfl
theorem file_safe {s : DkS} (h : s.Ok) (k : ByteArray) : 0 ≤ (fileAt s.fs k).safe ∧ (fileAt s.fs k).safe ≤ ((fileAt s.fs k).has.size : Int) := by
  unfold fileAt
  cases hl : look s.fs k with
  | none => exact ⟨Int.le_refl _, Int.le_refl _⟩
  | some f => exact h.safe _ (look_mem hl)
end Go.Proofs.YtaghdopickgpgaaDoor
