import Derived.Test.YtaghdopickgpgaaDoorDkF
import Derived.Test.YtaghdopickgpgaaDoorDkG
import Derived.Test.YtaghdopickgpgaaDoorDkH
import Derived.Test.YtaghdopickgpgaaDoorDkL
namespace Go.Proofs.YtaghdopickgpgaaDoor
open Go Go.RowKit
set_option linter.unusedVariables false
set_option linter.unusedSimpArgs false

/-! What the calls keep; plain. -/
theorem fileAt_tick (s : DkS) (k : ByteArray) : fileAt s.tick.fs k = fileAt s.fs k := by rw [tick_fs]
theorem append_size (a b : ByteArray) : (a ++ b).size = a.size + b.size := ByteArray.size_append
namespace DkS.Ok
variable {s : DkS}
theorem append (h : s.Ok) (k d : ByteArray) : (s.append k d).1.Ok := by
  unfold DkS.append
  split
  · exact h
  · rename_i hk
    have hk : okName k = true := by cases hh : okName k with | true => rfl | false => exact absurd hh hk
    split
    · exact h
    · rename_i ht
      unfold DkS.tight at ht
      split
      · exact h.tick
      · have hf := file_safe h k
        refine h.tick.set k _ hk ?_ ?_ ?_
        · show 0 ≤ (fileAt s.fs k).safe ∧ (fileAt s.fs k).safe ≤ (((fileAt s.fs k).has ++ d).size : Int)
          rw [append_size]
          omega
        · show s.tick.used + ((((fileAt s.fs k).has ++ d).size : Int) - sizeAt s.tick.fs k) ≤ s.tick.room
          rw [append_size, tick_used, tick_fs, tick_room]
          unfold sizeAt
          omega
        · rw [tick_fs]
          cases hl : (look s.fs k).isSome with
          | true => exact .inl rfl
          | false => right; rw [hl] at ht; simp at ht; omega
theorem cut (h : s.Ok) (k : ByteArray) (n : Int) : (s.cut k n).1.Ok := by
  unfold DkS.cut
  split
  · exact h
  · rename_i hk
    split
    · exact h
    · rename_i hn
      split
      · exact h.tick
      · have hf := file_safe h k
        obtain ⟨h1, h2⟩ := knownE_ok (Decidable.not_not.1 hk)
        refine h.tick.set k _ h1 ?_ ?_ (.inl (by rw [tick_fs]; exact h2))
        · unfold cutFile
          simp only [ByteArray.size_extract]
          omega
        · show s.tick.used + ((((fileAt s.fs k).has.extract 0 n.toNat).size : Int) - sizeAt s.tick.fs k) ≤ s.tick.room
          have := h.u1
          rw [ByteArray.size_extract, tick_used, tick_fs, tick_room]
          unfold sizeAt
          omega
theorem remove (h : s.Ok) (k : ByteArray) : (s.remove k).1.Ok := by
  unfold DkS.remove
  split
  · exact h
  · split
    · exact h.tick
    · exact h.tick.drop k
theorem rename (h : s.Ok) (a b : ByteArray) : (s.rename a b).1.Ok := by
  unfold DkS.rename
  split
  · exact h
  · rename_i hab
    have hab : (okName a && okName b) = true := by cases hh : (okName a && okName b) with | true => rfl | false => exact absurd hh hab
    rw [Bool.and_eq_true] at hab
    split
    · exact h
    · rename_i hk
      obtain ⟨h1, h2⟩ := knownE_ok (Decidable.not_not.1 hk)
      split
      · exact h.tick
      · have hd := h.tick.drop a
        refine hd.set b _ hab.2 (file_safe h a) ?_ (.inr ?_)
        · show s.tick.used - sizeAt s.tick.fs a + (((fileAt s.fs a).has.size : Int) - sizeAt (s.tick.drop a).fs b) ≤ s.tick.room
          have := h.u1
          rw [tick_used, tick_fs, tick_room]
          have h0 : 0 ≤ sizeAt (s.tick.drop a).fs b := by unfold sizeAt; omega
          unfold sizeAt at *
          omega
        · show (sans s.tick.fs a).length < 64
          rw [tick_fs, sans_length (sorted_nodup h.sorted), if_pos h2]
          have := h.n
          have : 0 < s.fs.length := by
            obtain ⟨x, hx⟩ := Option.isSome_iff_exists.1 h2
            exact List.length_pos_of_mem (look_mem hx)
          omega
theorem total_sync (fs : Files) : total (fs.map syncF) = total fs := by
  induction fs with
  | nil => rfl
  | cons p fs ih => rw [List.map_cons, total_cons, total_cons, ih]; rfl
theorem synced (h : s.Ok) : s.synced.Ok := by
  refine ⟨h.r0, h.r1, ?_, h.u1, ?_, ?_, ?_, ?_, h.l0, h.l1⟩
  · show s.used = total (s.fs.map syncF)
    rw [total_sync, h.used]
  · show (s.fs.map syncF).length ≤ 64
    rw [List.length_map]
    exact h.n
  · intro p hp
    obtain ⟨q, hq, rfl⟩ := List.mem_map.1 hp
    show 0 ≤ ((q.2.has.size : Nat) : Int) ∧ ((q.2.has.size : Nat) : Int) ≤ (q.2.has.size : Int)
    omega
  · intro p hp
    obtain ⟨q, hq, rfl⟩ := List.mem_map.1 hp
    exact h.names q hq
  · show (s.fs.map syncF).Pairwise _
    rw [List.pairwise_map]
    exact h.sorted
theorem sync (h : s.Ok) : s.sync.1.Ok := by
  unfold DkS.sync
  split
  · exact h.tick
  · exact h.tick.synced
theorem total_crash {fs : Files} (hs : ∀ p ∈ fs, 0 ≤ p.2.safe ∧ p.2.safe ≤ (p.2.has.size : Int)) (ds : List Int) : total (crashL fs ds) ≤ total fs := by
  induction fs generalizing ds with
  | nil => exact Int.le_refl _
  | cons p fs ih =>
    rw [crashL, total_cons, total_cons]
    have h1 := (crash1_ok (hs p (by simp)) ds).2.2
    have h2 := ih (fun q hq => hs q (by simp [hq])) (crash1 p.2 ds).2
    show ((crash1 p.2 ds).1.has.size : Int) + _ ≤ _
    omega
theorem crash_safe {fs : Files} (hs : ∀ p ∈ fs, 0 ≤ p.2.safe ∧ p.2.safe ≤ (p.2.has.size : Int)) (ds : List Int) : ∀ p ∈ crashL fs ds, 0 ≤ p.2.safe ∧ p.2.safe ≤ (p.2.has.size : Int) := by
  induction fs generalizing ds with
  | nil => intro p hp; cases hp
  | cons p fs ih =>
    intro q hq
    rw [crashL] at hq
    rcases List.mem_cons.1 hq with rfl | hq
    · have h1 := crash1_ok (hs p (by simp)) ds
      exact ⟨h1.1, h1.2.1⟩
    · exact ih (fun q hq => hs q (by simp [hq])) _ q hq
theorem crashed (h : s.Ok) (ds : List Int) : (s.crashed ds).Ok := by
  have hn := crashL_names s.fs ds
  refine ⟨h.r0, h.r1, rfl, ?_, ?_, crash_safe h.safe ds, ?_, ?_, Int.le_refl _, show (0 : Int) ≤ 9223372036854775807 by decide⟩
  · show total (crashL s.fs ds) ≤ s.room
    have h1 := total_crash h.safe ds
    have := h.used
    have := h.u1
    omega
  · show (crashL s.fs ds).length ≤ 64
    have := congrArg List.length hn
    rw [List.length_map, List.length_map] at this
    rw [this]
    exact h.n
  · intro p hp
    have h1 : p.1 ∈ (crashL s.fs ds).map (·.1) := List.mem_map.2 ⟨p, hp, rfl⟩
    rw [hn] at h1
    obtain ⟨q, hq, e⟩ := List.mem_map.1 h1
    rw [← e]
    exact h.names q hq
  · show (crashL s.fs ds).Pairwise fun p q => ltB p.1 q.1 = true
    have h1 : (s.fs.map (·.1)).Pairwise fun a b => ltB a b = true := by rw [List.pairwise_map]; exact h.sorted
    rw [← hn, List.pairwise_map] at h1
    exact h1
theorem fuse (h : s.Ok) (n : Int) (h0 : 0 ≤ n) (h1 : n ≤ 9223372036854775807) : DkS.Ok { s with fused := true, left := n } := ⟨h.r0, h.r1, h.used, h.u1, h.n, h.safe, h.names, h.sorted, h0, h1⟩
theorem new (n : Int) (h0 : 0 ≤ n) (h1 : n ≤ 262144) : DkS.Ok ⟨n, 0, [], false, false, 0⟩ := ⟨h0, h1, rfl, h0, by simp, by simp, by simp, by simp, Int.le_refl _, show (0 : Int) ≤ 9223372036854775807 by decide⟩
end DkS.Ok
end Go.Proofs.YtaghdopickgpgaaDoor
