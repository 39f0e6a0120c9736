import Derived.Test.YtpimpdgibcjbeaaRlD
import Derived.WalkSpells
namespace Go.Proofs.Ytpimpdgibcjbeaa
open Go Go.RowKit
set_option linter.unusedVariables false
set_option linter.unusedSimpArgs false

theorem clone_none (w : World) :
    Calls Try.prog 29 #[.slice none 0 0] w fun e w' => e = .returned (.slice none 0 0) ∧ w' = w := by
  have he := fun (w : World) (n c : Nat) => Lib.run_eql_slice_nil (P := Try.prog) w 36 44 none n c 0 0 Try.underlying36
  go_enter Try.func29, Try.ntmps29
  go_wp2
  go_ret
  exact ⟨rfl, rfl⟩
set_option maxHeartbeats 4000000 in
/-- slices.Clone of a stretch of a row. -/
theorem clone_some (ad : Addr) (c : Nat) (l : List Ent) (w : World) (hlt : ad.block < w.heap.size) (hw : ∀ j u, (l.flatMap Ent.cells)[j]? = some u → w.cell? (ad.add j) = some u) (hl : l.length * 24 ≤ 140737488355328) :
    Calls Try.prog 29 #[.slice (some ad) l.length c] w fun e w' => ∃ v', e = .returned v' ∧ Row w' 44 2 Ent.cells v' l ∧ Below w.heap.size w w' ∧ ∀ k, v'.ownBlock = some k → w.heap.size ≤ k := by
  have hl0 : l.length ≤ 9223372036854775807 := by omega
  have he := fun (w : World) (n c : Nat) => Lib.run_eql_slice_nil (P := Try.prog) w 36 44 (some ad) n c 0 0 Try.underlying36
  have hn := Lib.hid (show ∀ j u, (l.flatMap Ent.cells)[j]? = some u → (w.alloc (.cells #[] 44)).cell? (ad.add j) = some u from fun j u hu => by
    have := hw j u hu
    rw [World.cell?_alloc_lt _ _ _ (by unfold Addr.add; split <;> exact hlt)]
    exact this)
  have hm := Lib.hid (show Row (w.alloc (.cells #[] 44)) 44 2 Ent.cells (.slice (some ⟨w.heap.size, 0, none⟩) 0 0) [] from World.ownsRow_made w #[] 0 (Nat.zero_le _) (by decide) rfl)
  have h1 : Hid (∀ x : Ent, ∀ u ∈ Ent.cells x, u.oneCell' = true) := Lib.hid (fun x u hu => by simp [Ent.cells] at hu; rcases hu with rfl | rfl <;> rfl)
  clear hw
  go_enter Try.func29, Try.ntmps29
  go_wp2_with (at_builtin; refine Row.append_list (by rfl) (.tmp 5) (.tmp 6) 36 44 (.agg #[.int .i64 0, .string ⟨#[]⟩]) 2 24 rfl Try.underlying36 info_entries rfl (by decide) (by decide) (.slice (some ⟨w.heap.size, 0, none⟩) 0 0) [] l rfl ad l.length c rfl hm.out rfl (fun _ => rfl) hn.out h1.out (by simpa using hl) ?_)
  intro v1 w1 hR hg hat
  have HR := Lib.hid hR
  have HG := Lib.hid hg
  have HA := Lib.hid hat
  clear hR hg hat
  go_wp2
  go_ret
  exact ⟨_, rfl, by simpa using HR.out, ((Below.refl _ _).alloc (Nat.le_refl _) _).grown HG.out (by simp) (fun k hk => by simp [Value.ownBlock] at hk; omega), fun k (hk : v1.ownBlock = some k) => by
    rcases HA.out with h | h
    · rw [h] at hk; simp [Value.ownBlock] at hk; omega
    · rw [h] at hk; simp at hk; omega⟩
end Go.Proofs.Ytpimpdgibcjbeaa
