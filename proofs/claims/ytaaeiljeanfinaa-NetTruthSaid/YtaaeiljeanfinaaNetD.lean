import Derived.Test.YtaaeiljeanfinaaNetC
import Derived.WalkSpells
namespace Go.Proofs.Ytaaeiljeanfinaa
open Go Go.RowKit
set_option linter.unusedVariables false
set_option linter.unusedSimpArgs false

set_option maxHeartbeats 4000000 in
theorem clone_letters (v : Value) (l : List Letter) (w : World) (hr : Row w 38 4 Letter.cells v l) (hl : l.length * 40 ≤ 140737488355328) :
    Calls Try.prog 29 #[v] w fun e w' => ∃ v', e = .returned v' ∧ Row w' 38 4 Letter.cells v' l ∧ Below w.heap.size w w' ∧ ∀ k, v'.ownBlock = some k → w.heap.size ≤ k := by
  obtain ⟨A, c, rfl⟩ := hr.shape
  have hl0 : l.length ≤ 9223372036854775807 := by omega
  cases A with
  | none =>
    have h0 : l = [] := by
      rcases hr.2 with ⟨_, h0⟩ | ⟨g, cap, cur, h0, _⟩
      · exact List.eq_nil_of_length_eq_zero h0
      · cases h0
    subst h0
    have HR := Lib.hid hr
    clear hr hl
    have he := fun (w : World) (n c : Nat) => Lib.run_eql_slice_nil (P := Try.prog) w 41 38 none n c 0 0 Try.underlying41
    go_enter Try.func29, Try.ntmps29
    go_wp2
    go_ret
    exact ⟨_, rfl, Row.nil_ .., Below.refl _ _, by simp [Value.ownBlock]⟩
  | some ad =>
    have he := fun (w : World) (n c : Nat) => Lib.run_eql_slice_nil (P := Try.prog) w 41 38 (some ad) n c 0 0 Try.underlying41
    have hn := Lib.hid (show ∀ j u, (l.flatMap Letter.cells)[j]? = some u → (w.alloc (.cells #[] 38)).cell? (ad.add j) = some u from fun j u hu => by
      rcases hr.2 with ⟨h, _⟩ | ⟨g, cap, cur, h, _, hg, _⟩
      · cases h
      · injection h with h
        injection h with h
        subst h
        have := Row.news hr j u hu
        rw [addr0] at this ⊢
        rw [World.cell?_alloc_lt _ _ _ (Array.getElem?_eq_some_iff.1 hg).1]
        exact this)
    have hm := Lib.hid (show Row (w.alloc (.cells #[] 38)) 38 4 Letter.cells (.slice (some ⟨w.heap.size, 0, none⟩) 0 0) [] from World.ownsRow_made w #[] 0 (Nat.zero_le _) (by decide) rfl)
    have h1 : Hid (∀ x : Letter, ∀ u ∈ Letter.cells x, u.oneCell' = true) := Lib.hid (fun x u hu => by simp [Letter.cells] at hu; rcases hu with rfl | rfl | rfl | rfl <;> rfl)
    clear hr
    go_enter Try.func29, Try.ntmps29
    go_wp2_with (at_builtin; refine Row.append_list (by rfl) (.tmp 5) (.tmp 6) 41 38 (.agg #[.int .i64 0, .int .i64 0, .int .i64 0, .string ⟨#[]⟩]) 4 40 rfl Try.underlying41 info_letters rfl (by decide) (by decide) (.slice (some ⟨w.heap.size, 0, none⟩) 0 0) [] l rfl ad l.length c rfl hm.out rfl (fun _ => rfl) hn.out h1.out (by simpa using hl) ?_)
    intro v1 w1 hR hg hat
    have HR := Lib.hid hR
    have HG := Lib.hid hg
    have HA := Lib.hid hat
    clear hR hg hat
    go_wp2
    go_ret
    exact ⟨_, rfl, by simpa using HR.out, ((Below.refl _ _).alloc (Nat.le_refl _) _).grown HG.out (by simp) (fun k hk => by simp [Value.ownBlock] at hk; omega), fun k (hk : v1.ownBlock = some k) => by
      rcases HA.out with h | h
      · rw [h] at hk; simp [Value.ownBlock] at hk; omega
      · rw [h] at hk; simp at hk; omega⟩
end Go.Proofs.Ytaaeiljeanfinaa
