import Derived.Test.YtaaeiljeanfinaaNetA
import Derived.WalkSpells
namespace Go.Proofs.Ytaaeiljeanfinaa
open Go Go.RowKit
set_option linter.unusedVariables false
set_option linter.unusedSimpArgs false

theorem idx_spec {α : Type} (p : α → Bool) (l : List α) : (idx p l 0 = -1 ∧ ∀ x ∈ l, p x = false) ∨ ∃ k, k < l.length ∧ idx p l 0 = (k : Int) ∧ l.take k = (l.take (k + 1)).filter (fun x => !p x) := by
  have h : ∀ (l : List α) (i : Int), (idx p l i = -1 ∧ ∀ x ∈ l, p x = false) ∨ ∃ k : Nat, k < l.length ∧ idx p l i = i + k ∧ l.take k = (l.take (k + 1)).filter (fun x => !p x) := by
    intro l
    induction l with
    | nil => intro i; exact .inl ⟨rfl, by simp⟩
    | cons x l ih =>
      intro i
      cases hx : p x with
      | true => exact .inr ⟨0, by simp, by simp [idx, hx], by simp [hx]⟩
      | false =>
        rcases ih (i + 1) with ⟨h1, h2⟩ | ⟨k, hk, h1, h2⟩
        · exact .inl ⟨by simp [idx, hx, h1], by simpa [hx] using h2⟩
        · exact .inr ⟨k + 1, by simpa using hk, by simp [idx, hx, h1]; omega, by rw [List.take_succ_cons, List.take_succ_cons, List.filter_cons, hx, h2]; simp⟩
  rcases h l 0 with h1 | ⟨k, h1, h2, h3⟩
  · exact .inl h1
  · exact .inr ⟨k, h1, by rw [h2]; omega, h3⟩

theorem info_letters : (Try.prog.info? 38).map (fun i => (i.zero, i.size, i.bytes)) = some (some (.agg #[.int .i64 0, .int .i64 0, .int .i64 0, .string ⟨#[]⟩]), 4, 40) := by kernel_rfl
set_option maxHeartbeats 4000000 in
set_option maxRecDepth 1000000 in
theorem delete_letters (v : Value) (l : List Letter) (i : Nat) (w : World) (hr : Row w 38 4 Letter.cells v l) (hi : i < l.length) (hl : l.length ≤ 4611686018427387904) :
    Calls Try.prog 46 #[v, .int .i64 (i : Int), .int .i64 ((i : Int) + 1)] w fun e w' => ∃ v', e = .returned v' ∧ Row w' 38 4 Letter.cells v' (l.eraseIdx i) ∧ w.grownBy w' v.ownBlock ∧ v'.ownBlock = v.ownBlock := by
  obtain ⟨g, c, rfl, hgl, hcl⟩ := hr.form (by omega)
  obtain ⟨_, cur, hg, _, hcm, hcs, hct⟩ := hr.block
  obtain ⟨i0, hi0, hz0, hz1, hz2⟩ := info_parts info_letters
  have hlen : ∀ x, (Letter.cells x).length = 4 := fun _ => rfl
  obtain ⟨news, hnews⟩ : ∃ news, news = (l.drop (i + 1)).flatMap Letter.cells := ⟨_, rfl⟩
  have hnl : news.length = (l.length - (i + 1)) * 4 := by rw [hnews, flat_length hlen, List.length_drop]
  obtain ⟨A, hA, hsrc⟩ : ∃ A : Addr, (if c = i + 1 then some (⟨g, 0, none⟩ : Addr) else some ⟨g, (i + 1) * 4, none⟩) = some A ∧ Hid (∀ t u, news[t]? = some u → w.drew.cell? (A.add t) = some u) := by
    by_cases h : c = i + 1
    · refine ⟨⟨g, 0, none⟩, by simp [h], Lib.hid fun t u hu => ?_⟩
      have h0 : news.length = 0 := by rw [hnl]; omega
      rw [List.length_eq_zero_iff.1 h0] at hu
      simp at hu
    · refine ⟨⟨g, (i + 1) * 4, none⟩, by simp [h], Lib.hid fun t u hu => ?_⟩
      have ht : t < (l.length - (i + 1)) * 4 := by rw [← hnl]; exact (List.getElem?_eq_some_iff.1 hu).1
      rw [hnews] at hu
      have e1 := flat_get hlen (l.drop (i + 1)) (t / 4) (t % 4) (by rw [List.length_drop]; omega) (by omega)
      rw [show t / 4 * 4 + t % 4 = t by omega, hu, List.getElem_drop] at e1
      have e2 := hr.cell hlen (i + 1 + t / 4) (t % 4) (by omega) (by omega)
      rw [← e1] at e2
      rw [Addr.add_lit, show (i + 1) * 4 + t = (i + 1 + t / 4) * 4 + t % 4 by omega]
      exact e2
  have s1 := Lib.hid hnl
  have s2 : Hid (∀ u ∈ news, u.oneCell' = true) := Lib.hid (by rw [hnews]; exact flat_one (fun x u hu => by simp [Letter.cells] at hu; rcases hu with rfl | rfl | rfl | rfl <;> rfl) _)
  have s3 : Hid (∀ t, t < news.length → (w.drew.cell? ⟨g, 0 + i * 4 + t, none⟩).isSome = true ∧ w.drew.frozen? ⟨g, 0 + i * 4 + t, none⟩ = false) := Lib.hid fun t ht => by
    have hgd : w.drew.heap[g]? = some (.cells cur 38 (0, 0)) := hg
    rw [hnl] at ht
    have hm : l.length * 4 ≤ c * 4 := Nat.mul_le_mul_right _ hcl
    exact ⟨by rw [cell_of_row _ g _ cur _ (0, 0) hgd, Array.getElem?_eq_getElem (by omega)]; rfl, frozen_of_row _ g _ cur _ hgd⟩
  obtain ⟨W1, hW1⟩ : ∃ W1, W1 = w.drew.setCells g (0 + i * 4) news := ⟨_, rfl⟩
  have hlc : l.length * 4 ≤ c * 4 := Nat.mul_le_mul_right _ hcl
  have hW1' := hW1.trans (setCells_row (w := w.drew) (cur := cur) (t := 38) hg (by rw [hnl, hcs]; omega) s2.out)
  obtain ⟨cur1, hcur1⟩ : ∃ cur1, cur1 = (cur.toList.take (0 + i * 4) ++ news ++ cur.toList.drop (0 + i * 4 + news.length)).toArray := ⟨_, rfl⟩
  rw [← hcur1] at hW1'
  have hs1 : cur1.size = c * 4 := by
    rw [hcur1]
    simp only [List.size_toArray, List.length_append, List.length_take, List.length_drop, Array.length_toList, hnl]
    omega
  have hg1 : W1.heap[g]? = some (.cells cur1 38 (0, 0)) := by rw [hW1']; exact setRow_heap w.drew g cur cur1 _ _ hg
  have hk1 : w.grownBy W1 (some g) := by rw [hW1']; exact ⟨rfl, rfl, rfl, by simp, fun k _ hk => setRow_other w.drew g k _ (fun e => hk (by simp [e]))⟩
  have ht1 : cur1.toList.take ((l.length - 1) * 4) = (l.eraseIdx i).flatMap Letter.cells := by
    have e1 : cur.toList.take (0 + i * 4) = (l.take i).flatMap Letter.cells := by
      have e2 : (cur.toList.take (l.length * 4)).take (i * 4) = cur.toList.take (0 + i * 4) := by rw [List.take_take, Nat.zero_add, Nat.min_eq_left (by omega)]
      rw [← e2, hct]
      have e3 : l.flatMap Letter.cells = (l.take i).flatMap Letter.cells ++ (l.drop i).flatMap Letter.cells := by rw [← List.flatMap_append, List.take_append_drop]
      rw [e3, List.take_left' (by rw [flat_length hlen, List.length_take, Nat.min_eq_left (by omega)])]
    rw [List.eraseIdx_eq_take_drop_succ, List.flatMap_append, ← hnews, ← e1, hcur1]
    show List.take _ (_ ++ _) = _
    rw [List.take_left' (by rw [List.length_append, List.length_take, Array.length_toList, hnl, hcs]; omega)]
  obtain ⟨cs2, hcl2, hs2, ht2⟩ := run_clear_row Try.prog W1 41 38 0 (.agg #[.int .i64 0, .int .i64 0, .int .i64 0, .string ⟨#[]⟩]) 4 Try.underlying41 (fun w => by kernel_rfl) rfl (by intro u hu; simp [Value.cells] at hu; rcases hu with rfl | rfl | rfl | rfl <;> rfl) g ((i + (l.length - (i + 1))) * 4) (l.length - (i + (l.length - (i + 1)))) (c - (i + (l.length - (i + 1)))) cur1 hg1 (by rw [hs1]; omega)
  obtain ⟨W2, hW2⟩ : ∃ W2, W2 = W1.setRow g cs2 := ⟨_, rfl⟩
  rw [← hW2] at hcl2
  have H : Hid (Row W2 38 4 Letter.cells (.slice (some ⟨g, 0, none⟩) (i + (l.length - (i + 1))) c) (l.eraseIdx i) ∧ w.grownBy W2 (some g)) := Lib.hid ⟨Row.of_block (cur := cs2) (by rw [hW2]; exact setRow_heap W1 g cur1 cs2 _ _ hg1) (by rw [List.length_eraseIdx_of_lt hi]; omega) (by omega) hcm (by rw [hs2, hs1]) hlen (by
      rw [ht2, show i + (l.length - (i + 1)) = l.length - 1 by omega]; exact ht1), World.grownBy.trans hk1 (by rw [hW2]; exact grown_setRow W1 g cs2)⟩
  have hW := Lib.hid hW1
  have hic : i ≤ c := by omega
  have hjc : i + 1 ≤ c := by omega
  have hne : i ≠ i + 1 := by omega
  have hil : i + 1 ≤ l.length := by omega
  have hje : (i : Int) + 1 = ((i + 1 : Nat) : Int) := by omega
  rw [hje]
  obtain ⟨j, HJ⟩ : ∃ j, Hid (j = i + 1) := ⟨_, Lib.hid rfl⟩
  rw [← HJ.out] at hA hjc hcl2 hil hne H s1 ⊢
  have hroom : i + (l.length - j) ≤ c := by have := HJ.out; omega
  have hij : i ≤ j := by have := HJ.out; omega
  clear hje
  clear hW1 hW1' hcur1 hs1 hg1 hk1 ht1 hs2 ht2 hW2 hnews hnl hr hg hcs hct hcm hlc
  go_enter Try.func46, Try.ntmps46
  go_wp2_with fail
  go_region_law (refine step_append_room rfl (.tmp 22) (.tmp 25) 41 rfl 38 i0 4 Try.underlying41 hi0 hz1 g 0 i c (by simp [Act.eval, Act.put]) A (l.length - j) (c - j) news (by simp [Act.eval, Act.put]) s1.out hsrc.out s2.out hroom s3.out ?_; rw [← hW.out])
  go_wp2
  go_ret
  exact ⟨_, rfl, H.out.1, H.out.2, rfl⟩
end Go.Proofs.Ytaaeiljeanfinaa
