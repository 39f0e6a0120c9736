import Derived.Test.YtcpenjbgiecgnaaORowX
import Derived.ArgAppend
namespace Go.Proofs.Ytcpenjbgiecgnaa
open Go Go.RowKit
set_option linter.unusedVariables false
set_option linter.unusedSimpArgs false

/-! A row that may have been cut at its front. -/
def QRow {α : Type} (w : World) (e sz : Nat) (enc : α → List Value) (v : Value) (l : List α) : Prop :=
  (v = .slice none 0 0 ∧ l = []) ∨ ∃ (g o c : Nat) (cur : Array Value), v = .slice (some ⟨g, o * sz, none⟩) l.length c ∧ w.heap[g]? = some (.cells cur e (0, 0)) ∧ l.length ≤ c ∧ o + c ≤ maxLen ∧ cur.size = (o + c) * sz ∧ (cur.toList.drop (o * sz)).take (l.length * sz) = l.flatMap enc
section
variable {α : Type} {w w' : World} {e sz : Nat} {enc : α → List Value} {v : Value} {l : List α}
theorem QRow.of_row (h : Row w e sz enc v l) : QRow w e sz enc v l := by
  rcases h.2 with ⟨rfl, h0⟩ | ⟨g, cap, cur, rfl, _, hg, hc, hm, hs, ht⟩
  · exact .inl ⟨rfl, List.eq_nil_of_length_eq_zero h0⟩
  · exact .inr ⟨g, 0, cap, cur, by rw [Nat.zero_mul], hg, hc, by omega, by rw [Nat.zero_add]; exact hs, by rw [Nat.zero_mul, List.drop_zero]; exact ht⟩
theorem QRow.nil_ (w : World) (e sz : Nat) (enc : α → List Value) : QRow w e sz enc (.slice none 0 0) ([] : List α) := .inl ⟨rfl, rfl⟩
theorem QRow.shape (h : QRow w e sz enc v l) : ∃ A c, v = .slice A l.length c ∧ l.length ≤ c ∧ c ≤ maxLen := by
  rcases h with ⟨rfl, rfl⟩ | ⟨g, o, c, cur, rfl, _, hc, hm, _⟩
  · exact ⟨none, 0, rfl, Nat.le_refl _, by decide⟩
  · exact ⟨_, c, rfl, hc, by omega⟩
theorem QRow.form (h : QRow w e sz enc v l) (hn : 0 < l.length) : ∃ g o c, v = .slice (some ⟨g, o * sz, none⟩) l.length c ∧ g < w.heap.size ∧ l.length ≤ c ∧ o + c ≤ maxLen := by
  rcases h with ⟨rfl, rfl⟩ | ⟨g, o, c, cur, rfl, hg, hc, hm, _⟩
  · simp at hn
  · exact ⟨g, o, c, rfl, (Array.getElem?_eq_some_iff.1 hg).1, hc, hm⟩
theorem QRow.lt (h : QRow w e sz enc v l) {k : Nat} (hk : v.ownBlock = some k) : k < w.heap.size := by
  rcases h with ⟨rfl, _⟩ | ⟨g, o, c, cur, rfl, hg, _⟩
  · simp [Value.ownBlock] at hk
  · have : g = k := by simpa [Value.ownBlock] using hk
    subst this
    exact (Array.getElem?_eq_some_iff.1 hg).1
theorem QRow.typed (h : QRow w e sz enc v l) {k : Nat} (hk : v.ownBlock = some k) : ∃ cells, Blk w k e cells := by
  rcases h with ⟨rfl, _⟩ | ⟨g, o, c, cur, rfl, hg, _⟩
  · simp [Value.ownBlock] at hk
  · have : g = k := by simpa [Value.ownBlock] using hk
    subst this
    exact ⟨_, hg⟩
theorem QRow.kept {S : Nat → Prop} (h : QRow w e sz enc v l) (hk : Kept w w' S) (hS : ∀ k, v.ownBlock = some k → ¬ S k) : QRow w' e sz enc v l := by
  rcases h with h | ⟨g, o, c, cur, rfl, hg, rest⟩
  · exact .inl h
  · exact .inr ⟨g, o, c, cur, rfl, (hk.block g (Array.getElem?_eq_some_iff.1 hg).1 (hS g (by simp [Value.ownBlock]))).trans hg, rest⟩
theorem QRow.alloc (h : QRow w e sz enc v l) (ob : Obj) : QRow (w.alloc ob) e sz enc v l := h.kept ((Kept.refl w fun _ => False).alloc ob) (fun _ _ h => h)
theorem QRow.grown (h : QRow w e sz enc v l) {row : Option Nat} (hg : w.grownBy w' row) (hn : ∀ k, v.ownBlock = some k → some k ≠ row) : QRow w' e sz enc v l :=
  h.kept (S := fun k => some k = row) ⟨hg.os, hg.tape, hg.output, hg.size, fun k hk hn => hg.block k hk hn⟩ (fun k e => hn k e)
theorem QRow.cell {g o n c : Nat} (h : QRow w e sz enc (.slice (some ⟨g, o * sz, none⟩) n c) l) (hs : ∀ x, (enc x).length = sz) (h0 : 0 < sz) (i j : Nat) (hi : i < l.length) (hj : j < sz) : w.cell? ⟨g, o * sz + (i * sz + j), none⟩ = (enc l[i])[j]? := by
  rcases h with ⟨h, _⟩ | ⟨g', o', c', cur, h, hg, hc, hm, hz, ht⟩
  · simp at h
  · simp only [Value.slice.injEq, Option.some.injEq, Addr.mk.injEq, and_true] at h
    obtain ⟨⟨rfl, ho⟩, rfl, rfl⟩ := h
    have ho : o = o' := Nat.eq_of_mul_eq_mul_right h0 ho
    subst ho
    have e1 := flat_get hs l i j hi hj
    rw [← ht] at e1
    have hlt : i * sz + j < l.length * sz := by
      have := Nat.mul_le_mul_right sz (show i + 1 ≤ l.length from hi)
      rw [Nat.add_mul] at this
      omega
    rw [List.getElem?_take, if_pos hlt, List.getElem?_drop] at e1
    rw [cell_of_row w g _ cur e (0, 0) hg, ← e1]
    simp
theorem QRow.frozen {A : Addr} {n c : Nat} (h : QRow w e sz enc (.slice (some A) n c) l) (j : Nat) : w.frozen? ⟨A.block, j, none⟩ = false := by
  rcases h with ⟨h, _⟩ | ⟨g', o', c', cur, h, hg, _⟩
  · simp at h
  · simp only [Value.slice.injEq, Option.some.injEq] at h
    obtain ⟨rfl, _⟩ := h
    exact frozen_of_row w g' j cur e hg
/-- Cut at its front. -/
theorem QRow.suffix {A : Option Addr} {n c : Nat} (h : QRow w e sz enc (.slice A n c) l) (hs : ∀ x, (enc x).length = sz) (i : Nat) (hi : i < l.length ∨ (i = 0 ∧ l = [])) : QRow w e sz enc (.slice (cutA A c i sz) (n - i) (c - i)) (l.drop i) := by
  rcases h with ⟨h, rfl⟩ | ⟨g, o, c', cur, h, hg, hc, hm, hz, ht⟩
  · simp only [Value.slice.injEq] at h
    obtain ⟨rfl, rfl, rfl⟩ := h
    obtain rfl : i = 0 := by rcases hi with h | h; (· simp at h); exact h.1
    exact .inl ⟨rfl, rfl⟩
  · simp only [Value.slice.injEq] at h
    obtain ⟨rfl, rfl, rfl⟩ := h
    by_cases h0 : c = i
    · obtain ⟨rfl, rfl⟩ : i = 0 ∧ l = [] := by rcases hi with h | h; (· omega); exact h
      subst h0
      refine .inr ⟨g, o, 0, cur, by simp [cutA], hg, by simp, by omega, hz, by simp⟩
    · have hil : i ≤ l.length := by rcases hi with h | h; (· omega); (· omega)
      refine .inr ⟨g, o + i, c - i, cur, ?_, hg, by rw [List.length_drop]; omega, by omega, by rw [hz]; congr 1; omega, ?_⟩
      · unfold cutA
        rw [if_neg h0, List.length_drop]
        show Value.slice (some ((⟨g, o * sz, none⟩ : Addr).add (i * sz))) _ _ = _
        congr 2
        unfold Addr.add
        split
        · rename_i hz0
          rw [Nat.add_mul, hz0, Nat.add_zero]
        · rw [Nat.add_mul]
      · have e2 : (l.drop i).flatMap enc = (l.flatMap enc).drop (i * sz) := by
          have e1 : l.flatMap enc = (l.take i).flatMap enc ++ (l.drop i).flatMap enc := by rw [← List.flatMap_append, List.take_append_drop]
          rw [e1, List.drop_left' (by rw [flat_length hs, List.length_take, Nat.min_eq_left hil])]
        rw [e2, ← ht, List.drop_take, List.drop_drop, List.length_drop, Nat.sub_mul, Nat.add_mul]
theorem QRow.seg (h : QRow w e sz enc v l) (hs : ∀ x, (enc x).length = sz) (h0 : 0 < sz) : SegG w enc v l := by
  obtain ⟨A, c, rfl, hc, hm⟩ := h.shape
  refine ⟨A, c, rfl, hc, hm, fun hp => ?_⟩
  obtain ⟨g, o, c', hv, _⟩ := h.form hp
  injection hv with hA _ hcc
  subst hA hcc
  refine ⟨_, rfl, fun t u hu => ?_⟩
  have ht : t < l.length * sz := by rw [← flat_length hs]; exact (List.getElem?_eq_some_iff.1 hu).1
  have hd : t / sz < l.length := Nat.div_lt_of_lt_mul (by rwa [Nat.mul_comm])
  have hmod := Nat.mod_lt t h0
  have e0 := Nat.div_add_mod t sz
  rw [Nat.mul_comm] at e0
  have e1 := flat_get hs l (t / sz) (t % sz) hd hmod
  rw [e0, hu] at e1
  have e2 := h.cell hs h0 (t / sz) (t % sz) hd hmod
  rw [← e1, e0] at e2
  unfold Addr.add
  split
  · rename_i h; subst h; simpa using e2
  · exact e2
end
section
variable {P : Program} {α : Type} {enc : α → List Value}
theorem QRow.append_run {W : World} (t ty e : TypeId) (z : Value) (sz bytes : Nat) (ht : P.underlying t = some (.slice e)) (hinfo : (P.info? e).map (fun i => (i.zero, i.size, i.bytes)) = some (some z, sz, bytes)) (hz : z.cells.size = sz) (hs0 : 0 < sz) (hb0 : 0 < bytes)
    (v : Value) (l ys : List α) (HR : QRow W e sz enc v l) (ad : Addr) (m c : Nat) (hm : ys.length = m) (hlen : ∀ x, (enc x).length = sz) (hnews : ∀ j u, (ys.flatMap enc)[j]? = some u → W.cell? (ad.add j) = some u)
    (h1 : ∀ x, ∀ u ∈ enc x, u.oneCell' = true) (hl : (l.length + m) * bytes ≤ 140737488355328) :
    ∃ v1 w1, (Builtin.append_ #[t, t] ty #[v, .slice (some ad) m c]).run P W = .ok v1 w1 ∧ QRow w1 e sz enc v1 (l ++ ys) ∧ W.grownBy w1 v.ownBlock ∧ (v1.ownBlock = v.ownBlock ∨ ∀ k, v1.ownBlock = some k → W.heap.size ≤ k) := by
  rcases HR with ⟨rfl, rfl⟩ | ⟨g, o, cap, cur, rfl, hg, hc, hmx, hzs, htk⟩
  · obtain ⟨v1, w1, hr, h2, h3, h4⟩ := Row.append_run (P := P) (W := W) t ty e z sz bytes ht hinfo hz hs0 hb0 (.slice none 0 0) [] ys (Row.nil_ ..) ad m c hm hlen hnews h1 hl
    exact ⟨v1, w1, hr, .of_row h2, h3, h4.imp id fun e k hk => by rw [e] at hk; injection hk with hk; omega⟩
  · obtain ⟨i0, hi, hzz⟩ := Option.map_eq_some_iff.1 hinfo
    simp only [Prod.mk.injEq] at hzz
    obtain ⟨hz0, hz1, hz2⟩ := hzz
    have hle : l.length + m ≤ 140737488355328 := Nat.le_trans (Nat.le_mul_of_pos_right _ hb0) hl
    have hfl := flat_length hlen l
    have hfy := flat_length hlen ys
    rw [hm] at hfy
    by_cases hroom : l.length + m ≤ cap
    · have hm1 : (o + (l.length + m)) * sz ≤ (o + cap) * sz := Nat.mul_le_mul_right _ (by omega)
      rw [Nat.add_mul, Nat.add_mul] at hm1
      have hcell : ∀ j, j < (ys.flatMap enc).length → (W.cell? ⟨g, o * sz + l.length * sz + j, none⟩).isSome = true := fun j hj => by
        rw [cell_of_row W g _ cur e (0, 0) hg, Array.getElem?_eq_getElem (by rw [hfy] at hj; omega)]
        rfl
      have hr := run_append_room_cells (P := P) W t ty e i0 ht hi g (o * sz) l.length cap ad m c (ys.flatMap enc) (by rw [hfy, hz1]) hnews (flat_one h1 ys) hroom (by rw [hz1]; exact hcell) (fun j _ => frozen_of_row W g _ cur e hg)
      rw [hz1, setCells_row (cur := cur) hg (by rw [hfy]; omega) (flat_one h1 ys)] at hr
      refine ⟨_, _, hr, .inr ⟨g, o, cap, _, by rw [List.length_append, hm], setRow_heap W g cur _ _ _ hg, by rw [List.length_append, hm]; exact hroom, hmx, ?_, ?_⟩, grown_setRow W g _, .inl rfl⟩
      · simp only [List.size_toArray, List.length_append, List.length_take, List.length_drop, Array.length_toList, hfy]
        omega
      · have hlz : cur.toList.length = cur.size := Array.length_toList
        have e1 : (cur.toList.take (o * sz + l.length * sz)).drop (o * sz) = l.flatMap enc := by rw [List.drop_take, Nat.add_sub_cancel_left, htk]
        have e2 : (cur.toList.take (o * sz + l.length * sz)).length = o * sz + l.length * sz := by rw [List.length_take, hlz]; omega
        show List.take _ (List.drop (o * sz) (cur.toList.take (o * sz + l.length * sz) ++ ys.flatMap enc ++ _)) = _
        rw [List.append_assoc, List.drop_append_of_le_length (by rw [e2]; omega), e1, List.flatMap_append, ← List.append_assoc, List.length_append, hm, Nat.add_mul, List.take_left' (by rw [List.length_append, hfl, hfy])]
    · have holds : ∀ j u, (l.flatMap enc)[j]? = some u → W.cell? ((⟨g, o * sz, none⟩ : Addr).add j) = some u := fun j u hu => by
        have := (QRow.seg (w := W) (e := e) (.inr ⟨g, o, cap, cur, rfl, hg, hc, hmx, hzs, htk⟩) hlen hs0)
        obtain ⟨A', c', hv, _, _, hx⟩ := this
        have hp : 0 < l.length := by
          rcases Nat.eq_zero_or_pos l.length with h | h
          · rw [List.eq_nil_of_length_eq_zero h] at hu; simp at hu
          · exact h
        obtain ⟨ad', rfl, hx2⟩ := hx hp
        simp only [Value.slice.injEq, Option.some.injEq] at hv
        obtain ⟨rfl, _⟩ := hv
        exact hx2 j u hu
      obtain ⟨v1, w1, hr, hown, hgr⟩ := run_append_arg_grows (P := P) W t ty e i0 z sz bytes ht hi hz0 hz1 hz2 hz hs0 ⟨g, o * sz, none⟩ l.length cap (l.flatMap enc) hfl holds ad m c (ys.flatMap enc) hfy hnews (by omega) (by simp only [maxLen]; omega) hl
      have hrow : Row w1 e sz enc v1 (l ++ ys) ∧ ∀ k, v1.ownBlock = some k → W.heap.size ≤ k := by
        unfold Row
        rw [List.length_append, hm, List.flatMap_append]
        rcases hown.2 with ⟨rfl, h0⟩ | ⟨g', cap', cur', rfl, hb', rest⟩
        · exact ⟨⟨hown.1, .inl ⟨rfl, h0⟩⟩, fun k hk => by simp [Value.ownBlock] at hk⟩
        · exact ⟨⟨hown.1, .inr ⟨g', cap', cur', rfl, Nat.zero_le _, rest⟩⟩, fun k hk => by simp [Value.ownBlock] at hk; omega⟩
      exact ⟨v1, w1, hr, .of_row hrow.1, ⟨hgr.os, hgr.tape, hgr.output, hgr.size, fun k hk _ => hgr.block k hk (by simp)⟩, .inr hrow.2⟩
variable {ops : Array Oper} {rest : List Oper} {o : Oper} {a : Act} {Q : Exit → Act → World → Prop} {K : Act → World → Prop} {E : Prop} {W : World}
theorem QRow.append_step (hgd : o.guard = none) (s x : Operand) (t e : TypeId) (z : Value) (sz bytes : Nat)
    (ho : o.op = .call { callee := .builtin .append, args := #[s, x], argTypes := #[t, t] })
    (ht : P.underlying t = some (.slice e)) (hinfo : (P.info? e).map (fun i => (i.zero, i.size, i.bytes)) = some (some z, sz, bytes)) (hz : z.cells.size = sz) (hs0 : 0 < sz) (hb0 : 0 < bytes)
    (v : Value) (l ys : List α) (hs : a.eval s = v) (ad : Addr) (m c : Nat) (hx : a.eval x = .slice (some ad) m c) (HR : QRow W e sz enc v l) (hm : ys.length = m) (hlen : ∀ x, (enc x).length = sz) (hnews : ∀ j u, (ys.flatMap enc)[j]? = some u → W.cell? (ad.add j) = some u)
    (h1 : ∀ x, ∀ u ∈ enc x, u.oneCell' = true) (hl : (l.length + m) * bytes ≤ 140737488355328)
    (h : ∀ v1 w1, QRow w1 e sz enc v1 (l ++ ys) → W.grownBy w1 v.ownBlock → (v1.ownBlock = v.ownBlock ∨ ∀ k, v1.ownBlock = some k → W.heap.size ≤ k) → K (a.put o.dst v1) w1) :
    if Region.wanted o (yielded ops a.tmps) = true then Oper.wp P o a W K Q else E := by
  have hw : Region.wanted o (yielded ops a.tmps) = true := by simp [Region.wanted, hgd]
  rw [if_pos hw]
  obtain ⟨v1, w1, hr, h2, h3, h4⟩ := QRow.append_run (P := P) (W := W) t o.type e z sz bytes ht hinfo hz hs0 hb0 v l ys HR ad m c hm hlen hnews h1 hl
  unfold Oper.wp execOp
  simp only [ho, resolve, invoke, builtin, Sem.run_bind, Sem.run_pure, Result.andThen_ok, List.map_toArray, List.map_cons, List.map_nil, hs, hx, hr]
  exact h v1 w1 h2 h3 h4
theorem QRow.append_list (hgd : o.guard = none) (s x : Operand) (t e : TypeId) (z : Value) (sz bytes : Nat)
    (ho : o.op = .call { callee := .builtin .append, args := #[s, x], argTypes := #[t, t] })
    (ht : P.underlying t = some (.slice e)) (hinfo : (P.info? e).map (fun i => (i.zero, i.size, i.bytes)) = some (some z, sz, bytes)) (hz : z.cells.size = sz) (hs0 : 0 < sz) (hb0 : 0 < bytes)
    (v : Value) (l ys : List α) (hs : a.eval s = v) (ad : Addr) (m c : Nat) (hx : a.eval x = .slice (some ad) m c) (HR : QRow W e sz enc v l) (hm : ys.length = m) (hlen : ∀ x, (enc x).length = sz) (hnews : ∀ j u, (ys.flatMap enc)[j]? = some u → W.cell? (ad.add j) = some u)
    (h1 : ∀ x, ∀ u ∈ enc x, u.oneCell' = true) (hl : (l.length + m) * bytes ≤ 140737488355328)
    (h : ∀ v1 w1, QRow w1 e sz enc v1 (l ++ ys) → W.grownBy w1 v.ownBlock → (v1.ownBlock = v.ownBlock ∨ ∀ k, v1.ownBlock = some k → W.heap.size ≤ k) → wpList P ops Q rest (a.put o.dst v1) w1) :
    wpList P ops Q (o :: rest) a W := by
  refine wpList_plain hgd fun K hK => ?_
  obtain ⟨v1, w1, hr, h2, h3, h4⟩ := QRow.append_run (P := P) (W := W) t o.type e z sz bytes ht hinfo hz hs0 hb0 v l ys HR ad m c hm hlen hnews h1 hl
  unfold Oper.wp execOp
  simp only [ho, resolve, invoke, builtin, Sem.run_bind, Sem.run_pure, Result.andThen_ok, List.map_toArray, List.map_cons, List.map_nil, hs, hx, hr]
  exact hK _ _ (h v1 w1 h2 h3 h4)
end
end Go.Proofs.Ytcpenjbgiecgnaa
