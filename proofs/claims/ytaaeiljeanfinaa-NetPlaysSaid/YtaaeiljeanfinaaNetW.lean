import Derived.Test.YtaaeiljeanfinaaNetV
import Derived.Test.YtaaeiljeanfinaaNetK
namespace Go.Proofs.Ytaaeiljeanfinaa
open Go Go.RowKit
set_option linter.unusedVariables false
set_option linter.unusedSimpArgs false

/-! The two nets answer alike: in plain words. -/
structure Same (n : Nat) (s : NetS) (r : RefS) : Prop where
  nodes : s.nodes = r.nodes
  next : s.next = r.next
  nlo : 0 ≤ s.next
  l : s.l = r.l
  wf : r.wf
  ok : ∀ x ∈ s.l, (0 ≤ x.src ∧ x.src < s.nodes ∧ 0 ≤ x.dst ∧ x.dst < s.nodes) ∧ x.body.size ≤ 140737488355328
  lt : ∀ p ∈ s.parted, p.1 < p.2
  rel : ∀ a b : Nat, (a : Int) < s.nodes → (b : Int) < s.nodes → getC r.cut a b = s.isParted a b
  len : s.l.length ≤ 4096
  plen : s.parted.length ≤ n
theorem Same.more {n m : Nat} {s : NetS} {r : RefS} (h : Same n s r) (hm : n ≤ m) : Same m s r := { h with plen := Nat.le_trans h.plen hm }
section
variable {n : Nat} {s : NetS} {r : RefS}
theorem Same.none_ (h : Same n s r) (x : Int) : r.none_ x = !s.has x := by
  unfold RefS.none_ NetS.has
  rw [Bool.not_not, h.nodes]
theorem Same.full (h : Same n s r) (b : ByteArray) : r.full b ↔ s.full b := by
  unfold RefS.full NetS.full
  rw [h.l, h.next]
theorem has_in {s : NetS} {x : Int} (h : s.has x = true) : 0 ≤ x ∧ x < s.nodes := by
  unfold NetS.has at h
  rw [Bool.not_eq_true', decide_eq_false_iff_not] at h
  omega
theorem Same.put (h : Same n s r) (a b : Int) (body : ByteArray) (ha : 0 ≤ a ∧ a < s.nodes) (hb : 0 ≤ b ∧ b < s.nodes) (hs : body.size ≤ 140737488355328) : (s.put a b body).2 = (r.put a b body).2 ∧ Same n (s.put a b body).1 (r.put a b body).1 := by
  unfold NetS.put RefS.put
  by_cases hf : s.full body
  · rw [if_pos hf, if_pos ((h.full body).2 hf)]
    exact ⟨rfl, h⟩
  · rw [if_neg hf, if_neg (fun x => hf ((h.full body).1 x))]
    refine ⟨by simp only [h.next], ⟨h.nodes, by simp only [NetS.add, RefS.add, h.next], by simp only [NetS.add]; have := h.nlo; omega, by simp only [NetS.add, RefS.add, h.l, h.next], ⟨h.wf.lo, h.wf.hi, h.wf.rows, h.wf.row⟩, ?_, h.lt, h.rel, ?_, h.plen⟩⟩
    · intro x hx
      simp only [NetS.add] at hx ⊢
      rcases List.mem_append.1 hx with hx | hx
      · exact h.ok x hx
      · rw [List.mem_singleton.1 hx]
        exact ⟨⟨ha.1, ha.2, hb.1, hb.2⟩, hs⟩
    · simp only [NetS.add, List.length_append, List.length_singleton]
      unfold NetS.full at hf
      omega
theorem Same.send (h : Same n s r) (a b : Int) (body : ByteArray) (hs : body.size ≤ 140737488355328) : (s.send a b body).2 = (r.send a b body).2 ∧ Same n (s.send a b body).1 (r.send a b body).1 := by
  unfold NetS.send RefS.send
  rw [h.none_, h.none_]
  cases ha : s.has a with
  | false => exact ⟨rfl, h⟩
  | true =>
    cases hb : s.has b with
    | false => exact ⟨rfl, h⟩
    | true => exact h.put a b body (has_in ha) (has_in hb) hs
theorem Same.find (h : Same n s r) (id : Int) : r.find id = s.find id := by unfold RefS.find NetS.find; rw [h.l]
theorem Same.pos (h : Same n s r) (id : Int) : r.pos id = s.pos id := by unfold RefS.pos NetS.pos; rw [h.find]
theorem Same.cut (h : Same n s r) (i : Nat) : Same n (s.cut i) (r.cutL i) := by
  refine ⟨h.nodes, h.next, h.nlo, by simp only [NetS.cut, RefS.cutL, h.l], ⟨h.wf.lo, h.wf.hi, h.wf.rows, h.wf.row⟩, fun x hx => h.ok x (List.mem_of_mem_eraseIdx hx), h.lt, h.rel, ?_, h.plen⟩
  have := List.length_eraseIdx_le s.l i
  have := h.len
  simp only [NetS.cut]
  omega
theorem Same.lose (h : Same n s r) (id : Int) : (s.lose id).2 = (r.lose id).2 ∧ Same n (s.lose id).1 (r.lose id).1 := by
  unfold NetS.lose RefS.lose
  rw [h.pos]
  cases s.pos id with
  | none => exact ⟨rfl, h⟩
  | some i => exact ⟨rfl, h.cut i⟩
theorem Same.copy (h : Same n s r) (id : Int) : (s.copy id).2 = (r.copy id).2 ∧ Same n (s.copy id).1 (r.copy id).1 := by
  rcases s.pos_cases id with ⟨h1, _⟩ | ⟨i, hi, h1, _⟩
  · unfold NetS.copy RefS.copy
    rw [h.pos, h1]
    exact ⟨rfl, h⟩
  · have hx := h.ok s.l[i] (List.getElem_mem hi)
    unfold NetS.copy RefS.copy
    rw [h.pos, h1]
    simp only [← h.l, s.getD i hi]
    exact h.put _ _ _ ⟨hx.1.1, hx.1.2.1⟩ ⟨hx.1.2.2.1, hx.1.2.2.2⟩ hx.2
theorem Same.take (h : Same n s r) (id : Int) : (s.take id).2 = (r.take id).2 ∧ Same n (s.take id).1 (r.take id).1 := by
  rcases s.pos_cases id with ⟨h1, _⟩ | ⟨i, hi, h1, _⟩
  · unfold NetS.take RefS.take
    rw [h.pos, h1]
    exact ⟨rfl, h⟩
  · have hx := h.ok s.l[i] (List.getElem_mem hi)
    obtain ⟨an, ha⟩ := Int.eq_ofNat_of_zero_le hx.1.1
    obtain ⟨bn, hb⟩ := Int.eq_ofNat_of_zero_le hx.1.2.2.1
    have hr := h.rel an bn (by rw [← ha]; exact hx.1.2.1) (by rw [← hb]; exact hx.1.2.2.2)
    unfold NetS.take RefS.take
    rw [h.pos, h1]
    simp only [← h.l, s.getD i hi]
    rw [ha, hb, Int.toNat_natCast, Int.toNat_natCast, hr]
    cases s.isParted an bn with
    | true => exact ⟨rfl, h⟩
    | false => exact ⟨rfl, h.cut i⟩
theorem Same.askParted (h : Same n s r) (a b : Int) : s.askParted a b = r.askParted a b := by
  unfold NetS.askParted RefS.askParted
  rw [h.none_, h.none_]
  cases ha : s.has a with
  | false => rfl
  | true =>
    cases hb : s.has b with
    | false => rfl
    | true =>
      obtain ⟨an, rfl⟩ := Int.eq_ofNat_of_zero_le (has_in ha).1
      obtain ⟨bn, rfl⟩ := Int.eq_ofNat_of_zero_le (has_in hb).1
      have hr := h.rel an bn (has_in ha).2 (has_in hb).2
      simp only [Bool.and_self, Bool.not_true, Bool.or_self, Bool.false_eq_true, if_true, if_false, Int.toNat_natCast, hr]
theorem Same.drop (h : Same n s r) (nd : Int) : (s.drop nd).2 = (r.drop nd).2 ∧ Same n (s.drop nd).1 (r.drop nd).1 := by
  have hp : (fun x : Letter => !(x.src == nd || x.dst == nd)) = (fun x : Letter => x.src != nd && x.dst != nd) := by
    funext x
    simp only [bne, Bool.not_or]
  unfold NetS.drop RefS.drop
  rw [h.none_, hp, ← h.l]
  cases ha : s.has nd with
  | false => exact ⟨rfl, h⟩
  | true =>
    refine ⟨rfl, ⟨h.nodes, h.next, h.nlo, rfl, ⟨h.wf.lo, h.wf.hi, h.wf.rows, h.wf.row⟩, fun x hx => h.ok x (List.mem_filter.1 hx).1, h.lt, h.rel, ?_, h.plen⟩⟩
    have := List.length_filter_le (fun x : Letter => x.src != nd && x.dst != nd) s.l
    have := h.len
    simp only [Bool.not_true, Bool.false_eq_true, if_false, if_true]
    omega
theorem getC_setC (cut : List (List Bool)) (a b c d : Nat) (v : Bool) (ha : a < cut.length) (hb : b < (cut.getD a []).length) : getC (setC cut a b v) c d = if a = c ∧ b = d then v else getC cut c d := by
  unfold getC setC
  by_cases hc : a = c
  · subst hc
    rw [getD_at (cut.set a _) a [] (by rw [List.length_set]; exact ha), List.getElem_set_self]
    by_cases hd : b = d
    · subst hd
      rw [getD_at _ b false (by rw [List.length_set]; exact hb), List.getElem_set_self, if_pos ⟨rfl, rfl⟩]
    · rw [if_neg (fun x => hd x.2), List.getD_eq_getElem?_getD, List.getElem?_set_ne hd, ← List.getD_eq_getElem?_getD]
  · rw [if_neg (fun x => hc x.1), List.getD_eq_getElem?_getD (l := cut.set a _), List.getElem?_set_ne hc, ← List.getD_eq_getElem?_getD]
/-- The table behind a set. -/
theorem withCut_wf {r : RefS} (h : r.wf) (a b : Nat) (v : Bool) (ha : (a : Int) < r.nodes) (hb : (b : Int) < r.nodes) : (r.withCut a b v).wf ∧ ∀ c d : Nat, getC (r.withCut a b v).cut c d = if (a = c ∧ b = d) ∨ (b = c ∧ a = d) then v else getC r.cut c d := by
  have hr := h.rows
  have ha1 : a < r.cut.length := by omega
  have hb1 : b < r.cut.length := by omega
  have hra : b < (r.cut.getD a []).length := by rw [getD_at _ _ _ ha1]; have := h.row _ (List.getElem_mem ha1); omega
  have hl1 : b < (setC r.cut a b v).length := by rw [setC_len]; exact hb1
  have hrow1 : ∀ x ∈ setC r.cut a b v, (x.length : Int) = r.nodes := by
    intro x hx
    obtain ⟨x', hx', e⟩ := setC_row r.cut a b v ha1 x hx
    rw [e]; exact h.row x' hx'
  have hrb : a < ((setC r.cut a b v).getD b []).length := by rw [getD_at _ _ _ hl1]; have := hrow1 _ (List.getElem_mem hl1); omega
  refine ⟨⟨h.lo, h.hi, by simp only [RefS.withCut, setC_len]; exact hr, ?_⟩, fun c d => ?_⟩
  · intro x hx
    obtain ⟨x', hx', e⟩ := setC_row (setC r.cut a b v) b a v hl1 x hx
    rw [e]; exact hrow1 x' hx'
  · simp only [RefS.withCut]
    rw [getC_setC _ _ _ _ _ _ hl1 hrb, getC_setC _ _ _ _ _ _ ha1 hra]
    by_cases h1 : b = c ∧ a = d
    · rw [if_pos h1, if_pos (.inr h1)]
    · by_cases h2 : a = c ∧ b = d
      · rw [if_neg h1, if_pos h2, if_pos (.inl h2)]
      · rw [if_neg h1, if_neg h2, if_neg (fun x => x.elim h2 h1)]
theorem isParted_cutPair (s : NetS) (a b c d : Int) : (s.cutPair a b).isParted c d = (s.isParted c d || (min c d == min a b && max c d == max a b)) := by
  show (s.parted ++ [mkPr (min a b) (max a b)]).any _ = _
  rw [List.any_append]
  congr 1
  exact Bool.or_false _
theorem Same.part (h : Same n s r) (a b : Int) : (s.part a b).2 = (r.set_ a b true).2 ∧ Same (n + 1) (s.part a b).1 (r.set_ a b true).1 := by
  unfold NetS.part RefS.set_
  rw [h.none_, h.none_]
  cases ha : s.has a with
  | false => exact ⟨rfl, h.more (by omega)⟩
  | true =>
    cases hb : s.has b with
    | false => exact ⟨rfl, h.more (by omega)⟩
    | true =>
      simp only [Bool.and_self, Bool.not_true, Bool.or_self, Bool.false_eq_true, if_true, if_false, Bool.true_and, beq_iff_eq]
      by_cases hab : a = b
      · rw [if_pos hab, if_pos hab]
        exact ⟨rfl, h.more (by omega)⟩
      · rw [if_neg hab, if_neg hab]
        obtain ⟨an, rfl⟩ := Int.eq_ofNat_of_zero_le (has_in ha).1
        obtain ⟨bn, rfl⟩ := Int.eq_ofNat_of_zero_le (has_in hb).1
        simp only [Int.toNat_natCast]
        have hn := h.nodes
        have han := (has_in ha).2
        have hbn := (has_in hb).2
        obtain ⟨w1, w2⟩ := withCut_wf h.wf an bn true (by omega) (by omega)
        cases hp : s.isParted an bn with
        | true =>
          rw [if_pos rfl]
          refine ⟨rfl, ⟨h.nodes, h.next, h.nlo, h.l, w1, h.ok, h.lt, fun c d hc hd => ?_, h.len, Nat.le_trans h.plen (Nat.le_succ n)⟩⟩
          rw [w2]
          split
          · rename_i hx
            rcases hx with ⟨rfl, rfl⟩ | ⟨rfl, rfl⟩
            · exact hp.symm
            · rw [← hp]; unfold NetS.isParted; rw [Int.min_comm, Int.max_comm]
          · exact h.rel c d hc hd
        | false =>
          rw [if_neg (by decide)]
          refine ⟨rfl, ⟨h.nodes, h.next, h.nlo, h.l, w1, h.ok, ?_, fun c d hc hd => ?_, h.len, by simp only [NetS.cutPair, List.length_append, List.length_singleton]; have := h.plen; omega⟩⟩
          · intro p hp
            simp only [NetS.cutPair] at hp
            rcases List.mem_append.1 hp with hp | hp
            · exact h.lt p hp
            · rw [List.mem_singleton.1 hp]
              show min (an : Int) (bn : Int) < max (an : Int) (bn : Int)
              omega
          · rw [w2, h.rel c d hc hd]
            rw [isParted_cutPair]
            split
            · rename_i hx
              rcases hx with ⟨rfl, rfl⟩ | ⟨rfl, rfl⟩
              · simp
              · rw [Int.min_comm (bn : Int), Int.max_comm (bn : Int)]; simp
            · rename_i hx
              have e : ((min (c : Int) (d : Int) == min (an : Int) (bn : Int)) && (max (c : Int) (d : Int) == max (an : Int) (bn : Int))) = false := by
                rw [Bool.and_eq_false_iff, beq_eq_false_iff_ne, beq_eq_false_iff_ne]
                omega
              rw [e, Bool.or_false]
theorem Same.join (h : Same n s r) (a b : Int) : (s.join a b).2 = (r.set_ a b false).2 ∧ Same n (s.join a b).1 (r.set_ a b false).1 := by
  unfold NetS.join RefS.set_
  rw [h.none_, h.none_]
  cases ha : s.has a with
  | false => exact ⟨rfl, h⟩
  | true =>
    cases hb : s.has b with
    | false => exact ⟨rfl, h⟩
    | true =>
      simp only [Bool.and_self, Bool.not_true, Bool.or_self, Bool.false_eq_true, if_true, if_false, Bool.false_and]
      obtain ⟨an, rfl⟩ := Int.eq_ofNat_of_zero_le (has_in ha).1
      obtain ⟨bn, rfl⟩ := Int.eq_ofNat_of_zero_le (has_in hb).1
      simp only [Int.toNat_natCast]
      have hn := h.nodes
      have han := (has_in ha).2
      have hbn := (has_in hb).2
      obtain ⟨w1, w2⟩ := withCut_wf h.wf an bn false (by omega) (by omega)
      refine ⟨trivial, ⟨h.nodes, h.next, h.nlo, h.l, w1, h.ok, fun p hp => h.lt p (List.mem_filter.1 hp).1, fun c d hc hd => ?_, h.len, Nat.le_trans (List.length_filter_le _ _) h.plen⟩⟩
      rw [w2, h.rel c d hc hd]
      unfold NetS.isParted
      simp only [List.any_filter]
      split
      · rename_i hx
        symm
        rw [List.any_eq_false]
        intro p hp
        rcases hx with ⟨rfl, rfl⟩ | ⟨rfl, rfl⟩
        · simp; omega
        · simp; omega
      · rename_i hx
        congr 1
        funext p
        cases h1 : (min (c : Int) (d : Int) == p.1 && max (c : Int) (d : Int) == p.2)
        · rw [Bool.and_false]
        · rw [Bool.and_true]
          simp only [Bool.and_eq_true, beq_iff_eq] at h1
          symm
          rw [Bool.not_eq_true', Bool.and_eq_false_iff, beq_eq_false_iff_ne, beq_eq_false_iff_ne]
          omega
end
end Go.Proofs.Ytaaeiljeanfinaa
