import Derived.Test.YtaaeiljeanfinaaNetN
import Derived.Test.YtaaeiljeanfinaaOMap
import Derived.Laws.StructEq
namespace Go.Proofs.Ytaaeiljeanfinaa
open Go Go.RowKit
set_option linter.unusedVariables false
set_option linter.unusedSimpArgs false

theorem gate_ {P : Program} {ops : Array Oper} {rest : List Oper} {o : Oper} {a : Act} {Q : Exit → Act → World → Prop} {W : World} (hw : Region.wanted o (yielded ops a.tmps) = true) (h : wpList P ops Q ({ o with guard := none } :: rest) a W) : wpList P ops Q (o :: rest) a W := by
  have h1 : Region.wanted { o with guard := none } (yielded ops a.tmps) = true := rfl
  unfold wpList at h ⊢
  rw [if_pos h1] at h
  rw [if_pos hw]
  exact h

/-! Truth: the plain part. -/
structure Truth (k : Nat) (s : NetS) (sent : Int → Option Letter) (taken : Int → Option Bool) : Prop where
  nodes : s.nodes = 4
  nlo : 0 ≤ s.next
  nhi : s.next ≤ k
  ids : ∀ x ∈ s.l, 0 ≤ x.id ∧ x.id < s.next
  nodup : (s.l.map (·.id)).Nodup
  on : ∀ x ∈ s.l, sent x.id = some x ∧ taken x.id ≠ some true
  sent : ∀ j x, sent j = some x → j < s.next
  tk : ∀ j v, taken j = some v → j < s.next
  ok : ∀ x ∈ s.l, (0 ≤ x.src ∧ x.src < 4 ∧ 0 ≤ x.dst ∧ x.dst < 4) ∧ x.body.size ≤ 140737488355328
  len : s.l.length ≤ 4096
  plen : s.parted.length ≤ k
section
variable {k : Nat} {s : NetS} {sent : Int → Option Letter} {taken : Int → Option Bool}
theorem Truth.more (h : Truth k s sent taken) : Truth (k + 1) s sent taken := { h with nhi := by have := h.nhi; omega, plen := by have := h.plen; omega }
/-- A new letter. -/
theorem Truth.add (h : Truth k s sent taken) (a b : Int) (body : ByteArray) (ha : 0 ≤ a ∧ a < 4) (hb : 0 ≤ b ∧ b < 4) (hs : body.size ≤ 140737488355328) (hf : ¬ s.full body) : sent s.next = none ∧ Truth (k + 1) (s.add a b body) (upd sent s.next ⟨s.next, a, b, body⟩) taken := by
  have hn : sent s.next = none := by
    cases hq : sent s.next with
    | none => rfl
    | some x => have := h.sent _ x hq; omega
  have ht : taken s.next ≠ some true := fun hq => by have := h.tk _ _ hq; omega
  ·
    refine ⟨hn, ⟨h.nodes, by simp only [NetS.add]; have := h.nlo; omega, by simp only [NetS.add]; have := h.nhi; omega, ?_, ?_, ?_, ?_, fun j v hj => by simp only [NetS.add]; have := h.tk j v hj; omega, ?_, ?_, by have := h.plen; simp only [NetS.add]; omega⟩⟩
    · intro x hx
      simp only [NetS.add] at hx ⊢
      rcases List.mem_append.1 hx with hx | hx
      · have := h.ids x hx; omega
      · rw [List.mem_singleton.1 hx]; have := h.nlo; simp only []; omega
    · simp only [NetS.add, List.map_append, List.map_cons, List.map_nil]
      rw [List.nodup_append]
      refine ⟨h.nodup, by simp, fun i hi j hj => ?_⟩
      obtain ⟨x, hx, rfl⟩ := List.mem_map.1 hi
      have := (h.ids x hx).2
      simp at hj
      omega
    · intro x hx
      simp only [NetS.add] at hx
      unfold upd
      rcases List.mem_append.1 hx with hx | hx
      · have := (h.ids x hx).2
        rw [if_neg (by omega)]
        exact h.on x hx
      · rw [List.mem_singleton.1 hx, if_pos rfl]
        exact ⟨rfl, ht⟩
    · intro j x hj
      unfold upd at hj
      simp only [NetS.add]
      by_cases hjn : j = s.next
      · omega
      · rw [if_neg hjn] at hj
        have := h.sent j x hj
        omega
    · intro x hx
      simp only [NetS.add] at hx
      rcases List.mem_append.1 hx with hx | hx
      · exact h.ok x hx
      · rw [List.mem_singleton.1 hx]; exact ⟨⟨ha.1, ha.2, hb.1, hb.2⟩, hs⟩
    · simp only [NetS.add, List.length_append, List.length_singleton]
      unfold NetS.full at hf
      omega
/-- A letter off its way. -/
theorem Truth.cut (h : Truth k s sent taken) (i : Nat) (hi : i < s.l.length) : Truth (k + 1) (s.cut i) sent taken ∧ Truth (k + 1) (s.cut i) sent (upd taken s.l[i].id true) := by
  have hm : ∀ x ∈ s.l.eraseIdx i, x ∈ s.l := fun x hx => List.mem_of_mem_eraseIdx hx
  have hne : ∀ x ∈ s.l.eraseIdx i, x.id ≠ s.l[i].id := by
    intro x hx e
    obtain ⟨j, hj, hji, rfl⟩ := List.mem_eraseIdx_iff_getElem.1 hx
    have := (List.getElem_inj (i := j) (j := i) (h₀ := by simpa using hj) (h₁ := by simpa using hi) h.nodup).1 (by rw [List.getElem_map, List.getElem_map]; exact e)
    exact hji this
  have hl := List.length_eraseIdx_le s.l i
  have hnd : ((s.l.eraseIdx i).map (·.id)).Nodup := by
    have := h.nodup.sublist ((List.eraseIdx_sublist s.l i).map (·.id))
    exact this
  refine ⟨⟨h.nodes, h.nlo, by have := h.nhi; simp only [NetS.cut]; omega, fun x hx => h.ids x (hm x hx), hnd, fun x hx => h.on x (hm x hx), h.sent, h.tk, fun x hx => h.ok x (hm x hx), by have := h.len; simp only [NetS.cut]; omega, by have := h.plen; simp only [NetS.cut]; omega⟩,
    ⟨h.nodes, h.nlo, by have := h.nhi; simp only [NetS.cut]; omega, fun x hx => h.ids x (hm x hx), hnd, fun x hx => ⟨(h.on x (hm x hx)).1, ?_⟩, h.sent, fun j v hj => ?_, fun x hx => h.ok x (hm x hx), by have := h.len; simp only [NetS.cut]; omega, by have := h.plen; simp only [NetS.cut]; omega⟩⟩
  · unfold upd
    rw [if_neg (hne x hx)]
    exact (h.on x (hm x hx)).2
  · unfold upd at hj
    by_cases hji : j = s.l[i].id
    · rw [hji]; exact (h.ids _ (List.getElem_mem hi)).2
    · rw [if_neg hji] at hj; exact h.tk j v hj
theorem Truth.has (h : Truth k s sent taken) {x : Int} (hx : 0 ≤ x ∧ x < 4) : s.has x = true := NetS.has_of (by rw [h.nodes]; exact hx)
theorem Truth.sendCases (h : Truth k s sent taken) (a b : Int) (body : ByteArray) (ha : 0 ≤ a ∧ a < 4) (hb : 0 ≤ b ∧ b < 4) (hs : body.size ≤ 140737488355328) :
    s.send a b body = (s, 0, 2) ∨ (s.send a b body = (s.add a b body, s.next, 0) ∧ sent s.next = none ∧ Truth (k + 1) (s.add a b body) (upd sent s.next ⟨s.next, a, b, body⟩) taken) := by
  unfold NetS.send NetS.put
  rw [h.has ha, h.has hb, if_pos (show (true && true) = true from rfl)]
  by_cases hf : s.full body
  · rw [if_pos hf]; exact .inl rfl
  · rw [if_neg hf]; exact .inr ⟨rfl, h.add a b body ha hb hs hf⟩
theorem Truth.takeCases (h : Truth k s sent taken) (id : Int) : s.take id = (s, Letter.zero, 5) ∨ s.take id = (s, Letter.zero, 4) ∨
    ∃ (s' : NetS) (x : Letter), s.take id = (s', x, 0) ∧ 0 ≤ id ∧ sent id = some x ∧ taken id ≠ some true ∧ s'.askParted x.src x.dst = (false, 0) ∧ Truth (k + 1) s' sent (upd taken id true) ∧ s'.parted.length ≤ 1000000 + k := by
  rcases s.pos_cases id with ⟨h1, _⟩ | ⟨i, hi, h1, h2⟩
  · left; unfold NetS.take; rw [h1]
  · right
    have hid : s.l[i].id = id := by
      have := idx_at (fun x : Letter => x.id == id) s.l i hi h2
      simpa using this
    have e : s.take id = if s.isParted s.l[i].src s.l[i].dst then (s, Letter.zero, 4) else (s.cut i, s.l[i], 0) := by unfold NetS.take; rw [h1]; simp only [s.getD i hi]
    rw [e]
    have hm := List.getElem_mem hi
    cases hp : s.isParted s.l[i].src s.l[i].dst with
    | true => exact .inl rfl
    | false =>
      refine .inr ⟨s.cut i, s.l[i], rfl, by rw [← hid]; exact (h.ids _ hm).1, by rw [← hid]; exact (h.on _ hm).1, by rw [← hid]; exact (h.on _ hm).2, ?_, by rw [← hid]; exact (h.cut i hi).2, by have := h.plen; simp only [NetS.cut]; omega⟩
      have hv := (h.ok _ hm).1
      unfold NetS.askParted
      have e1 : (s.cut i).has s.l[i].src = true := NetS.has_of (by show _ ∧ _ < s.nodes; rw [h.nodes]; exact ⟨hv.1, hv.2.1⟩)
      have e2 : (s.cut i).has s.l[i].dst = true := NetS.has_of (by show _ ∧ _ < s.nodes; rw [h.nodes]; exact ⟨hv.2.2.1, hv.2.2.2⟩)
      rw [e1, e2, if_pos (show (true && true) = true from rfl)]
      show (s.isParted s.l[i].src s.l[i].dst, (0 : Int)) = (false, 0)
      rw [hp]
theorem Truth.loseCases (h : Truth k s sent taken) (id : Int) : Truth (k + 1) (s.lose id).1 sent taken := by
  rcases s.pos_cases id with ⟨h1, _⟩ | ⟨i, hi, h1, h2⟩
  · unfold NetS.lose; rw [h1]; exact h.more
  · unfold NetS.lose; rw [h1]; exact (h.cut i hi).1
theorem Truth.copyCases (h : Truth k s sent taken) (id : Int) : s.copy id = (s, 0, 5) ∨ s.copy id = (s, 0, 2) ∨
    ∃ x : Letter, 0 ≤ id ∧ sent id = some x ∧ s.copy id = (s.add x.src x.dst x.body, s.next, 0) ∧ sent s.next = none ∧ Truth (k + 1) (s.add x.src x.dst x.body) (upd sent s.next ⟨s.next, x.src, x.dst, x.body⟩) taken := by
  rcases s.pos_cases id with ⟨h1, _⟩ | ⟨i, hi, h1, h2⟩
  · left; unfold NetS.copy; rw [h1]
  · right
    have hid : s.l[i].id = id := by
      have := idx_at (fun x : Letter => x.id == id) s.l i hi h2
      simpa using this
    have hm := List.getElem_mem hi
    have hv := h.ok _ hm
    have e : s.copy id = s.put s.l[i].src s.l[i].dst s.l[i].body := by unfold NetS.copy; rw [h1]; simp only [s.getD i hi]
    rw [e]
    unfold NetS.put
    by_cases hf : s.full s.l[i].body
    · rw [if_pos hf]; exact .inl rfl
    · rw [if_neg hf]
      exact .inr ⟨s.l[i], by rw [← hid]; exact (h.ids _ hm).1, by rw [← hid]; exact (h.on _ hm).1, rfl, h.add _ _ _ ⟨hv.1.1, hv.1.2.1⟩ ⟨hv.1.2.2.1, hv.1.2.2.2⟩ hv.2 hf⟩
theorem Truth.partCases (h : Truth k s sent taken) (a b : Int) : Truth (k + 1) (s.part a b).1 sent taken := by
  unfold NetS.part
  split
  · split
    · exact h.more
    · split
      · exact h.more
      · exact { h with nhi := by have := h.nhi; simp only [NetS.cutPair]; omega, plen := by simp only [NetS.cutPair, List.length_append, List.length_singleton]; have := h.plen; omega }
  · exact h.more
theorem Truth.joinCases (h : Truth k s sent taken) (a b : Int) : Truth (k + 1) (s.join a b).1 sent taken := by
  unfold NetS.join
  split
  · exact { h with nhi := by have := h.nhi; simp only []; omega, plen := by have := h.plen; have := List.length_filter_le (fun x : Pr => !(x.1 == min a b && x.2 == max a b)) s.parted; simp only []; omega }
  · exact h.more
end
/-- A letter is itself. -/
theorem neq_letter (x : Letter) (w : World) : (binOp .neq 38 (.agg #[.int .i64 x.id, .int .i64 x.src, .int .i64 x.dst, .string x.body]) (.agg #[.int .i64 x.id, .int .i64 x.src, .int .i64 x.dst, .string x.body])).run Try.prog w = .ok (.bool false) w := by
  have u3 := Try.underlying3
  have a3 := Try.isAgg3
  have z3 := Try.sizeOf3
  have u9 := Try.underlying9
  have a9 := Try.isAgg9
  have z9 := Try.sizeOf9
  have hS : Try.prog.underlying 38 = some (.struct (Try.prog.fieldsOf 38)) := by kernel_rfl
  have hp : Try.prog.stoodInHeld 38 = false := by kernel_rfl
  rw [run_neq_struct, show (10000 : Nat) = 9999 + 1 from rfl, run_equalIn_agg w 9999 38 _ _ hS hp]
  simp only [Program.fieldsOf, Try.underlying38]
  go_simp
end Go.Proofs.Ytaaeiljeanfinaa
