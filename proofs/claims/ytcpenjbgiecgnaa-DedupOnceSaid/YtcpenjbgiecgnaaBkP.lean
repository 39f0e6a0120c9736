import Derived.Test.YtcpenjbgiecgnaaBkO
namespace Go.Proofs.Ytcpenjbgiecgnaa
open Go Go.RowKit
open Go.Maps (Keyed IsMap)
open Go.Proofs.YtcpenjbgiecgnaaW.PrintWords Go.Proofs.YtcpenjbgiecgnaaW.PrintLast Go.Proofs.YtcpenjbgiecgnaaW.PrintMore
open Go.Proofs.Ytcpenjbgiecgnaa.PAll (S62 fN fT)
open Go.Proofs.Ytcpenjbgiecgnaa.Bytes (I)
set_option linter.unusedVariables false
set_option linter.unusedSimpArgs false
set_option maxRecDepth 100000

/-! clear, and read. -/
theorem IMap.clear_run {w : World} {kt b n : Nat} {m : Int → Option Value} (h : IMap w kt b n id m) (t e : TypeId) (ht : Try.prog.underlying t = some (.map kt e)) (ty : TypeId) :
    ∃ w', (Builtin.clear_ #[t] ty #[.map (some b)]).run Try.prog w = .ok (.tuple #[]) w' ∧ IMap w' kt b 0 id (fun _ => (none : Option Value)) ∧ Kept w w' (fun j => j = b) := by
  obtain ⟨D, ⟨es, clock, hb, hF, hs, hD⟩, hi, hm⟩ := h
  have hlt := (Array.getElem?_eq_some_iff.1 hb).1
  have hb' : ({ w with heap := w.heap.setIfInBounds b (Obj.map #[] clock) } : World).heap[b]? = some (.map #[] clock) := by simp [hlt]
  refine ⟨{ w with heap := w.heap.setIfInBounds b (Obj.map #[] clock) }, by simp [Builtin.clear_, run_underlying ht, MapKept.run_getObj_map hb, MapKept.run_setObj_map _ hb, Result.andThen], ⟨.map [], ⟨#[], clock, hb', ⟨by simp, MapKept.stamped_empty clock, by simp⟩, Nat.le_refl _, rfl⟩, ⟨_, rfl⟩, fun k _ => ⟨rfl, fun x h => by cases h⟩⟩, ⟨rfl, rfl, rfl, by simp, fun k hk hn => by simp [Array.getElem?_setIfInBounds, Ne.symm hn]⟩⟩
section
variable {w : World} {kt b n : Nat} {m : Int → Option Value} {ops : Array Oper} {rest : List Oper} {o : Oper} {a : Act} {Q : Exit → Act → World → Prop}
theorem IMap.clear_list (hgd : o.guard = none) (hdst : o.dst = none) (x : Operand) (t e : TypeId) (ho : o.op = .call { callee := .builtin .clear, args := #[x], argTypes := #[t] }) (ht : Try.prog.underlying t = some (.map kt e)) (hx : a.eval x = .map (some b)) (h : IMap w kt b n id m)
    (hK : ∀ w', IMap w' kt b 0 id (fun _ => (none : Option Value)) → Kept w w' (fun j => j = b) → wpList Try.prog ops Q rest a w') : wpList Try.prog ops Q (o :: rest) a w := by
  refine wpList_plain hgd fun K hK' => ?_
  obtain ⟨w', hr, h2, h3⟩ := h.clear_run t e ht o.type
  unfold Oper.wp execOp
  simp only [ho, resolve, invoke, builtin, Sem.run_bind, Sem.run_pure, Result.andThen_ok, List.map_toArray, List.map_cons, List.map_nil, hx, hr]
  show K (a.put o.dst _) w'
  rw [hdst]
  exact hK' _ _ (hK w' h2 h3)
end
theorem BkI.cleared {w w' : World} {F : Nat → Prop} {g d nb mb : Nat} {m : Int → Option Value} {L : Int → List RX} (h : BkI w F g d nb mb m L) (him : IMap w' 3 mb 0 id (fun _ => (none : Option Value))) (hk : Kept w w' (fun j => j = mb)) : BkI w' F g d 0 mb (fun _ => none) (fun _ => []) := by
  have hne : g ≠ mb := by
    rintro rfl
    exact h.im.notBlk h.blk
  exact ⟨h.blk.kept hk hne, him, fun c => QRow.nil_ .., fun c x h => (by simp at h), h.fg, h.fm, fun c k e => (by simp [qv, Value.ownBlock] at e), fun c x h => (by simp at h), fun c c' k e => (by simp [qv, Value.ownBlock] at e), fun k hF => Nat.lt_of_lt_of_le (h.lt k hF) hk.size, fun c => by simp⟩
/-- What has been read: whole clients, and so many of one. -/
def partS (S : Int → List Int) (ds : List Int) : Int → List Int := fun x => if x ∈ ds then S x else []
def partJ (S : Int → List Int) (ds : List Int) (c : Int) (j : Nat) : Int → List Int := fun x => if x = c then (S c).take j else partS S ds x
section plain
variable {S : Int → List Int} {ds : List Int} {c : Int} {d j : Nat}
theorem partJ_zero (hc : c ∉ ds) : partJ S ds c 0 = partS S ds := by
  funext x
  unfold partJ partS
  by_cases hx : x = c
  · subst hx
    rw [if_pos rfl, if_neg hc, List.take_zero]
  · rw [if_neg hx]
theorem partJ_all (hj : (S c).length ≤ j) : partJ S ds c j = partS S (ds ++ [c]) := by
  funext x
  unfold partJ partS
  by_cases hx : x = c
  · subst hx
    rw [if_pos rfl, if_pos (by simp), List.take_of_length_le hj]
  · rw [if_neg hx]
    by_cases hm : x ∈ ds
    · rw [if_pos hm, if_pos (List.mem_append_left _ hm)]
    · rw [if_neg hm, if_neg (by simp [hm, hx])]
theorem partJ_at : partJ S ds c j c = (S c).take j := by unfold partJ; rw [if_pos rfl]
theorem take_below (hr : (S c).Pairwise (· < ·)) (hj : j < (S c).length) : lastN ((S c).take j) < (S c)[j] ∨ (S c).take j = [] := by
  rcases List.eq_nil_or_concat ((S c).take j) with h | ⟨a, b, h⟩
  · exact .inr h
  · left
    rw [h]
    unfold lastN
    rw [List.concat_eq_append, List.getLast?_append, List.getLast?_singleton, Option.some_or, Option.getD_some]
    have hm : b ∈ (S c).take j := by rw [h]; simp
    obtain ⟨i, hi, he⟩ := List.getElem_of_mem hm
    rw [List.getElem_take] at he
    rw [← he]
    rw [List.length_take] at hi
    exact List.pairwise_iff_getElem.1 hr _ _ (by omega) hj (by omega)
theorem part_note (hs : Small S) (hr : (S c).Pairwise (· < ·)) (hd : (S c).length ≤ d) (hj : j < (S c).length) :
    noteE (partJ S ds c j c) (S c)[j] = 0 ∧ noteS d (partJ S ds c j) c (S c)[j] = partJ S ds c (j + 1) := by
  have hpos := (hs.n c _ (List.getElem_mem hj)).1
  have hlt : lastN ((S c).take j) < (S c)[j] := by
    rcases take_below hr hj with h | h
    · exact h
    · rw [h]
      show (0 : Int) < _
      omega
  have hni : (S c)[j] ∉ (S c).take j := fun hm => by
    have := rise_last (hr.sublist (List.take_sublist ..)) hm
    omega
  rw [partJ_at]
  refine ⟨?_, ?_⟩
  · unfold noteE askE
    rw [if_neg hni, if_neg (by omega)]
  · unfold noteS
    rw [partJ_at, if_neg (fun e => e.elim hni (by omega))]
    funext x
    by_cases hx : x = c
    · subst hx
      rw [if_pos rfl, partJ_at, ← List.take_succ_eq_append_getElem hj]
      unfold cutN
      rw [List.length_take, show min (j + 1) (S x).length - d = 0 by omega, List.drop_zero]
    · rw [if_neg hx]
      unfold partJ
      rw [if_neg hx, if_neg hx]
end plain
/-- A stretch of fields that is read: its shape, and its cells if it has any. -/
def VRow (w : World) (v : Value) (fl : List S62) : Prop := (∃ A c, v = .slice A fl.length c ∧ fl.length ≤ c ∧ c ≤ maxLen) ∧ (fl ≠ [] → QRow w 62 3 FC v fl)
theorem VRow.of {w : World} {v : Value} {fl : List S62} (h : QRow w 62 3 FC v fl) : VRow w v fl := ⟨h.shape, fun _ => h⟩
theorem VRow.kept {w w' : World} {S : Nat → Prop} {v : Value} {fl : List S62} (h : VRow w v fl) (hk : Kept w w' S) (hS : ∀ k, v.ownBlock = some k → ¬ S k) : VRow w' v fl := ⟨h.1, fun hn => (h.2 hn).kept hk hS⟩
theorem VRow.suffix {w : World} {gq o n cc : Nat} {l : List S62} (h : QRow w 62 3 FC (.slice (some ⟨gq, o * 3, none⟩) n cc) l) (hl : l.length = n) (hc : n ≤ cc) (hm : cc ≤ maxLen) (i : Nat) (hi : i ≤ n) (hi0 : 0 < i) :
    VRow w (.slice (if cc = i then some ⟨gq, o * 3, none⟩ else some ⟨gq, o * 3 + i * 3, none⟩) (n - i) (cc - i)) (l.drop i) := by
  refine ⟨⟨_, cc - i, by rw [List.length_drop, hl], by rw [List.length_drop, hl]; omega, by omega⟩, fun hn => ?_⟩
  have hlt : i < l.length := by
    rcases Nat.lt_or_ge i l.length with h | h
    · exact h
    · exact absurd (List.drop_eq_nil_of_le h) hn
  have := h.suffix (fun _ => rfl) i (.inl hlt)
  rw [if_neg (by omega)]
  unfold cutA at this
  rw [if_neg (by omega)] at this
  have e : (some ((⟨gq, o * 3, none⟩ : Addr).add (i * 3)) : Option Addr) = some ⟨gq, o * 3 + i * 3, none⟩ := by
    unfold Addr.add
    rw [if_neg (by omega)]
  rw [← e]
  exact this
/-- What read's loops carry. -/
structure RD (w0 w : World) (F0 F : Nat → Prop) (g d nb : Nat) (S' : Int → List Int) (v : Value) (fl : List S62) : Prop where
  bk : BkAt w F g d nb S'
  row : VRow w v fl
  out : ∀ k, v.ownBlock = some k → ¬ F0 k ∧ k < w0.heap.size
  kept : Kept w0 w F0
  grow : ∀ k, F k → F0 k ∨ w0.heap.size ≤ k
section
variable {w0 w w1 : World} {F0 F : Nat → Prop} {g d nb : Nat} {S' : Int → List Int} {v : Value} {fl : List S62}
theorem RD.below (h : RD w0 w F0 F g d nb S' v fl) (hb : Below w.heap.size w w1) : RD w0 w1 F0 F g d nb S' v fl :=
  ⟨h.bk.below hb, h.row.kept (Kept.of_below hb fun _ => False) (fun _ _ h => h), h.out, h.kept.trans (Kept.of_below (hb.mono (Nat.le_refl _)) _), h.grow⟩
theorem RD.alloc (h : RD w0 w F0 F g d nb S' v fl) (o : Obj) : RD w0 (w.alloc o) F0 F g d nb S' v fl := h.below ((Below.refl _ _).alloc (Nat.le_refl _) o)
theorem RD.drew (h : RD w0 w F0 F g d nb S' v fl) : RD w0 w.drew F0 F g d nb S' v fl := h.below (Kept.below ((Kept.refl w fun _ => False).drew) (Nat.le_refl _) (fun _ _ h => h))
theorem RD.drewN (h : RD w0 w F0 F g d nb S' v fl) (q : Nat) : RD w0 (w.drewN q) F0 F g d nb S' v fl := h.below (Kept.below ((Kept.refl w fun _ => False).drewN q) (Nat.le_refl _) (fun _ _ h => h))
theorem RD.note (h : RD w0 w F0 F g d nb S' v fl) {F1 : Nat → Prop} {nb1 : Nat} {S1 : Int → List Int} (hb : BkAt w1 F1 g d nb1 S1) (hk : Kept w w1 F) (hf : ∀ k, F1 k → F k ∨ w.heap.size ≤ k) : RD w0 w1 F0 F1 g d nb1 S1 v fl := by
  have hs := h.kept.size
  refine ⟨hb, h.row.kept hk (fun k e hF => ?_), h.out, h.kept.then_ hk h.grow, fun k e => ?_⟩
  · have h1 := h.out k e
    rcases h.grow k hF with h2 | h2
    · exact h1.1 h2
    · omega
  · rcases hf k e with h1 | h1
    · exact h.grow k h1
    · exact .inr (by omega)
/-- One reply noted while a book is read. -/
theorem RD.noted {S : Int → List Int} {ds : List Int} {c : Int} {j : Nat} {rv : Value} (h : RD w0 w F0 F g d nb (partJ S ds c j) v fl) (hj : j < (S c).length) (hr : One w rv (S c)[j]) (hs : Small S) (hri : (S c).Pairwise (· < ·)) (hd : (S c).length ≤ d) (hd1 : 1 ≤ d) (hd64 : d ≤ 64) (hc : 0 ≤ c) (hc2 : c ≤ 1000) (hnb : nb < 1000000) :
    Calls Try.prog 10 #[.pointer (some ⟨g, 0, none⟩), .agg #[.int .i64 c, .int .i64 (S c)[j], rv, .int .i64 0, .int .i64 0]] w fun e w' => e = .returned (.int .i64 0) ∧ ∃ F1 nb1, RD w0 w' F0 F1 g d nb1 (partJ S ds c (j + 1)) v fl ∧ nb1 ≤ nb + 1 := by
  have hb := hs.n c _ (List.getElem_mem hj)
  have hl := hs.len c
  obtain ⟨n1, n2⟩ := part_note (ds := ds) hs hri hd hj
  have := bk_note F g d nb (partJ S ds c j) c (S c)[j] rv w h.bk hr hc hc2 hb.1 hb.2 hd1 hd64 (by rw [partJ_at, List.length_take]; omega) hnb
  rw [n1, n2] at this
  exact this.mono fun e w' ⟨he, F1, nb1, h1, h2, h3, h4⟩ => ⟨he, F1, nb1, h.note h1 h2 h3, h4⟩
end
end Go.Proofs.Ytcpenjbgiecgnaa
