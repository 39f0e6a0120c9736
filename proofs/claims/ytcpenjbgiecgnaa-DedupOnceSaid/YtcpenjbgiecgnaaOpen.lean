-- written by a program of ours (a template of wip/pure, filled for this seat)
import Derived.ProofKit
import Derived.OpenShut
import Derived.Deep.Slices
import Derived.SizedLaws
import Derived.WideShapes
/-! Slices of plain elements, opened. -/
namespace Go.Proofs.Ytcpenjbgiecgnaa.Open
open Go Go.ChangeShapes Go.WideShapes Go.ChangeAt Go.RowKit Go.Deep
set_option linter.unusedVariables false
set_option linter.unusedSimpArgs false

/-- A cell's kind. -/
inductive FK where
  | int (k : IntKind)
  | bool
  | str
def FK.ok : FK → Value → Prop
  | .int k, v => ∃ x : Int, v = .int k x ∧ (Lit.int k x).wf = true
  | .bool, v => ∃ b : Bool, v = .bool b
  | .str, v => ∃ s : ByteArray, v = .string s ∧ s.size ≤ 140737488351232
def FK.of (k : FK) : TypeDesc → Bool
  | .int j => match k with | .int i => decide (i = j) | _ => false
  | .bool => match k with | .bool => true | _ => false
  | .string => match k with | .str => true | _ => false
  | _ => false
/-- An element's type: so many cells, of these kinds: one of them, or a struct of them. -/
def structOk (P : Program) (e : TypeId) (ks : List FK) : Bool :=
  match P.underlying e with
  | some (.struct fs) => decide (P.cellsOf e = ks.length) && decide (fs.size = ks.length) && (List.range fs.size).all fun i => match fs[i]?, ks[i]? with
    | some f, some k => decide (P.cellsOf f.type = 1) && decide (f.offset = i) && (match P.underlying f.type with | some d => k.of d | none => false)
    | _, _ => false
  | _ => false
def oneOk (P : Program) (e : TypeId) (ks : List FK) : Bool := decide (P.cellsOf e = 1) && (match ks with | [k] => (match P.underlying e with | some d => k.of d | none => false) | _ => false)
def rowOk (P : Program) (e : TypeId) (ks : List FK) : Bool := structOk P e ks || oneOk P e ks
/-- A row of values of these kinds. -/
def RowK (ks : List FK) (r : List Value) : Prop := r.length = ks.length ∧ ∀ (j : Nat) (k : FK) (v : Value), ks[j]? = some k → r[j]? = some v → k.ok v

section
variable {H : Type} {enc : TypeId × Value → H} {P : Program} {w : World} {base : Nat} {spare : Nat → Bool} {held : Bool}
theorem of_kind {t : TypeId} {k : FK} {d : TypeDesc} {fuel : Nat} {cs : List Value} {x : DataW H × List MemPlace} (hu : P.underlying t = some d) (hk : k.of d = true)
    (h : DataW.trod enc P w base spare held fuel t cs = some x) (hs : ∀ n ∈ x.1.weights P t, n ≤ 140737488351232) : ∃ v, cs = [v] ∧ k.ok v := by
  cases d with
  | int j =>
    cases k with
    | int i =>
      obtain rfl : i = j := of_decide_eq_true hk
      obtain ⟨n, rfl, _, hw⟩ := DataW.trod_int hu h
      exact ⟨_, rfl, n, rfl, hw⟩
    | _ => cases hk
  | bool =>
    cases k with
    | bool =>
      obtain ⟨b, rfl, _⟩ := DataW.trod_bool hu h
      exact ⟨_, rfl, b, rfl⟩
    | _ => cases hk
  | string =>
    cases k with
    | str =>
      obtain ⟨s, rfl, rfl, _⟩ := DataW.trod_string hu h
      refine ⟨_, rfl, s, rfl, ?_⟩
      have := hs s.data.toList.length (by simp [DataW.weights])
      rw [Array.length_toList] at this
      exact this
    | _ => cases hk
  | _ => cases hk
theorem weights_each_mem : ∀ {ts : List TypeId} {ds : List (DataW H)} {j : Nat} {t : TypeId} {d : DataW H}, ts[j]? = some t → ds[j]? = some d → ∀ n ∈ d.weights P t, n ∈ DataW.weightsEach P ts ds := DataW.weights_mem_each
theorem weights_all_mem {e : TypeId} : ∀ {ds : List (DataW H)} {d : DataW H}, d ∈ ds → ∀ n ∈ d.weights P e, n ∈ DataW.weightsAll P e ds
  | d0 :: ds, d, hd, n, hn => by
    simp only [DataW.weightsAll, List.mem_append]
    rcases List.mem_cons.1 hd with rfl | hd
    · exact .inl hn
    · exact .inr (weights_all_mem hd n hn)
theorem row_of {e : TypeId} {ks : List FK} {fuel : Nat} {cs : List Value} {x : DataW H × List MemPlace} (hr : rowOk P e ks = true)
    (h : DataW.trod enc P w base spare held fuel e cs = some x) (hs : ∀ n ∈ x.1.weights P e, n ≤ 140737488351232) : RowK ks cs := by
  unfold rowOk at hr
  rw [Bool.or_eq_true] at hr
  rcases hr with hr | hr
  · unfold structOk at hr
    cases hu : P.underlying e with
    | none => rw [hu] at hr; cases hr
    | some d =>
      rw [hu] at hr
      cases d with
      | struct fs =>
        simp only [Bool.and_eq_true, decide_eq_true_eq] at hr
        obtain ⟨⟨hc, hz⟩, hall⟩ := hr
        obtain ⟨xs, n, _, rfl, hl, hlen, hf⟩ := DataW.trod_struct hu h
        refine ⟨by rw [hl, hc], fun j k v hk hv => ?_⟩
        have hj : j < fs.size := by rw [hz]; exact (List.getElem?_eq_some_iff.1 hk).1
        have h1 := List.all_eq_true.1 hall j (List.mem_range.2 hj)
        rw [Array.getElem?_eq_getElem hj, hk] at h1
        simp only [Bool.and_eq_true, decide_eq_true_eq] at h1
        obtain ⟨⟨h1, h2⟩, h3⟩ := h1
        have h4 := hf j fs[j] (Array.getElem?_eq_getElem hj)
        have hxj : j < xs.length := by rw [hlen]; exact hj
        rw [h1, h2, List.getElem?_eq_getElem hxj] at h4
        have hjl : j < cs.length := by rw [hl, hc, ← hz]; exact hj
        have hcs : (cs.drop j).take 1 = [cs[j]] := by rw [List.drop_eq_getElem_cons hjl]; rfl
        rw [hcs] at h4
        cases hd : P.underlying fs[j].type with
        | none => rw [hd] at h3; cases h3
        | some d =>
          rw [hd] at h3
          have hw : ∀ m ∈ xs[j].1.weights P fs[j].type, m ≤ 140737488351232 := by
            intro m hm
            refine hs m ?_
            simp only [DataW.weights, hu]
            refine weights_each_mem (j := j) (t := fs[j].type) (d := xs[j].1) ?_ ?_ m hm
            · simp [hj]
            · simp [hxj]
          obtain ⟨v', hv', hok⟩ := of_kind hd h3 h4 hw
          rw [List.getElem?_eq_getElem hjl] at hv
          injection hv with hv
          injection hv' with hv'
          rw [← hv, hv']
          exact hok
      | _ => cases hr
  · unfold oneOk at hr
    simp only [Bool.and_eq_true, decide_eq_true_eq] at hr
    match ks, hr.2 with
    | [k], hk =>
      cases hu : P.underlying e with
      | none => rw [hu] at hk; cases hk
      | some d =>
        rw [hu] at hk
        obtain ⟨v, rfl, hok⟩ := of_kind hu hk h hs
        refine ⟨rfl, fun j k' v' hk' hv' => ?_⟩
        cases j with
        | zero =>
          simp at hk' hv'
          subst hk' hv'
          exact hok
        | succ j => simp at hk'
theorem rowOk_cells {e : TypeId} {ks : List FK} (hr : rowOk P e ks = true) : P.cellsOf e = ks.length := by
  unfold rowOk at hr
  rw [Bool.or_eq_true] at hr
  rcases hr with hr | hr
  · unfold structOk at hr
    split at hr
    · simp only [Bool.and_eq_true, decide_eq_true_eq] at hr
      exact hr.1.1
    · cases hr
  · unfold oneOk at hr
    simp only [Bool.and_eq_true, decide_eq_true_eq] at hr
    match ks, hr.2 with
    | [k], _ => exact hr.1
/-- What a slice of such elements holds, in memory: nil, or rows of cells. -/
def Rows (w : World) (ks : List FK) (A : Option Addr) (len cap : Nat) (rows : List (List Value)) : Prop :=
  rows.length = len ∧ len ≤ cap ∧ cap ≤ maxLen ∧ (∀ r ∈ rows, RowK ks r) ∧ (0 < len → ∃ a, A = some a ∧ ∀ i r, rows[i]? = some r → ∀ j v, r[j]? = some v → w.cell? (a.add (i * ks.length + j)) = some v)
theorem open_rows {t e : TypeId} {ks : List FK} {A : Option Addr} {len cap : Nat} {x : DataW H} {p : List MemPlace} (ht : P.underlying t = some (.slice e)) (hr : rowOk P e ks = true)
    (h : DataW.Trod enc P w base spare held t (.slice A len cap) x p) (hs : ∀ n ∈ x.weights P t, n ≤ 140737488351232) : ∃ rows, Rows w ks A len cap rows ∧ len * P.bytesOf e ≤ 140737488351232 := by
  obtain ⟨fuel, hf⟩ := h
  rcases open_slice ht hf with ⟨hcs, hx⟩ | ⟨a, len', cap', m, n, D, Pl, hcs, hb, hl, hm, hmm, hx, hcell⟩
  · simp only [Value.cells] at hcs
    obtain ⟨rfl, rfl, rfl⟩ : A = none ∧ len = 0 ∧ cap = 0 := by simpa using hcs
    exact ⟨[], ⟨rfl, Nat.le_refl _, Nat.zero_le _, (by intro r hr; cases hr), fun h => absurd h (by omega)⟩, by omega⟩
  · simp only [Value.cells] at hcs
    obtain ⟨rfl, rfl, rfl⟩ : A = some a ∧ len = len' ∧ cap = cap' := by simpa using hcs
    simp only [Prod.mk.injEq] at hx
    obtain ⟨rfl, rfl⟩ := hx
    have hml : len ≤ m := by rw [hmm]; split <;> omega
    have hweights := hs
    simp only [DataW.weights, ht] at hweights
    have hlen : len * P.bytesOf e ≤ 140737488351232 := by
      have := hweights _ (List.mem_cons_self ..)
      simp only [List.length_map, List.length_range] at this
      exact Nat.le_trans (Nat.mul_le_mul_right _ (Nat.le_add_right _ _)) this
    have hk := rowOk_cells hr
    have hex : ∀ i, i < len → ∃ cs : List Value, RowK ks cs ∧ ∀ j v, cs[j]? = some v → w.cell? (a.add (i * ks.length + j)) = some v := by
      intro i hi
      obtain ⟨cs, h1, h2⟩ := hcell i (by omega)
      have hw : ∀ q ∈ (D i).weights P e, q ≤ 140737488351232 := fun q hq => hweights q (by
        refine List.mem_cons_of_mem _ (List.mem_append_left _ (weights_all_mem (d := D i) ?_ q hq))
        exact List.mem_map.2 ⟨i, List.mem_range.2 hi, rfl⟩)
      refine ⟨cs, row_of hr h2 hw, fun j v hv => ?_⟩
      obtain ⟨_, hl2, h3⟩ := World.cells?_some h1
      have hj : j < P.cellsOf e := by rw [← hl2]; exact (List.getElem?_eq_some_iff.1 hv).1
      have := h3 j hj
      rw [add_add, hk] at this
      rw [this, hv]
    obtain ⟨f, hf⟩ := choose_lt hex
    refine ⟨(List.range len).map f, ⟨by simp, hl, hm, ?_, fun _ => ⟨a, rfl, ?_⟩⟩, hlen⟩
    · intro r hr
      obtain ⟨i, hi, rfl⟩ := List.mem_map.1 hr
      exact (hf i (List.mem_range.1 hi)).1
    · intro i r hr j v hv
      rw [List.getElem?_map] at hr
      obtain ⟨i', hi', rfl⟩ := Option.map_eq_some_iff.1 hr
      obtain ⟨hlt, hii⟩ := List.getElem?_eq_some_iff.1 hi'
      simp only [List.length_range] at hlt
      simp only [List.getElem_range] at hii
      subst hii
      exact (hf i hlt).2 j v hv
end
end Go.Proofs.Ytcpenjbgiecgnaa.Open
