-- written by a program of ours (templates of wip/pure, filled for this seat; one behind the other)
import Derived.ProofKit
import Derived.OpenShut
import Derived.Deep.Slices
import Derived.SizedLaws
import Derived.WideShapes
import Derived.Test.YtafmdlegelbfpaaQA
import Derived.Test.YtafmdlegelbfpaaPAllx0
import Derived.Test.YtafmdlegelbfpaaPAllx1046
import Derived.Test.YtafmdlegelbfpaaPAllx1093
import Derived.Test.YtafmdlegelbfpaaHField
import Derived.Test.YtafmdlegelbfpaaPAllx1092
import Derived.Laws.BitsAllLaws
import Derived.Test.YtafmdlegelbfpaaPAllx1062
/-! Slices of plain elements, opened. -/
namespace Go.Proofs.Ytafmdlegelbfpaa.Open
open Go Go.ChangeShapes Go.WideShapes Go.ChangeAt Go.RowKit Go.Deep
set_option linter.unusedVariables false
set_option linter.unusedSimpArgs false

/-- A cell's kind. -/
inductive FK where
  | int (k : IntKind)
  | bool
  | str
def FK.ok : FK → Value → Prop
  | .int k, v => ∃ x : Int, v = .int k x ∧ (Lit.int k x).wf = true
  | .bool, v => ∃ b : Bool, v = .bool b
  | .str, v => ∃ s : ByteArray, v = .string s ∧ s.size ≤ 140737488351232
def FK.of (k : FK) : TypeDesc → Bool
  | .int j => match k with | .int i => decide (i = j) | _ => false
  | .bool => match k with | .bool => true | _ => false
  | .string => match k with | .str => true | _ => false
  | _ => false
/-- An element's type: so many cells, of these kinds: one of them, or a struct of them. -/
def structOk (P : Program) (e : TypeId) (ks : List FK) : Bool :=
  match P.underlying e with
  | some (.struct fs) => decide (P.cellsOf e = ks.length) && decide (fs.size = ks.length) && (List.range fs.size).all fun i => match fs[i]?, ks[i]? with
    | some f, some k => decide (P.cellsOf f.type = 1) && decide (f.offset = i) && (match P.underlying f.type with | some d => k.of d | none => false)
    | _, _ => false
  | _ => false
def oneOk (P : Program) (e : TypeId) (ks : List FK) : Bool := decide (P.cellsOf e = 1) && (match ks with | [k] => (match P.underlying e with | some d => k.of d | none => false) | _ => false)
def rowOk (P : Program) (e : TypeId) (ks : List FK) : Bool := structOk P e ks || oneOk P e ks
/-- A row of values of these kinds. -/
def RowK (ks : List FK) (r : List Value) : Prop := r.length = ks.length ∧ ∀ (j : Nat) (k : FK) (v : Value), ks[j]? = some k → r[j]? = some v → k.ok v

section
variable {H : Type} {enc : TypeId × Value → H} {P : Program} {w : World} {base : Nat} {spare : Nat → Bool} {held : Bool}
theorem of_kind {t : TypeId} {k : FK} {d : TypeDesc} {fuel : Nat} {cs : List Value} {x : DataW H × List MemPlace} (hu : P.underlying t = some d) (hk : k.of d = true)
    (h : DataW.trod enc P w base spare held fuel t cs = some x) (hs : ∀ n ∈ x.1.weights P t, n ≤ 140737488351232) : ∃ v, cs = [v] ∧ k.ok v := by
  cases d with
  | int j =>
    cases k with
    | int i =>
      obtain rfl : i = j := of_decide_eq_true hk
      obtain ⟨n, rfl, _, hw⟩ := DataW.trod_int hu h
      exact ⟨_, rfl, n, rfl, hw⟩
    | _ => cases hk
  | bool =>
    cases k with
    | bool =>
      obtain ⟨b, rfl, _⟩ := DataW.trod_bool hu h
      exact ⟨_, rfl, b, rfl⟩
    | _ => cases hk
  | string =>
    cases k with
    | str =>
      obtain ⟨s, rfl, rfl, _⟩ := DataW.trod_string hu h
      refine ⟨_, rfl, s, rfl, ?_⟩
      have := hs s.data.toList.length (by simp [DataW.weights])
      rw [Array.length_toList] at this
      exact this
    | _ => cases hk
  | _ => cases hk
theorem weights_each_mem : ∀ {ts : List TypeId} {ds : List (DataW H)} {j : Nat} {t : TypeId} {d : DataW H}, ts[j]? = some t → ds[j]? = some d → ∀ n ∈ d.weights P t, n ∈ DataW.weightsEach P ts ds := DataW.weights_mem_each
theorem weights_all_mem {e : TypeId} : ∀ {ds : List (DataW H)} {d : DataW H}, d ∈ ds → ∀ n ∈ d.weights P e, n ∈ DataW.weightsAll P e ds
  | d0 :: ds, d, hd, n, hn => by
    simp only [DataW.weightsAll, List.mem_append]
    rcases List.mem_cons.1 hd with rfl | hd
    · exact .inl hn
    · exact .inr (weights_all_mem hd n hn)
theorem row_of {e : TypeId} {ks : List FK} {fuel : Nat} {cs : List Value} {x : DataW H × List MemPlace} (hr : rowOk P e ks = true)
    (h : DataW.trod enc P w base spare held fuel e cs = some x) (hs : ∀ n ∈ x.1.weights P e, n ≤ 140737488351232) : RowK ks cs := by
  unfold rowOk at hr
  rw [Bool.or_eq_true] at hr
  rcases hr with hr | hr
  · unfold structOk at hr
    cases hu : P.underlying e with
    | none => rw [hu] at hr; cases hr
    | some d =>
      rw [hu] at hr
      cases d with
      | struct fs =>
        simp only [Bool.and_eq_true, decide_eq_true_eq] at hr
        obtain ⟨⟨hc, hz⟩, hall⟩ := hr
        obtain ⟨xs, n, _, rfl, hl, hlen, hf⟩ := DataW.trod_struct hu h
        refine ⟨by rw [hl, hc], fun j k v hk hv => ?_⟩
        have hj : j < fs.size := by rw [hz]; exact (List.getElem?_eq_some_iff.1 hk).1
        have h1 := List.all_eq_true.1 hall j (List.mem_range.2 hj)
        rw [Array.getElem?_eq_getElem hj, hk] at h1
        simp only [Bool.and_eq_true, decide_eq_true_eq] at h1
        obtain ⟨⟨h1, h2⟩, h3⟩ := h1
        have h4 := hf j fs[j] (Array.getElem?_eq_getElem hj)
        have hxj : j < xs.length := by rw [hlen]; exact hj
        rw [h1, h2, List.getElem?_eq_getElem hxj] at h4
        have hjl : j < cs.length := by rw [hl, hc, ← hz]; exact hj
        have hcs : (cs.drop j).take 1 = [cs[j]] := by rw [List.drop_eq_getElem_cons hjl]; rfl
        rw [hcs] at h4
        cases hd : P.underlying fs[j].type with
        | none => rw [hd] at h3; cases h3
        | some d =>
          rw [hd] at h3
          have hw : ∀ m ∈ xs[j].1.weights P fs[j].type, m ≤ 140737488351232 := by
            intro m hm
            refine hs m ?_
            simp only [DataW.weights, hu]
            refine weights_each_mem (j := j) (t := fs[j].type) (d := xs[j].1) ?_ ?_ m hm
            · simp [hj]
            · simp [hxj]
          obtain ⟨v', hv', hok⟩ := of_kind hd h3 h4 hw
          rw [List.getElem?_eq_getElem hjl] at hv
          injection hv with hv
          injection hv' with hv'
          rw [← hv, hv']
          exact hok
      | _ => cases hr
  · unfold oneOk at hr
    simp only [Bool.and_eq_true, decide_eq_true_eq] at hr
    match ks, hr.2 with
    | [k], hk =>
      cases hu : P.underlying e with
      | none => rw [hu] at hk; cases hk
      | some d =>
        rw [hu] at hk
        obtain ⟨v, rfl, hok⟩ := of_kind hu hk h hs
        refine ⟨rfl, fun j k' v' hk' hv' => ?_⟩
        cases j with
        | zero =>
          simp at hk' hv'
          subst hk' hv'
          exact hok
        | succ j => simp at hk'
theorem rowOk_cells {e : TypeId} {ks : List FK} (hr : rowOk P e ks = true) : P.cellsOf e = ks.length := by
  unfold rowOk at hr
  rw [Bool.or_eq_true] at hr
  rcases hr with hr | hr
  · unfold structOk at hr
    split at hr
    · simp only [Bool.and_eq_true, decide_eq_true_eq] at hr
      exact hr.1.1
    · cases hr
  · unfold oneOk at hr
    simp only [Bool.and_eq_true, decide_eq_true_eq] at hr
    match ks, hr.2 with
    | [k], _ => exact hr.1
/-- What a slice of such elements holds, in memory: nil, or rows of cells. -/
def Rows (w : World) (ks : List FK) (A : Option Addr) (len cap : Nat) (rows : List (List Value)) : Prop :=
  rows.length = len ∧ len ≤ cap ∧ cap ≤ maxLen ∧ (∀ r ∈ rows, RowK ks r) ∧ (0 < len → ∃ a, A = some a ∧ ∀ i r, rows[i]? = some r → ∀ j v, r[j]? = some v → w.cell? (a.add (i * ks.length + j)) = some v)
theorem open_rows {t e : TypeId} {ks : List FK} {A : Option Addr} {len cap : Nat} {x : DataW H} {p : List MemPlace} (ht : P.underlying t = some (.slice e)) (hr : rowOk P e ks = true)
    (h : DataW.Trod enc P w base spare held t (.slice A len cap) x p) (hs : ∀ n ∈ x.weights P t, n ≤ 140737488351232) : ∃ rows, Rows w ks A len cap rows ∧ len * P.bytesOf e ≤ 140737488351232 := by
  obtain ⟨fuel, hf⟩ := h
  rcases open_slice ht hf with ⟨hcs, hx⟩ | ⟨a, len', cap', m, n, D, Pl, hcs, hb, hl, hm, hmm, hx, hcell⟩
  · simp only [Value.cells] at hcs
    obtain ⟨rfl, rfl, rfl⟩ : A = none ∧ len = 0 ∧ cap = 0 := by simpa using hcs
    exact ⟨[], ⟨rfl, Nat.le_refl _, Nat.zero_le _, (by intro r hr; cases hr), fun h => absurd h (by omega)⟩, by omega⟩
  · simp only [Value.cells] at hcs
    obtain ⟨rfl, rfl, rfl⟩ : A = some a ∧ len = len' ∧ cap = cap' := by simpa using hcs
    simp only [Prod.mk.injEq] at hx
    obtain ⟨rfl, rfl⟩ := hx
    have hml : len ≤ m := by rw [hmm]; split <;> omega
    have hweights := hs
    simp only [DataW.weights, ht] at hweights
    have hlen : len * P.bytesOf e ≤ 140737488351232 := by
      have := hweights _ (List.mem_cons_self ..)
      simp only [List.length_map, List.length_range] at this
      exact Nat.le_trans (Nat.mul_le_mul_right _ (Nat.le_add_right _ _)) this
    have hk := rowOk_cells hr
    have hex : ∀ i, i < len → ∃ cs : List Value, RowK ks cs ∧ ∀ j v, cs[j]? = some v → w.cell? (a.add (i * ks.length + j)) = some v := by
      intro i hi
      obtain ⟨cs, h1, h2⟩ := hcell i (by omega)
      have hw : ∀ q ∈ (D i).weights P e, q ≤ 140737488351232 := fun q hq => hweights q (by
        refine List.mem_cons_of_mem _ (List.mem_append_left _ (weights_all_mem (d := D i) ?_ q hq))
        exact List.mem_map.2 ⟨i, List.mem_range.2 hi, rfl⟩)
      refine ⟨cs, row_of hr h2 hw, fun j v hv => ?_⟩
      obtain ⟨_, hl2, h3⟩ := World.cells?_some h1
      have hj : j < P.cellsOf e := by rw [← hl2]; exact (List.getElem?_eq_some_iff.1 hv).1
      have := h3 j hj
      rw [add_add, hk] at this
      rw [this, hv]
    obtain ⟨f, hf⟩ := choose_lt hex
    refine ⟨(List.range len).map f, ⟨by simp, hl, hm, ?_, fun _ => ⟨a, rfl, ?_⟩⟩, hlen⟩
    · intro r hr
      obtain ⟨i, hi, rfl⟩ := List.mem_map.1 hr
      exact (hf i (List.mem_range.1 hi)).1
    · intro i r hr j v hv
      rw [List.getElem?_map] at hr
      obtain ⟨i', hi', rfl⟩ := Option.map_eq_some_iff.1 hr
      obtain ⟨hlt, hii⟩ := List.getElem?_eq_some_iff.1 hi'
      simp only [List.length_range] at hlt
      simp only [List.getElem_range] at hii
      subst hii
      exact (hf i hlt).2 j v hv
end
end Go.Proofs.Ytafmdlegelbfpaa.Open
/-! What came in, opened: values of any shape of whole numbers, bools, texts and slices, in structs, in structs. -/
namespace Go.Proofs.Ytafmdlegelbfpaa.Shape
open Go Go.ChangeShapes Go.WideShapes Go.ChangeAt Go.RowKit Go.Deep
set_option linter.unusedVariables false
set_option linter.unusedSimpArgs false

/-- A cell's shape. -/
inductive SK where
  | int (k : IntKind)
  | bool
  | str
  | row (e : TypeId) (ks : List SK)
mutual
def SK.same : SK → SK → Bool
  | .int k, .int j => decide (k = j)
  | .bool, .bool => true
  | .str, .str => true
  | .row e ks, .row f js => decide (e = f) && SK.sames ks js
  | _, _ => false
def SK.sames : List SK → List SK → Bool
  | [], [] => true
  | k :: ks, j :: js => SK.same k j && SK.sames ks js
  | _, _ => false
end
mutual
/-- What a cell of this shape holds. -/
def SK.ok (P : Program) (w : World) : SK → Value → Prop
  | .int k, v => ∃ x : Int, v = .int k x ∧ (Lit.int k x).wf = true
  | .bool, v => ∃ b : Bool, v = .bool b
  | .str, v => ∃ s : ByteArray, v = .string s ∧ s.size ≤ 140737488351232
  | .row e ks, v => ∃ (A : Option Addr) (len cap : Nat) (rows : List (List Value)), v = .slice A len cap ∧ len ≤ cap ∧ cap ≤ maxLen ∧ len * P.bytesOf e ≤ 140737488351232 ∧ rows.length = len ∧
      (0 < len → ∃ a, A = some a ∧ ∀ (j : Nat) (r : List Value), rows[j]? = some r → ∀ (i : Nat) (u : Value), r[i]? = some u → w.cell? (a.add (j * ks.length + i)) = some u) ∧ ∀ r ∈ rows, SK.oks P w ks r
def SK.oks (P : Program) (w : World) : List SK → List Value → Prop
  | [], [] => True
  | k :: ks, v :: vs => SK.ok P w k v ∧ SK.oks P w ks vs
  | _, _ => False
end
theorem oks_len {P : Program} {w : World} : ∀ {ks : List SK} {vs : List Value}, SK.oks P w ks vs → vs.length = ks.length
  | [], [], _ => rfl
  | k :: ks, v :: vs, h => by simp only [SK.oks] at h; simp [oks_len h.2]
  | [], _ :: _, h => by simp [SK.oks] at h
  | _ :: _, [], h => by simp [SK.oks] at h
theorem oks_at {P : Program} {w : World} : ∀ {ks : List SK} {vs : List Value} (j : Nat) (k : SK) (v : Value), SK.oks P w ks vs → ks[j]? = some k → vs[j]? = some v → SK.ok P w k v
  | k :: ks, v :: vs, 0, _, _, h, hk, hv => by
    simp only [SK.oks] at h
    simp at hk hv
    subst hk hv
    exact h.1
  | k :: ks, v :: vs, j + 1, k', v', h, hk, hv => by
    simp only [SK.oks] at h
    exact oks_at j k' v' h.2 (by simpa using hk) (by simpa using hv)
  | [], _, j, k, v, _, hk, _ => by simp at hk
  | _ :: _, [], j, k, v, h, _, _ => by simp [SK.oks] at h
theorem oks_mk {P : Program} {w : World} : ∀ {ks : List SK} {vs : List Value}, vs.length = ks.length → (∀ (j : Nat) (k : SK) (v : Value), ks[j]? = some k → vs[j]? = some v → SK.ok P w k v) → SK.oks P w ks vs
  | [], [], _, _ => by simp [SK.oks]
  | k :: ks, v :: vs, hl, h => by
    simp only [SK.oks]
    exact ⟨h 0 k v rfl rfl, oks_mk (by simpa using hl) (fun j k' v' hk hv => h (j + 1) k' v' (by simpa using hk) (by simpa using hv))⟩
  | [], _ :: _, hl, _ => by simp at hl
  | _ :: _, [], hl, _ => by simp at hl
/-- Are a type's cells of these shapes? -/
def shOk (P : Program) : Nat → TypeId → List SK → Bool
  | 0, _, _ => false
  | n + 1, t, ks =>
    match P.underlying t with
    | some (.int i) => match ks with
      | [.int k] => decide (i = k)
      | _ => false
    | some .bool => match ks with
      | [.bool] => true
      | _ => false
    | some .string => match ks with
      | [.str] => true
      | _ => false
    | some (.slice e) => match ks with
      | [.row f js] => decide (e = f) && decide (P.cellsOf e = js.length) && shOk P n e js
      | _ => false
    | some (.struct fs) => decide (P.cellsOf t = ks.length) && (fs.toList.all fun f => shOk P n f.type ((ks.drop f.offset).take (P.cellsOf f.type))) &&
        (List.range ks.length).all fun i => fs.toList.any fun f => decide (f.offset ≤ i ∧ i < f.offset + P.cellsOf f.type)
    | _ => false
section
variable {H : Type} {enc : TypeId × Value → H} {P : Program} {w : World} {base : Nat} {spare : Nat → Bool} {held : Bool}
theorem open_sh : ∀ (n : Nat) {t : TypeId} {ks : List SK} {fuel : Nat} {cs : List Value} {x : DataW H × List MemPlace}, shOk P n t ks = true →
    DataW.trod enc P w base spare held fuel t cs = some x → (∀ m ∈ x.1.weights P t, m ≤ 140737488351232) → SK.oks P w ks cs
  | 0, _, _, _, _, _, h, _, _ => by simp [shOk] at h
  | n + 1, t, ks, fuel, cs, x, h, ht, hs => by
    unfold shOk at h
    cases hu : P.underlying t with
    | none => rw [hu] at h; cases h
    | some d =>
      rw [hu] at h
      cases d with
      | int i =>
        simp only at h
        split at h
        · obtain rfl := of_decide_eq_true h
          obtain ⟨m, rfl, _, hw⟩ := DataW.trod_int hu ht
          simp only [SK.oks, SK.ok]
          exact ⟨⟨m, rfl, hw⟩, trivial⟩
        · cases h
      | bool =>
        simp only at h
        split at h
        · obtain ⟨b, rfl, _⟩ := DataW.trod_bool hu ht
          simp only [SK.oks, SK.ok]
          exact ⟨⟨b, rfl⟩, trivial⟩
        · cases h
      | string =>
        simp only at h
        split at h
        · obtain ⟨s, rfl, rfl, _⟩ := DataW.trod_string hu ht
          simp only [SK.oks, SK.ok]
          refine ⟨⟨s, rfl, ?_⟩, trivial⟩
          have := hs s.data.toList.length (by simp [DataW.weights])
          rw [Array.length_toList] at this
          exact this
        · cases h
      | slice e =>
        simp only at h
        split at h
        · rename_i f js
          simp only [Bool.and_eq_true, decide_eq_true_eq] at h
          obtain ⟨⟨rfl, hk⟩, hsh⟩ := h
          rcases open_slice hu ht with ⟨rfl, hx⟩ | ⟨a, len, cap, m, q, D, Pl, rfl, hb, hl, hm, hmm, hx, hcell⟩
          · simp only [SK.oks, and_true]
            simp only [SK.ok]
            exact ⟨none, 0, 0, [], rfl, Nat.le_refl _, Nat.zero_le _, by omega, rfl, fun h => absurd h (by omega), fun r hr => by cases hr⟩
          · simp only [SK.oks, and_true]
            simp only [SK.ok]
            have hml : len ≤ m := by rw [hmm]; split <;> omega
            subst hx
            have hweights := hs
            simp only [DataW.weights, hu] at hweights
            have hlen : len * P.bytesOf e ≤ 140737488351232 := by
              have := hweights _ (List.mem_cons_self ..)
              simp only [List.length_map, List.length_range] at this
              exact Nat.le_trans (Nat.mul_le_mul_right _ (Nat.le_add_right _ _)) this
            have hex : ∀ i, i < len → ∃ cs : List Value, SK.oks P w js cs ∧ ∀ j v, cs[j]? = some v → w.cell? (a.add (i * js.length + j)) = some v := by
              intro i hi
              obtain ⟨cs, h1, h2⟩ := hcell i (by omega)
              have hw : ∀ q ∈ (D i).weights P e, q ≤ 140737488351232 := fun q hq => hweights q (by
                refine List.mem_cons_of_mem _ (List.mem_append_left _ (Open.weights_all_mem (d := D i) ?_ q hq))
                exact List.mem_map.2 ⟨i, List.mem_range.2 hi, rfl⟩)
              refine ⟨cs, open_sh n hsh h2 hw, fun j v hv => ?_⟩
              obtain ⟨_, hl2, h3⟩ := World.cells?_some h1
              have hj : j < P.cellsOf e := by rw [← hl2]; exact (List.getElem?_eq_some_iff.1 hv).1
              have := h3 j hj
              rw [add_add, hk] at this
              rw [this, hv]
            obtain ⟨f, hf⟩ := choose_lt hex
            refine ⟨some a, len, cap, (List.range len).map f, rfl, hl, hm, hlen, by simp, fun _ => ⟨a, rfl, ?_⟩, ?_⟩
            · intro i r hr j v hv
              rw [List.getElem?_map] at hr
              obtain ⟨i', hi', rfl⟩ := Option.map_eq_some_iff.1 hr
              obtain ⟨hlt, hii⟩ := List.getElem?_eq_some_iff.1 hi'
              simp only [List.length_range] at hlt
              simp only [List.getElem_range] at hii
              subst hii
              exact (hf i hlt).2 j v hv
            · intro r hr
              obtain ⟨i, hi, rfl⟩ := List.mem_map.1 hr
              exact (hf i (List.mem_range.1 hi)).1
        · cases h
      | struct fs =>
        simp only [Bool.and_eq_true, decide_eq_true_eq] at h
        obtain ⟨⟨hc, hall⟩, hcov⟩ := h
        obtain ⟨xs, m, _, rfl, hl, hlen, hf⟩ := DataW.trod_struct hu ht
        refine oks_mk (by rw [hl, hc]) (fun j k v hk hv => ?_)
        have hj : j < ks.length := (List.getElem?_eq_some_iff.1 hk).1
        obtain ⟨f, hfm, hin⟩ := List.any_eq_true.1 (List.all_eq_true.1 hcov j (List.mem_range.2 hj))
        have hin := of_decide_eq_true hin
        have hsh := List.all_eq_true.1 hall f hfm
        obtain ⟨q, hq, hfq⟩ := List.mem_iff_getElem.1 hfm
        have hqs : q < fs.size := by simpa using hq
        have hgq : fs[q]? = some f := by rw [Array.getElem?_eq_getElem hqs]; simpa using hfq
        have h4 := hf q f hgq
        have hxq : q < xs.length := by rw [hlen]; exact hqs
        rw [List.getElem?_eq_getElem hxq] at h4
        have hw : ∀ m ∈ xs[q].1.weights P f.type, m ≤ 140737488351232 := by
          intro m hm
          refine hs m ?_
          simp only [DataW.weights, hu]
          refine Open.weights_each_mem (j := q) (t := f.type) (d := xs[q].1) ?_ ?_ m hm
          · simp [hqs, ← hfq]
          · simp [hxq]
        have hoks := open_sh n hsh h4 hw
        refine oks_at (j - f.offset) k v hoks ?_ ?_
        · rw [List.getElem?_take, if_pos (by omega), List.getElem?_drop, show f.offset + (j - f.offset) = j by omega]
          exact hk
        · rw [List.getElem?_take, if_pos (by omega), List.getElem?_drop, show f.offset + (j - f.offset) = j by omega]
          exact hv
      | _ => cases h
end
end Go.Proofs.Ytafmdlegelbfpaa.Shape
/-! Bytes of texts as lists: plain facts. -/
namespace Go.Proofs.Ytafmdlegelbfpaa.Bytes
set_option linter.unusedVariables false
set_option linter.unusedSimpArgs false
open Go.RowKit Go.Proofs.YtafmdlegelbfpaaW.PrintWords

/-- A text's bytes. -/
def L (s : ByteArray) : List UInt8 := s.data.toList
theorem L_inj {s t : ByteArray} (h : L s = L t) : s = t := by
  cases s; cases t
  simp only [L, Array.toList_inj] at h
  rw [h]
theorem L_length (s : ByteArray) : (L s).length = s.size := Array.length_toList
theorem L_append (s t : ByteArray) : L (s ++ t) = L s ++ L t := by simp [L]
theorem L_mk (l : List UInt8) : L ⟨l.toArray⟩ = l := by simp [L]
theorem L_extract (s : ByteArray) (a b : Nat) : L (s.extract a b) = ((L s).take b).drop a := by
  show (s.extract a b).data.toList = _
  rw [ByteArray.data_extract, Array.toList_extract, List.extract_eq_take_drop, List.drop_take]
  rfl
theorem toList_loop (s : ByteArray) (n : Nat) : ∀ (i : Nat) (r : List UInt8), s.size - i = n → ByteArray.toList.loop s i r = r.reverse ++ (L s).drop i := by
  induction n with
  | zero =>
    intro i r h
    rw [ByteArray.toList.loop, if_neg (by omega), List.drop_of_length_le (by rw [L_length]; omega), List.append_nil]
  | succ n ih =>
    intro i r h
    have hi : i < s.size := by omega
    rw [ByteArray.toList.loop, if_pos hi, ih (i + 1) _ (by omega), List.drop_eq_getElem_cons (i := i) (by rw [L_length]; exact hi)]
    have : s.get! i = (L s)[i]'(by rw [L_length]; exact hi) := by
      cases s with
      | mk a =>
        have hi' : i < a.size := hi
        simp only [ByteArray.get!, L, Array.getElem_toList]
        exact getElem!_pos a i hi'
    rw [this]
    simp
theorem toList_L (s : ByteArray) : s.toList = L s := by
  rw [ByteArray.toList, toList_loop s s.size 0 [] (by omega)]
  simp
theorem size_L (s : ByteArray) : s.size = (L s).length := (L_length s).symm
/-- A byte told as a number. -/
def I (l : List UInt8) : List Int := l.map fun b => (b.toNat : Int)
theorem I_append (l m : List UInt8) : I (l ++ m) = I l ++ I m := by simp [I]
theorem I_length (l : List UInt8) : (I l).length = l.length := by simp [I]
theorem I_cons (b : UInt8) (l : List UInt8) : I (b :: l) = (b.toNat : Int) :: I l := rfl
theorem I_nil : I [] = [] := rfl
theorem bytesOf_I (s : ByteArray) : bytesOf s = I (L s) := rfl
theorem strOf_I (l : List UInt8) : L (strOfNums (I l)) = l := by
  show (strOfNums (I l)).data.toList = l
  rw [strOfNums_data, I, List.map_map]
  conv => rhs; rw [← List.map_id l]
  apply List.map_congr_left
  intro a _
  simp
theorem bt_L (s : ByteArray) (i : Nat) (h : i < (L s).length) : bt s (i : Int) = ((L s)[i].toNat : Int) := by
  have h' : i < s.size := by rw [← L_length]; exact h
  have := bt_at s (i : Int) h'
  rw [← this]
  rfl

/-! Numbers, lowest byte first -/
def digs (n : Nat) : List UInt8 := if h : n = 0 then [] else UInt8.ofNat (n % 256) :: digs (n / 256)
decreasing_by omega
theorem digs_zero : digs 0 = [] := by rw [digs]; simp
theorem digs_pos {n : Nat} (h : 0 < n) : digs n = UInt8.ofNat (n % 256) :: digs (n / 256) := by rw [digs, dif_neg (by omega)]
def unl : List UInt8 → Nat
  | [] => 0
  | b :: l => b.toNat + 256 * unl l
theorem unl_digs (n : Nat) : unl (digs n) = n := by
  induction n using Nat.strongRecOn with
  | _ n ih =>
    rcases Nat.eq_zero_or_pos n with rfl | h
    · rw [digs_zero]; rfl
    · rw [digs_pos h, unl, ih _ (by omega)]
      simp
      omega
theorem unl_lt (l : List UInt8) : unl l < 256 ^ l.length := by
  induction l with
  | nil => simp [unl]
  | cons b l ih =>
    have := b.toNat_lt
    simp only [unl, List.length_cons, Nat.pow_succ]
    omega
theorem digs_length (m : Nat) : ∀ n, n < 256 ^ m → (digs n).length ≤ m := by
  induction m with
  | zero => intro n h; have : n = 0 := by simpa using h
            subst this; rw [digs_zero]; simp
  | succ m ih =>
    intro n h
    rcases Nat.eq_zero_or_pos n with rfl | hp
    · rw [digs_zero]; simp
    · rw [digs_pos hp, List.length_cons]
      have := ih (n / 256) (by rw [Nat.pow_succ] at h; omega)
      omega
theorem digs_last (n : Nat) (h : 0 < n) : ∀ x, (digs n).getLast? = some x → x ≠ 0 := by
  induction n using Nat.strongRecOn with
  | _ n ih =>
    intro x hx
    rw [digs_pos h] at hx
    rcases Nat.eq_zero_or_pos (n / 256) with h0 | hp
    · rw [h0, digs_zero] at hx
      simp at hx
      subst hx
      intro e
      have := congrArg UInt8.toNat e
      simp at this
      omega
    · rw [digs_pos hp, List.getLast?_cons_cons, ← digs_pos hp] at hx
      exact ih _ (by omega) hp x hx
theorem unl_pos (l : List UInt8) : ∀ x, l.getLast? = some x → x ≠ 0 → 0 < unl l := by
  induction l with
  | nil => intro x h; cases h
  | cons b l ih =>
    intro x h hx
    cases l with
    | nil =>
      simp at h
      subst h
      have : b.toNat ≠ 0 := fun e => hx (by apply UInt8.toNat_inj.1; simpa using e)
      simp [unl]; omega
    | cons c l =>
      rw [List.getLast?_cons_cons] at h
      have := ih x h hx
      simp only [unl] at this ⊢
      omega
theorem digs_unl (l : List UInt8) (h : ∀ x, l.getLast? = some x → x ≠ 0) : digs (unl l) = l := by
  induction l with
  | nil => rw [unl, digs_zero]
  | cons b l ih =>
    have hb := b.toNat_lt
    have hl : ∀ x, l.getLast? = some x → x ≠ 0 := by
      intro x hx
      cases l with
      | nil => cases hx
      | cons c l => exact h x (by rw [List.getLast?_cons_cons]; exact hx)
    have hp : 0 < unl (b :: l) := by
      cases hg : (b :: l).getLast? with
      | none => simp at hg
      | some x => exact unl_pos _ x hg (h x hg)
    rw [digs_pos hp]
    have h1 : unl (b :: l) % 256 = b.toNat := by simp only [unl]; omega
    have h2 : unl (b :: l) / 256 = unl l := by simp only [unl]; omega
    rw [h1, h2, ih hl]
    simp
theorem unl_append (l m : List UInt8) : unl (l ++ m) = unl l + 256 ^ l.length * unl m := by
  induction l with
  | nil => simp [unl]
  | cons b l ih =>
    simp only [List.cons_append, unl, ih, List.length_cons, Nat.pow_succ, Nat.mul_add]
    rw [Nat.mul_comm (256 ^ l.length) 256, Nat.mul_assoc, Nat.add_assoc]
/-- A number's bytes: how many follow, and they. -/
def num (n : Nat) : List UInt8 := UInt8.ofNat (digs n).length :: digs n
/-- An int64 as one of 64 bits. -/
def u64 (n : Int) : Nat := (n % 18446744073709551616).toNat
theorem u64_lt (n : Int) : u64 n < 256 ^ 8 := by unfold u64; omega
theorem u64_nat {n : Nat} (h : n < 18446744073709551616) : u64 (n : Int) = n := by unfold u64; omega
theorem digs_u64 (n : Int) : (digs (u64 n)).length ≤ 8 := digs_length 8 _ (u64_lt n)
end Go.Proofs.Ytafmdlegelbfpaa.Bytes
/-! What the functions of package code come to: numbers and lists of fields. -/
namespace Go.Proofs.Ytafmdlegelbfpaa.Fn
set_option linter.unusedVariables false
set_option linter.unusedSimpArgs false
open Go.RowKit Go.Proofs.YtafmdlegelbfpaaW.PrintWords Go.Proofs.Ytafmdlegelbfpaa.PAll Go.Proofs.Ytafmdlegelbfpaa.Bytes

theorem wrap64_id {n : Int} (h0 : -9223372036854775808 ≤ n) (h1 : n ≤ 9223372036854775807) : wrap64 n = n := by unfold wrap64; omega
theorem Ev.const {α : Type} {g : Nat → Option α} {r : α} (h : ∀ k, g k = some r) : Ev g r := ⟨0, fun k _ => h k⟩
theorem byte_toNat (n : Nat) : ((UInt8.ofNat (n % 256)).toNat : Int) = (n : Int) % 256 := by
  rw [UInt8.toNat_ofNat']; omega

theorem onto_l0 (y : Int) : ∀ (n : Nat) (m : Int) (i : Int) (l : List Int), (digs n).length = (m - i).toNat → 0 ≤ i → i ≤ m → m ≤ 8 → l.length + 8 ≤ 140737488355328 + i.toNat →
    Ev (fun k => code_little_uint64_onto.l0 k l m i (n : Int) y) (l ++ I (digs n)) := by
  intro n
  induction n using Nat.strongRecOn with
  | _ n ih =>
    intro m i l hd h0 h1 hm hl
    rcases Nat.eq_zero_or_pos n with rfl | hp
    · rw [digs_zero] at hd ⊢
      refine Ev.step (f := fun _ => some l) (fun k => ?_) (by simpa [I] using Ev.now l)
      simp only [code_little_uint64_onto.l0]
      simp only [List.length_nil] at hd
      rw [if_neg (by omega)]
    · rw [digs_pos hp, List.length_cons] at hd
      have hlt : i < m := by omega
      have := ih (n / 256) (by omega) m (i + 1) (l ++ [(n : Int) % 256]) (by omega) (by omega) (by omega) hm (by rw [List.length_append, List.length_singleton]; omega)
      rw [digs_pos hp, I_cons, byte_toNat, List.append_cons]
      refine Ev.step (fun k => ?_) this
      simp only [code_little_uint64_onto.l0]
      rw [if_pos hlt, if_pos (by omega), wrap64_id (by omega) (by omega)]
      congr 1

theorem number_l0 (n0 : Int) (N : Nat) (hN : IntKind.u64.wrap n0 = (N : Int)) : ∀ (r : Nat) (c : Nat) (l : List Int), c + (digs r).length = (digs N).length → (digs N).length ≤ 8 → l.length + 16 ≤ 140737488355328 →
    Ev (fun k => code_number.l0 k l n0 (c : Int) (r : Int)) (l ++ I (num N)) := by
  intro r
  induction r using Nat.strongRecOn with
  | _ r ih =>
    intro c l hc h8 hl
    rcases Nat.eq_zero_or_pos r with rfl | hp
    · rw [digs_zero, List.length_nil] at hc
      have hc' : c = (digs N).length := by omega
      subst hc'
      have ho := onto_l0 ((digs N).length : Int) N ((digs N).length : Int) 0 (l ++ [((digs N).length : Int) % 256]) (by omega) (by omega) (by omega) (by omega) (by rw [List.length_append, List.length_singleton]; omega)
      have hf : (l ++ [((digs N).length : Int) % 256]) ++ I (digs N) = l ++ I (num N) := by
        have := byte_toNat (digs N).length
        rw [Nat.mod_eq_of_lt (by omega : (digs N).length < 256)] at this
        rw [num, I_cons, this, List.append_assoc, List.singleton_append]
      rw [hf] at ho
      refine Ev.step (fun k => ?_) (Ev.bind (f := fun _ x => some x) (Ev.bind (f := fun _ x => some x) ho (Ev.now _)) (Ev.now _))
      simp only [code_number.l0]
      rw [if_neg (by omega), if_pos (by omega), hN]
      rfl
    · have hd := digs_pos hp
      have := ih (r / 256) (by omega) (c + 1) l (by rw [hd, List.length_cons] at hc; omega) h8 hl
      refine Ev.step (fun k => ?_) this
      simp only [code_number.l0]
      have : (c : Int) ≤ 8 := by rw [hd, List.length_cons] at hc; omega
      rw [if_pos (by omega), wrap64_id (by omega) (by omega)]
      rfl
theorem u64_wrap (n : Int) : IntKind.u64.wrap n = (u64 n : Int) := by
  have : IntKind.u64.wrap n = n % 18446744073709551616 := by simp [IntKind.wrap, IntKind.bits, IntKind.signed]
  rw [this, u64]; omega
theorem number_f (l : List Int) (n : Int) (hl : l.length + 16 ≤ 140737488355328) : Ev (fun k => code_number.f k l n) (l ++ I (num (u64 n))) := by
  have := number_l0 n (u64 n) (u64_wrap n) (u64 n) 0 l (by omega) (digs_u64 n) hl
  refine Ev.congr (fun k => ?_) this
  simp only [code_number.f]
  rw [u64_wrap]
  rfl

/-! Fields -/
/-- May a field be? -/
def ok (x : S110) : Bool := if x.f0 then x.f1 == 0 else (L x.f2).isEmpty
/-- A field's bytes. -/
def one (x : S110) : List UInt8 := if x.f0 then 84 :: num x.f2.size ++ L x.f2 else 78 :: num (u64 x.f1)
/-- The bytes of a list. -/
def enc (l : List S110) : List UInt8 := l.flatMap one
theorem enc_nil : enc [] = [] := rfl
theorem enc_cons (x : S110) (l : List S110) : enc (x :: l) = one x ++ enc l := rfl
theorem enc_append (a b : List S110) : enc (a ++ b) = enc a ++ enc b := by simp [enc]
theorem num_length (n : Nat) : (num n).length = (digs n).length + 1 := by simp [num]
theorem one_length_pos (x : S110) : 2 ≤ (one x).length := by
  unfold one
  split
  · simp [num_length]; omega
  · simp [num_length]
/-- What Encode comes to. -/
def encode (l : List S110) : ByteArray × Int :=
  if l.length > 4096 then (⟨#[]⟩, 2)
  else if l.all ok = false then (⟨#[]⟩, 4)
  else if (enc l).length > 262144 then (⟨#[]⟩, 2)
  else (strOfNums (I (enc l)), 0)
theorem rd_get (l : List S110) (i : Nat) (h : i < l.length) : rd_T110 l (i : Int) = l[i] := by
  unfold rd_T110
  rw [Int.toNat_natCast, List.getD_eq_getElem?_getD, List.getElem?_eq_getElem h]
  rfl
theorem isEmpty_toList (s : ByteArray) : s.toList = ([] : List UInt8) ↔ (L s).isEmpty = true := by rw [toList_L]; simp

theorem encode_l1 (l : List S110) (hl : l.length ≤ 4096) (hs : ∀ x ∈ l, x.f2.size ≤ 140737488351232) : ∀ (d i : Nat), i + d = l.length → (enc (l.take i)).length ≤ 262144 →
    Ev (fun k => code_Encode.l1 k (I (enc (l.take i))) l (l.length : Int) (i : Int)) (if (enc l).length > 262144 then (⟨#[]⟩, 2) else (strOfNums (I (enc l)), 0)) := by
  intro d
  induction d with
  | zero =>
    intro i hi hb
    have : i = l.length := by omega
    subst this
    rw [List.take_length] at hb ⊢
    rw [if_neg (by omega)]
    refine Ev.step (f := fun _ => some (strOfNums (I (enc l)), 0)) (fun k => ?_) (Ev.now _)
    simp only [code_Encode.l1]
    rw [if_neg (by omega)]
  | succ d ih =>
    intro i hi hb
    have hlt : i < l.length := by omega
    have hx := hs l[i] (List.getElem_mem hlt)
    have htk : l.take (i + 1) = l.take i ++ [l[i]] := List.take_succ_eq_append_getElem hlt
    have he : enc (l.take (i + 1)) = enc (l.take i) ++ one l[i] := by rw [htk, enc_append]; simp [enc]
    have hle : (enc (l.take (i + 1))).length ≤ (enc l).length := by
      have : enc l = enc (l.take (i + 1)) ++ enc (l.drop (i + 1)) := by rw [← enc_append, List.take_append_drop]
      rw [this, List.length_append]; omega
    have hlI : (I (enc (l.take i))).length ≤ 262144 := by rw [I_length]; exact hb
    have hfin : Ev (fun k => if ((I (enc (l.take (i + 1)))).length : Int) > 262144 then some ((⟨#[]⟩ : ByteArray), (2 : Int)) else code_Encode.l1 k (I (enc (l.take (i + 1)))) l (l.length : Int) ((i + 1 : Nat) : Int)) (if (enc l).length > 262144 then (⟨#[]⟩, 2) else (strOfNums (I (enc l)), 0)) := by
      by_cases hb2 : (enc (l.take (i + 1))).length > 262144
      · rw [if_pos (by omega)]
        refine Ev.const fun k => ?_
        rw [if_pos (by rw [I_length]; omega)]
      · refine Ev.congr (fun k => ?_) (ih (i + 1) (by omega) (by omega))
        rw [if_neg (by rw [I_length]; omega)]
    by_cases hf0 : l[i].f0 = true
    · have hn := number_f (I (enc (l.take i)) ++ [84]) (l[i].f2.size : Int) (by rw [List.length_append, List.length_singleton]; omega)
      rw [u64_nat (by omega)] at hn
      have he2 : (I (enc (l.take i)) ++ [84]) ++ I (num l[i].f2.size) ++ bytesOf l[i].f2 = I (enc (l.take (i + 1))) := by
        rw [he, I_append, one, if_pos hf0, bytesOf_I, I_append, I_cons]
        simp only [List.append_assoc, List.singleton_append, List.cons_append]
        rfl
      have hsz : ((I (enc (l.take i)) ++ [84]) ++ I (num l[i].f2.size)).length + l[i].f2.size < 141836999983104 := by
        have := digs_length 8 l[i].f2.size (by omega)
        simp only [List.length_append, List.length_singleton, I_length, num_length] at hlI ⊢
        omega
      obtain ⟨K1, h1⟩ := hn
      obtain ⟨K2, h2⟩ := hfin
      dsimp only at h1 h2
      refine ⟨max K1 K2 + 1, fun k hk => ?_⟩
      obtain ⟨k, rfl⟩ : ∃ m, k = m + 1 := ⟨k - 1, by omega⟩
      have h2 := h2 k (by omega)
      simp only [code_Encode.l1]
      rw [if_pos (by omega), if_pos (by omega), if_pos (by omega), rd_get l i hlt, if_pos hf0, if_pos (by omega), h1 k (by omega)]
      simp only [Option.bind_some]
      rw [if_pos hsz, he2, wrap64_id (by omega) (by omega)]
      exact h2
    · have hn := number_f (I (enc (l.take i)) ++ [78]) l[i].f1 (by rw [List.length_append, List.length_singleton]; omega)
      have he2 : (I (enc (l.take i)) ++ [78]) ++ I (num (u64 l[i].f1)) = I (enc (l.take (i + 1))) := by
        rw [he, I_append, one, if_neg hf0, I_cons]
        simp only [List.append_assoc, List.singleton_append]
        rfl
      rw [he2] at hn
      obtain ⟨K1, h1⟩ := hn
      obtain ⟨K2, h2⟩ := hfin
      dsimp only at h1 h2
      refine ⟨max K1 K2 + 1, fun k hk => ?_⟩
      obtain ⟨k, rfl⟩ : ∃ m, k = m + 1 := ⟨k - 1, by omega⟩
      have h2 := h2 k (by omega)
      simp only [code_Encode.l1]
      rw [if_pos (by omega), if_pos (by omega), if_pos (by omega), rd_get l i hlt, if_neg hf0, if_pos (by omega), h1 k (by omega)]
      simp only [Option.bind_some]
      rw [wrap64_id (by omega) (by omega)]
      exact h2

theorem encode_l0 (l : List S110) (hl : l.length ≤ 4096) (hs : ∀ x ∈ l, x.f2.size ≤ 140737488351232) : ∀ (d i : Nat), i + d = l.length →
    Ev (fun k => code_Encode.l0 k l l (l.length : Int) (i : Int)) (if (l.drop i).all ok = false then (⟨#[]⟩, 4) else if (enc l).length > 262144 then (⟨#[]⟩, 2) else (strOfNums (I (enc l)), 0)) := by
  intro d
  induction d with
  | zero =>
    intro i hi
    have : i = l.length := by omega
    subst this
    obtain ⟨K, h⟩ := encode_l1 l hl hs l.length 0 (by omega) (by simp [enc])
    refine ⟨K + 1, fun k hk => ?_⟩
    obtain ⟨k, rfl⟩ : ∃ m, k = m + 1 := ⟨k - 1, by omega⟩
    have h := h k (by omega)
    simp only [code_Encode.l0]
    rw [if_neg (by omega), List.drop_length, if_neg (by simp)]
    exact h
  | succ d ih =>
    intro i hi
    have hlt : i < l.length := by omega
    obtain ⟨K, h⟩ := ih (i + 1) (by omega)
    refine ⟨K + 1, fun k hk => ?_⟩
    obtain ⟨k, rfl⟩ : ∃ m, k = m + 1 := ⟨k - 1, by omega⟩
    have h := h k (by omega)
    have hw : wrap64 ((i : Int) + 1) = ((i + 1 : Nat) : Int) := by rw [wrap64_id (by omega) (by omega)]; rfl
    simp only [code_Encode.l0]
    rw [if_pos (by omega), if_pos (by omega), if_pos (by omega), rd_get l i hlt, hw, List.drop_eq_getElem_cons hlt, List.all_cons]
    by_cases hf0 : l[i].f0 = true
    · rw [if_pos hf0, if_pos hf0]
      by_cases hf1 : l[i].f1 = 0
      · have hok : ok l[i] = true := by simp [ok, hf0, hf1]
        rw [if_pos hf1, hok, Bool.true_and]
        exact h
      · have hok : ok l[i] = false := by simp [ok, hf0, hf1]
        rw [if_neg hf1, hok, Bool.false_and, if_pos rfl]
    · rw [if_neg hf0, if_neg hf0]
      by_cases hf2 : l[i].f2.toList = ([] : List UInt8)
      · have hok : ok l[i] = true := by simp only [ok, hf0]; exact (isEmpty_toList _).1 hf2
        rw [if_pos hf2, hok, Bool.true_and]
        exact h
      · have hok : ok l[i] = false := by
          simp only [ok, hf0]
          cases he : (L l[i].f2).isEmpty with
          | false => rfl
          | true => exact absurd ((isEmpty_toList _).2 he) hf2
        rw [if_neg hf2, hok, Bool.false_and, if_pos rfl]

theorem encode_f (l : List S110) (hs : ∀ x ∈ l, x.f2.size ≤ 140737488351232) : Ev (fun k => code_Encode.f k l) (encode l) := by
  unfold encode
  by_cases hl : l.length > 4096
  · rw [if_pos hl]
    refine Ev.const fun k => ?_
    simp only [code_Encode.f]
    rw [if_pos (by omega)]
  · rw [if_neg hl]
    obtain ⟨K, h⟩ := encode_l0 l (by omega) hs l.length 0 (by omega)
    refine ⟨K, fun k hk => ?_⟩
    have h := h k hk
    simp only [code_Encode.f]
    rw [if_neg (by omega)]
    exact h
theorem encode_ok {l : List S110} (h : (encode l).2 = 0) : l.length ≤ 4096 ∧ l.all ok = true ∧ (enc l).length ≤ 262144 ∧ encode l = (strOfNums (I (enc l)), 0) := by
  unfold encode at h ⊢
  split at h
  · exact absurd h (by decide)
  · split at h
    · exact absurd h (by decide)
    · split at h
      · exact absurd h (by decide)
      · rename_i h1 h2 h3
        rw [if_neg h1, if_neg h2, if_neg h3]
        exact ⟨by omega, by simpa using h2, by omega, rfl⟩
theorem encode_err {l : List S110} (h : (encode l).2 ≠ 0) : (encode l).1 = ⟨#[]⟩ := by
  unfold encode at h ⊢
  split
  · rfl
  · split
    · rfl
    · split
      · rfl
      · rename_i h1 h2 h3
        rw [if_neg h1, if_neg h2, if_neg h3] at h
        exact absurd rfl h
end Go.Proofs.Ytafmdlegelbfpaa.Fn
/-! What the functions of package code come to: bytes that are read. -/
namespace Go.Proofs.Ytafmdlegelbfpaa.Fn
set_option linter.unusedVariables false
set_option linter.unusedSimpArgs false
open Go.RowKit Go.Proofs.YtafmdlegelbfpaaW.PrintWords Go.Proofs.Ytafmdlegelbfpaa.PAll Go.Proofs.Ytafmdlegelbfpaa.Bytes

theorem or_join (a b : Nat) (ha : a < 72057594037927936) (hb : b < 256) : Go.bits .or .u64 (IntKind.u64.wrap ((a : Int) * 256)) (IntKind.u64.wrap (b : Int)) = ((b + 256 * a : Nat) : Int) := by
  have h1 : IntKind.u64.wrap ((a : Int) * 256) = ((256 * a : Nat) : Int) := by rw [u64_wrap, u64]; omega
  have h2 : IntKind.u64.wrap (b : Int) = (b : Int) := by rw [u64_wrap, u64]; omega
  rw [h1, h2, u64_or_nat _ _ (by omega) (by omega), nat_join 8 (256 * a) b (by omega) (by omega), Nat.add_comm]

theorem unlow_l0 (s : ByteArray) (hs : s.size ≤ 8) : ∀ (j : Nat), j ≤ s.size →
    Ev (fun k => code_unlow_uint64.l0 k s (unl ((L s).drop j) : Int) ((j : Int) - 1)) (unl (L s) : Int) := by
  intro j
  induction j with
  | zero =>
    intro _
    refine Ev.step (f := fun _ => some (unl (L s) : Int)) (fun k => ?_) (Ev.now _)
    simp only [code_unlow_uint64.l0]
    rw [if_neg (by omega)]
    rfl
  | succ j ih =>
    intro hj
    have hlt : j < (L s).length := by rw [L_length]; omega
    have hd : (L s).drop j = (L s)[j] :: (L s).drop (j + 1) := List.drop_eq_getElem_cons hlt
    have hb := (L s)[j].toNat_lt
    have hu := unl_lt ((L s).drop (j + 1))
    have hl : ((L s).drop (j + 1)).length ≤ 7 := by rw [List.length_drop, L_length]; omega
    have hp : (256 : Nat) ^ ((L s).drop (j + 1)).length ≤ 256 ^ 7 := Nat.pow_le_pow_right (by omega) hl
    refine Ev.step (fun k => ?_) (ih (by omega))
    simp only [code_unlow_uint64.l0]
    rw [if_pos (by omega), if_pos (by omega), if_pos (by omega), show ((j + 1 : Nat) : Int) - 1 = (j : Int) by omega, bt_L s j hlt, or_join _ _ (by omega) hb, wrap64_id (by omega) (by omega), hd, unl]
theorem unlow_f (s : ByteArray) (hs : s.size ≤ 8) : Ev (fun k => code_unlow_uint64.f k s) (unl (L s) : Int) := by
  have := unlow_l0 s hs s.size (Nat.le_refl _)
  refine Ev.congr (fun k => ?_) this
  simp only [code_unlow_uint64.f]
  rw [wrap64_id (by omega) (by omega), List.drop_of_length_le (by rw [L_length]; omega)]
  rfl

/-- A number of 64 bits as an int64. -/
def i64 (n : Nat) : Int := wrap64 (n : Int)
/-- A field that stands ahead, and what is left; or what is wrong. -/
def fld : List UInt8 → Except Int (S110 × List UInt8)
  | [] => .error 0
  | [c] => if c ≠ 78 ∧ c ≠ 84 then .error 3 else .error 11
  | c :: m :: t =>
    if c ≠ 78 ∧ c ≠ 84 then .error 3
    else if m.toNat > 8 then .error 3
    else if t.length < m.toNat then .error 11
    else if (t.take m.toNat).getLast? = some 0 then .error 3
    else if c = 78 then .ok (⟨false, i64 (unl (t.take m.toNat)), ⟨#[]⟩⟩, t.drop m.toNat)
    else if unl (t.take m.toNat) > 262144 then .error 3
    else if (t.drop m.toNat).length < unl (t.take m.toNat) then .error 11
    else .ok (⟨true, 0, ⟨((t.drop m.toNat).take (unl (t.take m.toNat))).toArray⟩⟩, (t.drop m.toNat).drop (unl (t.take m.toNat)))
def fldR (l : List UInt8) : Bool × Int × ByteArray × ByteArray × Int :=
  match fld l with
  | .error e => (false, 0, ⟨#[]⟩, ⟨#[]⟩, e)
  | .ok (x, r) => (x.f0, x.f1, x.f2, ⟨r.toArray⟩, 0)
theorem of_L {s : ByteArray} {l : List UInt8} (h : L s = l) : s = ⟨l.toArray⟩ := L_inj (by rw [h, L_mk])
theorem i64_range (u : Nat) (h : u < 18446744073709551616) : i64 u = if u < 9223372036854775808 then (u : Int) else (u : Int) - 18446744073709551616 := by
  unfold i64 wrap64; split <;> omega
theorem i64_small {u : Nat} (h : ¬ u > 262144) : i64 u = (u : Int) := by unfold i64; rw [wrap64_id (by omega) (by omega)]
theorem i64_big {u : Nat} (h : u > 262144) (h2 : u < 18446744073709551616) : i64 u < 0 ∨ i64 u > 262144 := by unfold i64 wrap64; omega
theorem u8_ofNat_eq (c : UInt8) (n : Nat) (hn : n < 256) : ((c.toNat : Int) = (n : Int)) ↔ c = UInt8.ofNat n := by
  constructor
  · intro h
    apply UInt8.toNat_inj.1
    rw [UInt8.toNat_ofNat']
    omega
  · rintro rfl
    rw [UInt8.toNat_ofNat']
    omega
theorem c78 (c : UInt8) : ((c.toNat : Int) = 78) ↔ c = 78 := u8_ofNat_eq c 78 (by omega)
theorem c84 (c : UInt8) : ((c.toNat : Int) = 84) ↔ c = 84 := u8_ofNat_eq c 84 (by omega)
theorem c0 (c : UInt8) : ((c.toNat : Int) = 0) ↔ c = 0 := u8_ofNat_eq c 0 (by omega)

theorem field_f (s : ByteArray) (hs : 0 < s.size) : Ev (fun k => code_field.f k s) (fldR (L s)) := by
  cases hL : L s with
  | nil => have := L_length s; rw [hL] at this; simp at this; omega
  | cons c l =>
    have hsz : s.size = l.length + 1 := by rw [← L_length, hL]; rfl
    have hc : bt s 0 = (c.toNat : Int) := by
      have := bt_L s 0 (by rw [hL]; simp)
      simpa [hL] using this
    by_cases hk : c ≠ 78 ∧ c ≠ 84
    · refine Ev.const fun k => ?_
      have hr : fldR (c :: l) = (false, 0, ⟨#[]⟩, ⟨#[]⟩, 3) := by cases l <;> simp [fldR, fld, hk]
      rw [hr]
      simp only [code_field.f]
      rw [if_neg (by omega), hc, if_pos ⟨fun h => hk.1 ((c78 c).1 h), fun h => hk.2 ((c84 c).1 h)⟩]
      rfl
    · have hk' : ¬ ((c.toNat : Int) ≠ 78 ∧ (c.toNat : Int) ≠ 84) := by rw [Ne, Ne, c78, c84]; exact hk
      cases l with
      | nil =>
        refine Ev.const fun k => ?_
        simp only [code_field.f]
        rw [if_neg (by omega), hc, if_neg hk', if_pos (by simp at hsz; omega)]
        simp [fldR, fld, hk, code_field.r]
      | cons m t =>
        have hm : bt s 1 = (m.toNat : Int) := by
          have := bt_L s 1 (by rw [hL]; simp)
          simpa [hL] using this
        have hm8 := m.toNat_lt
        simp only [List.length_cons] at hsz
        have hb : s.extract 2 s.size = ⟨t.toArray⟩ := of_L (by
          rw [L_extract, hL, hsz, List.take_of_length_le (by simp)]; rfl)
        have hbs : (⟨t.toArray⟩ : ByteArray).size = t.length := by rw [← L_length, L_mk]
        by_cases h1 : m.toNat > 8
        · refine Ev.const fun k => ?_
          simp only [code_field.f, code_field.s]
          rw [if_neg (by omega), hc, if_neg hk', if_neg (by omega), hm, if_pos (by omega)]
          simp only [fldR, fld, if_neg hk, if_pos h1]
          rfl
        by_cases h2 : t.length < m.toNat
        · refine Ev.const fun k => ?_
          simp only [code_field.f, code_field.s]
          rw [if_neg (by omega), hc, if_neg hk', if_neg (by omega), hm, if_neg (by omega), hb, hbs, if_pos (by omega)]
          simp only [fldR, fld, if_neg hk, if_neg h1, if_pos h2]
          rfl
        have hlast : ((m.toNat : Int) > 0 ∧ bt ⟨t.toArray⟩ ((m.toNat : Int) - 1) = 0) ↔ (t.take m.toNat).getLast? = some 0 := by
          rw [List.getLast?_eq_getElem?, List.length_take, Nat.min_eq_left (by omega)]
          constructor
          · rintro ⟨hp, hz⟩
            have hlt : m.toNat - 1 < t.length := by omega
            have := bt_L ⟨t.toArray⟩ (m.toNat - 1) (by rw [L_mk]; exact hlt)
            rw [show ((m.toNat - 1 : Nat) : Int) = (m.toNat : Int) - 1 by omega, hz] at this
            simp only [L_mk] at this
            rw [List.getElem?_take_of_lt (by omega), List.getElem?_eq_getElem hlt, (c0 _).1 this.symm]
          · intro h
            by_cases hp : m.toNat = 0
            · rw [hp] at h; simp at h
            have hlt : m.toNat - 1 < t.length := by omega
            rw [List.getElem?_take_of_lt (by omega), List.getElem?_eq_getElem hlt] at h
            injection h with h
            refine ⟨by omega, ?_⟩
            have := bt_L ⟨t.toArray⟩ (m.toNat - 1) (by rw [L_mk]; exact hlt)
            rw [show ((m.toNat - 1 : Nat) : Int) = (m.toNat : Int) - 1 by omega] at this
            rw [this]
            simp only [L_mk, h]
            rfl
        by_cases h3 : (t.take m.toNat).getLast? = some 0
        · refine Ev.const fun k => ?_
          simp only [code_field.f, code_field.s]
          rw [if_neg (by omega), hc, if_neg hk', if_neg (by omega), hm, if_neg (by omega), hb, hbs, if_neg (by omega), if_pos (hlast.2 h3)]
          simp only [fldR, fld, if_neg hk, if_neg h1, if_neg h2, if_pos h3]
          rfl
        have he1 : (⟨t.toArray⟩ : ByteArray).extract 0 m.toNat = ⟨(t.take m.toNat).toArray⟩ := of_L (by rw [L_extract, L_mk]; rfl)
        have he2 : (⟨t.toArray⟩ : ByteArray).extract m.toNat (⟨t.toArray⟩ : ByteArray).size = ⟨(t.drop m.toNat).toArray⟩ := of_L (by rw [L_extract, L_mk, hbs, List.take_length])
        have hu := unlow_f ⟨(t.take m.toNat).toArray⟩ (by rw [← L_length, L_mk, List.length_take]; omega)
        rw [L_mk] at hu
        obtain ⟨K, hu⟩ := hu
        dsimp only at hu
        have hlt := unl_lt (t.take m.toNat)
        have hlt2 : (256 : Nat) ^ (t.take m.toNat).length ≤ 256 ^ 8 := Nat.pow_le_pow_right (by omega) (by rw [List.length_take]; omega)
        have h64 : unl (t.take m.toNat) < 18446744073709551616 := Nat.lt_of_lt_of_le hlt (Nat.le_trans hlt2 (by decide))
        clear hlt hlt2
        have hbs2 : (⟨(t.drop m.toNat).toArray⟩ : ByteArray).size = (t.drop m.toNat).length := by rw [← L_length, L_mk]
        refine ⟨K, fun k hkk => ?_⟩
        simp only [code_field.f, code_field.s]
        rw [if_neg (by omega), hc, if_neg hk', if_neg (by omega), hm, if_neg (by omega), hb, hbs, if_neg (by omega), if_neg (fun h => h3 (hlast.1 h)), Int.toNat_natCast, he1, hu k hkk]
        simp only [Option.bind_some]
        rw [← hbs, he2]
        simp only [fldR, fld, if_neg hk, if_neg h1, if_neg h2, if_neg h3, code_field.t]
        by_cases h4 : c = 78
        · rw [if_pos ((c78 c).2 h4), if_pos h4]
          rfl
        rw [if_neg (fun h => h4 ((c78 c).1 h)), if_neg h4]
        change (if i64 _ < 0 then _ else if i64 _ > 262144 then _ else if _ < i64 _ then _ else some (true, 0, ByteArray.extract _ 0 (i64 _).toNat, ByteArray.extract _ (i64 _).toNat _, 0)) = _
        by_cases h5 : unl (t.take m.toNat) > 262144
        · rw [if_pos h5]
          by_cases h6 : i64 (unl (t.take m.toNat)) < 0
          · rw [if_pos h6]; rfl
          · rw [if_neg h6, if_pos ((i64_big h5 h64).resolve_left h6)]; rfl
        rw [if_neg h5]
        rw [i64_small h5, if_neg (by omega), if_neg (by omega), hbs2]
        by_cases h7 : (t.drop m.toNat).length < unl (t.take m.toNat)
        · rw [if_pos (by omega), if_pos h7]; rfl
        · rw [if_neg (by omega), if_neg h7, Int.toNat_natCast]
          have e1 : (⟨(t.drop m.toNat).toArray⟩ : ByteArray).extract 0 (unl (t.take m.toNat)) = ⟨((t.drop m.toNat).take (unl (t.take m.toNat))).toArray⟩ := of_L (by rw [L_extract, L_mk]; rfl)
          have e2 : (⟨(t.drop m.toNat).toArray⟩ : ByteArray).extract (unl (t.take m.toNat)) (t.drop m.toNat).length = ⟨((t.drop m.toNat).drop (unl (t.take m.toNat))).toArray⟩ := of_L (by rw [L_extract, L_mk, List.take_length])
          rw [e1, e2]
end Go.Proofs.Ytafmdlegelbfpaa.Fn
/-! What the functions of package code come to: there and back; Decode; Sum; the chapter's examples. -/
namespace Go.Proofs.Ytafmdlegelbfpaa.Fn
set_option linter.unusedVariables false
set_option linter.unusedSimpArgs false
open Go.RowKit Go.Proofs.YtafmdlegelbfpaaW.PrintWords Go.Proofs.Ytafmdlegelbfpaa.PAll Go.Proofs.Ytafmdlegelbfpaa.Bytes

/-- A field as a program can hold it: its number is an int64. -/
def wfS (x : S110) : Prop := -9223372036854775808 ≤ x.f1 ∧ x.f1 ≤ 9223372036854775807
theorem getLast?_append_take (m : Nat) (l r : List UInt8) (h : l.length = m) : ((l ++ r).take m) = l := by subst h; exact List.take_left
theorem i64_u64 {n : Int} (h0 : -9223372036854775808 ≤ n) (h1 : n ≤ 9223372036854775807) : i64 (u64 n) = n := by unfold i64 u64 wrap64; omega
theorem u64_i64 {n : Nat} (h : n < 18446744073709551616) : u64 (i64 n) = n := by unfold i64 u64 wrap64; omega
theorem digs_no_zero (n : Nat) : (digs n).getLast? ≠ some 0 := by
  rcases Nat.eq_zero_or_pos n with rfl | h
  · rw [digs_zero]; simp
  · exact fun e => digs_last n h 0 e rfl
theorem fld_num (c : UInt8) (hc : ¬ (c ≠ 78 ∧ c ≠ 84)) (n : Nat) (hn : n < 256 ^ 8) (r : List UInt8) :
    fld (c :: num n ++ r) = if c = 78 then .ok (⟨false, i64 n, ⟨#[]⟩⟩, r) else if n > 262144 then .error 3 else if r.length < n then .error 11 else .ok (⟨true, 0, ⟨(r.take n).toArray⟩⟩, r.drop n) := by
  have h8 := digs_length 8 n hn
  have hm : (UInt8.ofNat (digs n).length).toNat = (digs n).length := by rw [UInt8.toNat_ofNat']; omega
  show fld (c :: UInt8.ofNat (digs n).length :: (digs n ++ r)) = _
  have ht : (digs n ++ r).take (digs n).length = digs n := List.take_left
  have hd : (digs n ++ r).drop (digs n).length = r := List.drop_left
  simp only [fld, hm, ht, hd, unl_digs]
  rw [if_neg hc, if_neg (by omega), if_neg (by rw [List.length_append]; omega), if_neg (digs_no_zero n)]
/-- THERE. -/
theorem fld_one (x : S110) (hw : wfS x) (ho : ok x = true) (hs : x.f0 = true → x.f2.size ≤ 262144) (r : List UInt8) : fld (one x ++ r) = .ok (x, r) := by
  obtain ⟨b, n, s⟩ := x
  unfold one
  cases b with
  | true =>
    simp only [ok, if_true, beq_iff_eq] at ho
    have hs : s.size ≤ 262144 := hs rfl
    subst ho
    simp only [if_true]
    rw [List.append_assoc, fld_num 84 (by decide) _ (by omega), if_neg (by decide), if_neg (by omega), if_neg (by rw [List.length_append, L_length]; omega)]
    have h1 : (L s ++ r).take s.size = L s := by rw [← L_length]; exact List.take_left
    have h2 : (L s ++ r).drop s.size = r := by rw [← L_length]; exact List.drop_left
    rw [h1, h2]
    rfl
  | false =>
    simp only [ok, Bool.false_eq_true, if_false] at ho
    simp only [Bool.false_eq_true, if_false]
    rw [fld_num 78 (by decide) _ (u64_lt n), if_pos rfl, i64_u64 hw.1 hw.2]
    have : s = ⟨#[]⟩ := of_L (by simpa using ho)
    rw [this]
/-- AND BACK. -/
theorem fld_back {l : List UInt8} {x : S110} {r : List UInt8} (h : fld l = .ok (x, r)) : l = one x ++ r ∧ ok x = true ∧ wfS x ∧ (x.f0 = true → x.f2.size ≤ 262144) ∧ 0 < l.length := by
  match l, h with
  | [c], h => simp only [fld] at h; split at h <;> cases h
  | c :: m :: t, h =>
    simp only [fld] at h
    by_cases h1 : c ≠ 78 ∧ c ≠ 84
    · rw [if_pos h1] at h; cases h
    rw [if_neg h1] at h
    by_cases h2 : m.toNat > 8
    · rw [if_pos h2] at h; cases h
    rw [if_neg h2] at h
    by_cases h3 : t.length < m.toNat
    · rw [if_pos h3] at h; cases h
    rw [if_neg h3] at h
    by_cases h4 : (t.take m.toNat).getLast? = some 0
    · rw [if_pos h4] at h; cases h
    rw [if_neg h4] at h
    have hlen : (t.take m.toNat).length = m.toNat := by rw [List.length_take]; omega
    have hdig : digs (unl (t.take m.toNat)) = t.take m.toNat := digs_unl _ (fun y hy e => h4 (by rw [hy, e]))
    have hlt : unl (t.take m.toNat) < 256 ^ 8 := Nat.lt_of_lt_of_le (unl_lt _) (Nat.pow_le_pow_right (by omega) (by omega))
    have hnum : m :: t = num (unl (t.take m.toNat)) ++ t.drop m.toNat := by
      rw [num, hdig, hlen, List.cons_append, List.take_append_drop]
      congr 1
      simp
    have h64 : unl (t.take m.toNat) < 18446744073709551616 := Nat.lt_of_lt_of_le hlt (by decide)
    generalize unl (t.take m.toNat) = n at *
    generalize t.drop m.toNat = b at *
    by_cases h5 : c = 78
    · rw [if_pos h5] at h
      injection h with h
      injection h with hx hr
      subst hx hr h5
      refine ⟨?_, rfl, ⟨?_, ?_⟩, (fun e => by cases e), by simp⟩
      · rw [hnum, one, if_neg (show ¬ (false = true) by decide), u64_i64 h64]; rfl
      · show -9223372036854775808 ≤ i64 n
        unfold i64 wrap64; omega
      · show i64 n ≤ 9223372036854775807
        unfold i64 wrap64; omega
    rw [if_neg h5] at h
    by_cases h6 : n > 262144
    · rw [if_pos h6] at h; cases h
    rw [if_neg h6] at h
    by_cases h7 : b.length < n
    · rw [if_pos h7] at h; cases h
    rw [if_neg h7] at h
    injection h with h
    injection h with hx hr
    subst hx hr
    have h84 : c = 84 := Classical.not_not.1 (fun e => h1 ⟨h5, e⟩)
    have hsz : (⟨(b.take n).toArray⟩ : ByteArray).size = n := by rw [← L_length, L_mk, List.length_take]; omega
    refine ⟨?_, rfl, ⟨show -9223372036854775808 ≤ (0 : Int) by decide, show (0 : Int) ≤ 9223372036854775807 by decide⟩, (fun _ => by rw [hsz]; omega), by simp⟩
    rw [hnum, one, if_pos rfl, hsz, L_mk, h84, List.cons_append, List.cons_append, List.append_assoc, List.take_append_drop]
/-- An error's number is none of OK's. -/
theorem fld_err {l : List UInt8} (hl : 0 < l.length) {e : Int} (h : fld l = .error e) : e = 3 ∨ e = 11 := by
  match l, h with
  | [c], h => simp only [fld] at h; split at h <;> (injection h with h; subst h; simp)
  | c :: m :: t, h =>
    simp only [fld] at h
    repeat' split at h
    all_goals first | (injection h with h; subst h; simp; done) | cases h
end Go.Proofs.Ytafmdlegelbfpaa.Fn
/-! What the functions of package code come to: Decode; Sum; the chapter's examples. -/
namespace Go.Proofs.Ytafmdlegelbfpaa.Fn
set_option linter.unusedVariables false
set_option linter.unusedSimpArgs false
open Go.RowKit Go.Proofs.YtafmdlegelbfpaaW.PrintWords Go.Proofs.Ytafmdlegelbfpaa.PAll Go.Proofs.Ytafmdlegelbfpaa.Bytes

def dec (tot : Nat) : Nat → List S110 → List UInt8 → List S110 × Int × Int
  | _, acc, [] => (acc, 0, 0)
  | 0, acc, _ :: _ => (acc, 0, 0)
  | n + 1, acc, c :: l =>
    if acc.length = 4096 then ([], (tot : Int) - ((c :: l).length : Int), 2)
    else match fld (c :: l) with
      | .error e => ([], (tot : Int) - ((c :: l).length : Int), e)
      | .ok (x, r) => dec tot n (acc ++ [x]) r
/-- What Decode comes to. -/
def decode (b : ByteArray) : List S110 × Int × Int := if (L b).length > 262144 then ([], 0, 2) else dec (L b).length (L b).length [] (L b)
theorem fld_shorter {l : List UInt8} {x : S110} {r : List UInt8} (h : fld l = .ok (x, r)) : r.length < l.length := by
  have := fld_back h
  have h2 := one_length_pos x
  have := congrArg List.length this.1
  rw [List.length_append] at this
  omega

theorem decode_l0 (s : ByteArray) (hs : s.size ≤ 262144) : ∀ (n : Nat) (acc : List S110) (r : ByteArray), r.size ≤ n → r.size ≤ s.size → acc.length ≤ 4096 →
    Ev (fun k => code_Decode.l0 k s acc r) (dec s.size n acc (L r)) := by
  intro n
  induction n with
  | zero =>
    intro acc r hr _ _
    have hL : L r = [] := List.eq_nil_of_length_eq_zero (by rw [L_length]; omega)
    rw [hL]
    refine Ev.step (f := fun _ => some (acc, 0, 0)) (fun k => ?_) (Ev.now _)
    simp only [code_Decode.l0]
    rw [if_pos (by rw [toList_L, hL])]
  | succ n ih =>
    intro acc r hr hrs ha
    cases hL : L r with
    | nil =>
      refine Ev.step (f := fun _ => some (acc, 0, 0)) (fun k => ?_) (Ev.now _)
      simp only [code_Decode.l0]
      rw [if_pos (by rw [toList_L, hL])]
    | cons c l =>
      have hsz : r.size = (c :: l).length := by rw [← L_length, hL]
      have hpos : 0 < r.size := by rw [hsz]; simp
      have hw : wrap64 ((s.size : Int) - (r.size : Int)) = (s.size : Int) - ((c :: l).length : Int) := by rw [wrap64_id (by omega) (by omega), hsz]
      by_cases h4 : acc.length = 4096
      · refine Ev.step (f := fun _ => some (([] : List S110), (s.size : Int) - ((c :: l).length : Int), 2)) (fun k => ?_) (by simp only [dec]; rw [if_pos h4]; exact Ev.now _)
        simp only [code_Decode.l0]
        rw [if_neg (by rw [toList_L, hL]; simp), if_pos (by omega), hw]
      · obtain ⟨K1, h1⟩ := field_f r hpos
        rw [hL] at h1
        dsimp only at h1
        cases hf : fld (c :: l) with
        | error e =>
          have he := fld_err (by simp) hf
          refine ⟨K1 + 1, fun k hk => ?_⟩
          obtain ⟨k, rfl⟩ : ∃ m, k = m + 1 := ⟨k - 1, by omega⟩
          simp only [code_Decode.l0, dec]
          rw [if_neg (by rw [toList_L, hL]; simp), if_neg (by omega), h1 k (by omega), if_neg h4, hf, hw]
          simp only [fldR, hf, Option.bind_some]
          rw [if_neg (by omega)]
        | ok p =>
          obtain ⟨x, t⟩ := p
          have hsh := fld_shorter hf
          have hts : (⟨t.toArray⟩ : ByteArray).size = t.length := by rw [← L_length, L_mk]
          obtain ⟨K2, h2⟩ := ih (acc ++ [x]) ⟨t.toArray⟩ (by omega) (by omega) (by rw [List.length_append, List.length_singleton]; omega)
          rw [L_mk] at h2
          dsimp only at h2
          refine ⟨max K1 K2 + 1, fun k hk => ?_⟩
          obtain ⟨k, rfl⟩ : ∃ m, k = m + 1 := ⟨k - 1, by omega⟩
          simp only [code_Decode.l0, dec]
          rw [if_neg (by rw [toList_L, hL]; simp), if_neg (by omega), h1 k (by omega), if_neg h4, hf]
          simp only [fldR, hf, Option.bind_some]
          rw [if_pos trivial, if_pos (by omega)]
          exact h2 k (by omega)
theorem decode_f (b : ByteArray) : Ev (fun k => code_Decode.f k b) (decode b) := by
  unfold decode
  rw [L_length]
  by_cases h : b.size > 262144
  · rw [if_pos h]
    refine Ev.const fun k => ?_
    simp only [code_Decode.f]
    rw [if_pos (by omega)]
  · rw [if_neg h]
    obtain ⟨K, hk⟩ := decode_l0 b (by omega) b.size [] b (Nat.le_refl _) (Nat.le_refl _) (by simp)
    refine ⟨K, fun k hkk => ?_⟩
    simp only [code_Decode.f]
    rw [if_neg (by omega)]
    exact hk k hkk

/-- A list as Encode takes it, whole. -/
def fit (l : List S110) : Prop := ∀ x ∈ l, wfS x ∧ ok x = true ∧ (x.f0 = true → x.f2.size ≤ 262144)
theorem dec_enc (tot : Nat) : ∀ (l acc : List S110) (n : Nat), fit l → (enc l).length ≤ n → acc.length + l.length ≤ 4096 → dec tot n acc (enc l) = (acc ++ l, 0, 0) := by
  intro l
  induction l with
  | nil => intro acc n _ _ _; cases n <;> simp [enc, dec]
  | cons x l ih =>
    intro acc n hf hn ha
    have h2 := one_length_pos x
    rw [enc_cons, List.length_append] at hn
    rw [List.length_cons] at ha
    obtain ⟨n, rfl⟩ : ∃ m, n = m + 1 := ⟨n - 1, by omega⟩
    have hx := hf x (by simp)
    have hff := fld_one x hx.1 hx.2.1 hx.2.2 (enc l)
    rw [enc_cons]
    cases ho : one x with
    | nil => rw [ho] at h2; simp at h2
    | cons c t =>
      rw [ho] at hff hn
      rw [List.cons_append] at hff ⊢
      simp only [dec]
      rw [if_neg (by omega), hff]
      simp only []
      rw [ih (acc ++ [x]) n (fun y hy => hf y (by simp [hy])) (by rw [List.length_cons] at hn; omega) (by rw [List.length_append, List.length_singleton]; omega), List.append_assoc]
      rfl
theorem dec_back (tot : Nat) : ∀ (n : Nat) (acc : List S110) (l : List UInt8) (out : List S110) (a : Int), l.length ≤ n → acc.length ≤ 4096 → dec tot n acc l = (out, a, 0) →
    a = 0 ∧ ∃ m, out = acc ++ m ∧ l = enc m ∧ fit m ∧ out.length ≤ 4096 := by
  intro n
  induction n with
  | zero =>
    intro acc l out a hl ha h
    obtain rfl : l = [] := List.eq_nil_of_length_eq_zero (by omega)
    simp only [dec, Prod.mk.injEq] at h
    obtain ⟨rfl, rfl, _⟩ := h
    exact ⟨rfl, [], by simp, rfl, (by intro x hx; cases hx), ha⟩
  | succ n ih =>
    intro acc l out a hl ha h
    cases l with
    | nil =>
      simp only [dec, Prod.mk.injEq] at h
      obtain ⟨rfl, rfl, _⟩ := h
      exact ⟨rfl, [], by simp, rfl, (by intro x hx; cases hx), ha⟩
    | cons c l =>
      simp only [dec] at h
      by_cases h4 : acc.length = 4096
      · rw [if_pos h4] at h
        simp at h
      rw [if_neg h4] at h
      cases hf : fld (c :: l) with
      | error e =>
        have he := fld_err (by simp) hf
        rw [hf] at h
        simp only [Prod.mk.injEq] at h
        omega
      | ok p =>
        obtain ⟨x, r⟩ := p
        rw [hf] at h
        simp only [] at h
        have hb := fld_back hf
        have hsh := fld_shorter hf
        rw [List.length_cons] at hl hsh
        obtain ⟨ha0, m, hm, hr, hfit, hlen⟩ := ih (acc ++ [x]) r out a (by omega) (by rw [List.length_append, List.length_singleton]; omega) h
        refine ⟨ha0, x :: m, by rw [hm]; simp, by rw [hb.1, enc_cons, hr], ?_, hlen⟩
        intro y hy
        rcases List.mem_cons.1 hy with rfl | hy
        · exact ⟨hb.2.2.1, hb.2.1, hb.2.2.2.1⟩
        · exact hfit y hy
/-- Beside an error nothing is told. -/
theorem dec_err (tot : Nat) : ∀ (n : Nat) (acc : List S110) (l : List UInt8), l.length ≤ n → (dec tot n acc l).2.2 ≠ 0 → (dec tot n acc l).1 = [] := by
  intro n
  induction n with
  | zero =>
    intro acc l hl h
    obtain rfl : l = [] := List.eq_nil_of_length_eq_zero (by omega)
    simp [dec] at h
  | succ n ih =>
    intro acc l hl h
    cases l with
    | nil => simp [dec] at h
    | cons c l =>
      simp only [dec] at h ⊢
      by_cases h4 : acc.length = 4096
      · rw [if_pos h4]
      rw [if_neg h4] at h ⊢
      cases hf : fld (c :: l) with
      | error e => rfl
      | ok p =>
        obtain ⟨x, r⟩ := p
        rw [hf] at h
        have hsh := fld_shorter hf
        rw [List.length_cons] at hl hsh
        exact ih _ _ (by omega) h
/-- A place is told beside an error alone. -/
theorem dec_at (tot : Nat) : ∀ (n : Nat) (acc : List S110) (l : List UInt8), l.length ≤ n → (dec tot n acc l).2.2 = 0 → (dec tot n acc l).2.1 = 0 := by
  intro n
  induction n with
  | zero =>
    intro acc l hl h
    obtain rfl : l = [] := List.eq_nil_of_length_eq_zero (by omega)
    simp [dec]
  | succ n ih =>
    intro acc l hl h
    cases l with
    | nil => simp [dec]
    | cons c l =>
      simp only [dec] at h ⊢
      by_cases h4 : acc.length = 4096
      · rw [if_pos h4] at h
        simp at h
      rw [if_neg h4] at h ⊢
      cases hf : fld (c :: l) with
      | error e =>
        rw [hf] at h
        have he := fld_err (by simp) hf
        simp only at h
        omega
      | ok p =>
        obtain ⟨x, r⟩ := p
        rw [hf] at h
        have hsh := fld_shorter hf
        rw [List.length_cons] at hl hsh
        exact ih _ _ (by omega) h

/-! Sum -/
theorem digs_ex (l : List UInt8) (n : Nat) (h : unl l = n) (hl : l.getLast? ≠ some 0) : digs n = l := by rw [← h]; exact digs_unl l (fun x hx e => hl (by rw [hx, e]))
end Go.Proofs.Ytafmdlegelbfpaa.Fn
/-! Lists of fields that came in. -/
namespace Go.Proofs.Ytafmdlegelbfpaa.Fn
set_option linter.unusedVariables false
set_option linter.unusedSimpArgs false
open Go Go.RowKit Go.Proofs.YtafmdlegelbfpaaW.PrintWords Go.Proofs.Ytafmdlegelbfpaa.PAll Go.Proofs.Ytafmdlegelbfpaa.Bytes

theorem wf_i64 {x : Int} (h : (Lit.int .i64 x).wf = true) : -9223372036854775808 ≤ x ∧ x ≤ 9223372036854775807 := by
  simp [Lit.wf, IntKind.min, IntKind.max, IntKind.signed, IntKind.bits] at h
  omega
def Wide (xs : List S110) : Prop := ∀ x ∈ xs, wfS x ∧ x.f2.size ≤ 140737488351232
end Go.Proofs.Ytafmdlegelbfpaa.Fn
/-! CodeBack: what it computes is true. -/
namespace Go.Proofs.Ytafmdlegelbfpaa.Pure
set_option linter.unusedVariables false
set_option linter.unusedSimpArgs false
open Go Go.RowKit Go.Proofs.Ytafmdlegelbfpaa.PAll Go.Proofs.YtafmdlegelbfpaaW.PrintWords Go.Proofs.YtafmdlegelbfpaaW.PrintLast Go.Proofs.Ytafmdlegelbfpaa.Bytes Go.Proofs.Ytafmdlegelbfpaa.Fn

theorem one_le_enc {x : S110} : ∀ {l : List S110}, x ∈ l → (one x).length ≤ (enc l).length
  | y :: l, h => by
    rw [enc_cons, List.length_append]
    rcases List.mem_cons.1 h with rfl | h
    · omega
    · have := one_le_enc h; omega
theorem text_le_one {x : S110} (h : x.f0 = true) : x.f2.size ≤ (one x).length := by
  unfold one
  rw [if_pos h]
  simp [L_length]
  omega
theorem fit_of {l : List S110} (hw : Wide l) (h : (encode l).2 = 0) : fit l := by
  obtain ⟨h1, h2, h3, _⟩ := encode_ok h
  intro x hx
  refine ⟨(hw x hx).1, List.all_eq_true.1 h2 x hx, fun h0 => ?_⟩
  have a := text_le_one h0
  have b := one_le_enc hx
  omega
theorem fit_append {a b : List S110} (ha : fit a) (hb : fit b) : fit (a ++ b) := by
  intro x hx
  rcases List.mem_append.1 hx with h | h
  · exact ha x h
  · exact hb x h
theorem encode_fit {l : List S110} (hf : fit l) (hl : l.length ≤ 4096) (he : (enc l).length ≤ 262144) : encode l = (strOfNums (I (enc l)), 0) := by
  unfold encode
  rw [if_neg (by omega), if_neg (by rw [List.all_eq_true.2 (fun x hx => (hf x hx).2.1)]; decide), if_neg (by omega)]
theorem decode_enc {l : List S110} (hf : fit l) (hl : l.length ≤ 4096) (he : (enc l).length ≤ 262144) (s : ByteArray) (hs : L s = enc l) : Fn.decode s = (l, 0, 0) := by
  unfold Fn.decode
  rw [hs, if_neg (by omega), dec_enc _ l [] _ hf (Nat.le_refl _) (by simpa using hl)]
  rfl
theorem decode_back {b : ByteArray} {x : List S110} {a : Int} (h : Fn.decode b = (x, a, 0)) : a = 0 ∧ L b = enc x ∧ fit x ∧ x.length ≤ 4096 ∧ (enc x).length ≤ 262144 := by
  unfold Fn.decode at h
  split at h
  · cases h
  · rename_i hb
    obtain ⟨h1, m, h2, h3, h4, h5⟩ := dec_back _ _ _ _ _ _ (Nat.le_refl _) (by simp) h
    rw [List.nil_append] at h2
    subst h2
    exact ⟨h1, h3, h4, h5, by rw [← h3]; omega⟩
theorem decode_err {b : ByteArray} (h : (Fn.decode b).2.2 ≠ 0) : (Fn.decode b).1 = [] := by
  unfold Fn.decode at h ⊢
  split
  · rfl
  · rename_i hb
    rw [if_neg hb] at h
    exact dec_err _ _ _ _ (Nat.le_refl _) h
theorem decode_at {b : ByteArray} (h : (Fn.decode b).2.2 = 0) : (Fn.decode b).2.1 = 0 := by
  unfold Fn.decode at h ⊢
  split
  · rfl
  · rename_i hb
    rw [if_neg hb] at h
    exact dec_at _ _ _ _ (Nat.le_refl _) h
theorem wide_of_fit {l : List S110} (hf : fit l) (he : (enc l).length ≤ 262144) : ∀ x ∈ l, x.f2.size ≤ 140737488351232 := by
  intro x hx
  obtain ⟨_, h2, h3⟩ := hf x hx
  by_cases h0 : x.f0 = true
  · have := h3 h0; omega
  · simp only [ok, h0] at h2
    have : L x.f2 = [] := by simpa using h2
    rw [← L_length, this]
    simp
end Go.Proofs.Ytafmdlegelbfpaa.Pure
/-! What came in, opened: as the print's kinds have it. -/
namespace Go.Proofs.Ytafmdlegelbfpaa.Shape
open Go Go.RowKit Go.Proofs.YtafmdlegelbfpaaW.PrintWords Go.Proofs.YtafmdlegelbfpaaW.PrintLast
set_option linter.unusedVariables false
set_option linter.unusedSimpArgs false
theorem rows_list {α : Type} {R : List Value → Prop} {K : α → List Value → Prop} {D : α → Prop} (hmk : ∀ r, R r → ∃ x, K x r ∧ D x) : ∀ (rows : List (List Value)), (∀ r ∈ rows, R r) →
    ∃ xs : List α, xs.length = rows.length ∧ (∀ (j : Nat) (r : List Value) (x : α), rows[j]? = some r → xs[j]? = some x → K x r) ∧ ∀ x ∈ xs, D x
  | [], _ => ⟨[], rfl, fun j r x h => by simp at h, fun x hx => by cases hx⟩
  | r :: rows, h => by
    obtain ⟨x, hk, hd⟩ := hmk r (h r List.mem_cons_self)
    obtain ⟨xs, hl, hx, hD⟩ := rows_list hmk rows (fun r' hr' => h r' (List.mem_cons_of_mem _ hr'))
    refine ⟨x :: xs, by simp [hl], fun j r' x' hr hx' => ?_, fun x' hx' => ?_⟩
    · cases j with
      | zero => simp at hr hx'; subst hr hx'; exact hk
      | succ j => exact hx j r' x' (by simpa using hr) (by simpa using hx')
    · rcases List.mem_cons.1 hx' with rfl | hx'
      · exact hd
      · exact hD x' hx'
theorem rows_C {α : Type} (d : Kd α) {P : Program} {w : World} {e : TypeId} {ks : List SK} {v : Value} (hd : d.sz = ks.length) (D : α → Prop) (hmk : ∀ r, SK.oks P w ks r → ∃ x, d.K w x r ∧ D x) (h : SK.ok P w (.row e ks) v) :
    ∃ (A : Option Addr) (c : Nat) (xs : List α), v = .slice A xs.length c ∧ xs.length ≤ c ∧ d.C w A xs.length xs ∧ xs.length * P.bytesOf e ≤ 140737488351232 ∧ ∀ x ∈ xs, D x := by
  simp only [SK.ok] at h
  obtain ⟨A, len, cap, rows, rfl, hl, hm, hb, hlen, hcell, hr⟩ := h
  obtain ⟨xs, hxl, hx, hD⟩ := rows_list hmk rows hr
  have e1 : xs.length = len := hxl.trans hlen
  subst e1
  refine ⟨A, cap, xs, rfl, hl, ⟨rfl, by unfold maxLen at hm; omega, fun h0 => ?_⟩, hb, hD⟩
  obtain ⟨a, hA, hc⟩ := hcell h0
  refine ⟨a, hA, fun j p hp => ?_⟩
  have hj : j < rows.length := by rw [← hxl]; exact (List.getElem?_eq_some_iff.1 hp).1
  have hrj : rows[j]? = some rows[j] := List.getElem?_eq_getElem hj
  refine ⟨rows[j], ?_, hx j _ p hrj hp, fun i u hu => ?_⟩
  · rw [hd]
    exact oks_len (hr _ (List.getElem_mem hj))
  · rw [hd]
    exact hc j _ hrj i u hu
theorem oks_cons {P : Program} {w : World} {k : SK} {ks : List SK} {vs : List Value} (h : SK.oks P w (k :: ks) vs) : ∃ v vs', vs = v :: vs' ∧ SK.ok P w k v ∧ SK.oks P w ks vs' := by
  cases vs with
  | nil => simp [SK.oks] at h
  | cons v vs => simp only [SK.oks] at h; exact ⟨v, vs, rfl, h.1, h.2⟩
theorem oks_nil {P : Program} {w : World} {vs : List Value} (h : SK.oks P w [] vs) : vs = [] := by
  cases vs with
  | nil => rfl
  | cons v vs => simp [SK.oks] at h
theorem ok_int {P : Program} {w : World} {k : IntKind} {v : Value} (h : SK.ok P w (.int k) v) : ∃ x : Int, v = .int k x ∧ (Lit.int k x).wf = true := by simpa only [SK.ok] using h
theorem ok_bool {P : Program} {w : World} {v : Value} (h : SK.ok P w .bool v) : ∃ b : Bool, v = .bool b := by simpa only [SK.ok] using h
theorem ok_str {P : Program} {w : World} {v : Value} (h : SK.ok P w .str v) : ∃ s : ByteArray, v = .string s ∧ s.size ≤ 140737488351232 := by simpa only [SK.ok] using h
end Go.Proofs.Ytafmdlegelbfpaa.Shape
/-! Lists of operations that came in. -/
namespace Go.Proofs.Ytafmdlegelbfpaa.Pure
set_option linter.unusedVariables false
set_option linter.unusedSimpArgs false
open Go Go.RowKit Go.Proofs.Ytafmdlegelbfpaa.PAll Go.Proofs.YtafmdlegelbfpaaW.PrintWords Go.Proofs.YtafmdlegelbfpaaW.PrintLast Go.Proofs.Ytafmdlegelbfpaa.Bytes Go.Proofs.Ytafmdlegelbfpaa.Fn
def toOp : List Value → S27
  | [.int _ a, .string b, .string c, .int _ d, .int _ e, .int _ f] => ⟨a, b, c, d, e, f⟩
  | _ => ⟨0, ⟨#[]⟩, ⟨#[]⟩, 0, 0, 0⟩
def In64 (x : Int) : Prop := -9223372036854775808 ≤ x ∧ x ≤ 9223372036854775807
/-- Operations as any list has them. -/
def WideOp (x : S27) : Prop := In64 x.f0 ∧ x.f1.size ≤ 140737488351232 ∧ x.f2.size ≤ 140737488351232 ∧ In64 x.f3 ∧ In64 x.f4 ∧ In64 x.f5
def opKs : List Open.FK := [.int .i64, .str, .str, .int .i64, .int .i64, .int .i64]
theorem rowOp {r : List Value} (h : Open.RowK [.int .i64, .str, .str, .int .i64, .int .i64, .int .i64] r) : r = [.int .i64 (toOp r).f0, .string (toOp r).f1, .string (toOp r).f2, .int .i64 (toOp r).f3, .int .i64 (toOp r).f4, .int .i64 (toOp r).f5] ∧ WideOp (toOp r) := by
  obtain ⟨hl, hk⟩ := h
  match r, hl with
  | [x, y, z, u, v, t], _ =>
    obtain ⟨a, rfl, ha⟩ := hk 0 _ _ rfl rfl
    obtain ⟨b, rfl, hb⟩ := hk 1 _ _ rfl rfl
    obtain ⟨c, rfl, hc⟩ := hk 2 _ _ rfl rfl
    obtain ⟨d, rfl, hd⟩ := hk 3 _ _ rfl rfl
    obtain ⟨e, rfl, he⟩ := hk 4 _ _ rfl rfl
    obtain ⟨f, rfl, hf⟩ := hk 5 _ _ rfl rfl
    exact ⟨rfl, wf_i64 ha, hb, hc, wf_i64 hd, wf_i64 he, wf_i64 hf⟩
theorem ops_of {w : World} {A : Option Addr} {len cap : Nat} {rows : List (List Value)} (h : Open.Rows w [.int .i64, .str, .str, .int .i64, .int .i64, .int .i64] A len cap rows) :
    ∃ xs : List S27, xs.length = len ∧ Kd.C k27 w A xs.length xs ∧ xs.length ≤ cap ∧ ∀ x ∈ xs, WideOp x := by
  obtain ⟨hl, hc, hm, hr, hcell⟩ := h
  have hmx : len ≤ 9223372036854775807 := by unfold maxLen at hm; omega
  refine ⟨rows.map toOp, by simp [hl], ⟨rfl, by simp only [List.length_map]; omega, fun h0 => ?_⟩, by simp only [List.length_map]; omega, fun x hx => ?_⟩
  · simp only [List.length_map] at h0
    obtain ⟨a, hA, hv⟩ := hcell (by omega)
    refine ⟨a, hA, fun j p hp => ?_⟩
    rw [List.getElem?_map] at hp
    obtain ⟨r, hr0, rfl⟩ := Option.map_eq_some_iff.1 hp
    obtain ⟨e, _⟩ := rowOp (hr r (List.mem_of_getElem? hr0))
    refine ⟨_, rfl, k27_mk w (toOp r), fun i u hu => ?_⟩
    rw [← e] at hu
    exact hv j r hr0 i u hu
  · obtain ⟨r, hr0, rfl⟩ := List.mem_map.1 hx
    exact (rowOp (hr r hr0)).2
end Go.Proofs.Ytafmdlegelbfpaa.Pure
/-! Operations, requests, replies that came in. -/
namespace Go.Proofs.Ytafmdlegelbfpaa.Pure
set_option linter.unusedVariables false
set_option linter.unusedSimpArgs false
open Go Go.RowKit Go.Proofs.Ytafmdlegelbfpaa.PAll Go.Proofs.YtafmdlegelbfpaaW.PrintWords Go.Proofs.YtafmdlegelbfpaaW.PrintLast Go.Proofs.Ytafmdlegelbfpaa.Bytes Go.Proofs.Ytafmdlegelbfpaa.Fn Go.Proofs.Ytafmdlegelbfpaa.Shape
abbrev opSK : List SK := [.int .i64, .str, .str, .int .i64, .int .i64, .int .i64]
abbrev reqSK : List SK := [.int .i64, .int .i64, .row 27 opSK]
abbrev rowSK : List SK := [.str, .int .i64, .str]
abbrev resSK : List SK := [.int .i64, .int .i64, .str, .row 101 rowSK]
abbrev repSK : List SK := [.int .i64, .int .i64, .row 99 resSK, .int .i64, .int .i64]
section
variable {P : Program} {w : World}
theorem open_op {vs : List Value} (h : SK.oks P w opSK vs) : ∃ x : S27, vs = [.int .i64 x.f0, .string x.f1, .string x.f2, .int .i64 x.f3, .int .i64 x.f4, .int .i64 x.f5] ∧ WideOp x := by
  obtain ⟨_, _, rfl, h0, h⟩ := oks_cons h
  obtain ⟨_, _, rfl, h1, h⟩ := oks_cons h
  obtain ⟨_, _, rfl, h2, h⟩ := oks_cons h
  obtain ⟨_, _, rfl, h3, h⟩ := oks_cons h
  obtain ⟨_, _, rfl, h4, h⟩ := oks_cons h
  obtain ⟨_, _, rfl, h5, h⟩ := oks_cons h
  obtain rfl := oks_nil h
  obtain ⟨a, rfl, ha⟩ := ok_int h0
  obtain ⟨b, rfl, hb⟩ := ok_str h1
  obtain ⟨c, rfl, hc⟩ := ok_str h2
  obtain ⟨d, rfl, hd⟩ := ok_int h3
  obtain ⟨e, rfl, he⟩ := ok_int h4
  obtain ⟨f, rfl, hf⟩ := ok_int h5
  exact ⟨⟨a, b, c, d, e, f⟩, rfl, wf_i64 ha, hb, hc, wf_i64 hd, wf_i64 he, wf_i64 hf⟩
theorem open_ops {v : Value} (h : SK.ok P w (.row 27 opSK) v) :
    ∃ (A : Option Addr) (c : Nat) (l : List S27), v = .slice A l.length c ∧ l.length ≤ c ∧ Kd.C k27 w A l.length l ∧ l.length * P.bytesOf 27 ≤ 140737488351232 ∧ ∀ x ∈ l, WideOp x :=
  rows_C k27 rfl WideOp (fun r hr => by
    obtain ⟨x, rfl, hw⟩ := open_op hr
    exact ⟨x, k27_mk w x, hw⟩) h
theorem open_req {vs : List Value} (h : SK.oks P w reqSK vs) :
    ∃ (a b : Int) (A : Option Addr) (c : Nat) (l : List S27), vs = [.int .i64 a, .int .i64 b, .slice A l.length c] ∧ In64 a ∧ In64 b ∧ l.length ≤ c ∧ Kd.C k27 w A l.length l ∧ l.length * P.bytesOf 27 ≤ 140737488351232 ∧ ∀ x ∈ l, WideOp x := by
  obtain ⟨_, _, rfl, h0, h⟩ := oks_cons h
  obtain ⟨_, _, rfl, h1, h⟩ := oks_cons h
  obtain ⟨_, _, rfl, h2, h⟩ := oks_cons h
  obtain rfl := oks_nil h
  obtain ⟨a, rfl, ha⟩ := ok_int h0
  obtain ⟨b, rfl, hb⟩ := ok_int h1
  obtain ⟨A, c, l, rfl, h3, h4, h5, h6⟩ := open_ops h2
  exact ⟨a, b, A, c, l, rfl, wf_i64 ha, wf_i64 hb, h3, h4, h5, h6⟩
/-- Rows, results as any list has them. -/
def WideRow (x : S101) : Prop := x.f0.size ≤ 140737488351232 ∧ In64 x.f1 ∧ x.f2.size ≤ 140737488351232
def WideRes (x : S99) : Prop := In64 x.f0 ∧ In64 x.f1 ∧ x.f2.size ≤ 140737488351232 ∧ (∀ y ∈ x.f3, WideRow y) ∧ x.f3.length ≤ 140737488351232
theorem open_row {vs : List Value} (h : SK.oks P w rowSK vs) : ∃ x : S101, vs = [.string x.f0, .int .i64 x.f1, .string x.f2] ∧ WideRow x := by
  obtain ⟨_, _, rfl, h0, h⟩ := oks_cons h
  obtain ⟨_, _, rfl, h1, h⟩ := oks_cons h
  obtain ⟨_, _, rfl, h2, h⟩ := oks_cons h
  obtain rfl := oks_nil h
  obtain ⟨a, rfl, ha⟩ := ok_str h0
  obtain ⟨b, rfl, hb⟩ := ok_int h1
  obtain ⟨c, rfl, hc⟩ := ok_str h2
  exact ⟨⟨a, b, c⟩, rfl, ha, wf_i64 hb, hc⟩
theorem open_rows {v : Value} (h : SK.ok P w (.row 101 rowSK) v) :
    ∃ (A : Option Addr) (c : Nat) (l : List S101), v = .slice A l.length c ∧ l.length ≤ c ∧ Kd.C k101 w A l.length l ∧ l.length * P.bytesOf 101 ≤ 140737488351232 ∧ ∀ x ∈ l, WideRow x :=
  rows_C k101 rfl WideRow (fun r hr => by
    obtain ⟨x, rfl, hw⟩ := open_row hr
    exact ⟨x, k101_mk w x, hw⟩) h
theorem open_res (hb0 : 0 < P.bytesOf 101) {vs : List Value} (h : SK.oks P w resSK vs) : ∃ x : S99, k99.K w x vs ∧ WideRes x := by
  obtain ⟨_, _, rfl, h0, h⟩ := oks_cons h
  obtain ⟨_, _, rfl, h1, h⟩ := oks_cons h
  obtain ⟨_, _, rfl, h2, h⟩ := oks_cons h
  obtain ⟨_, _, rfl, h3, h⟩ := oks_cons h
  obtain rfl := oks_nil h
  obtain ⟨a, rfl, ha⟩ := ok_int h0
  obtain ⟨b, rfl, hb⟩ := ok_int h1
  obtain ⟨c, rfl, hc⟩ := ok_str h2
  obtain ⟨A, k, l, rfl, h4, h5, h6, h7⟩ := open_rows h3
  exact ⟨⟨a, b, c, l⟩, k99_mk w ⟨a, b, c, l⟩ h4 h5, wf_i64 ha, wf_i64 hb, hc, h7, Nat.le_trans (Nat.le_mul_of_pos_right _ hb0) h6⟩
theorem open_ress (hb0 : 0 < P.bytesOf 101) {v : Value} (h : SK.ok P w (.row 99 resSK) v) :
    ∃ (A : Option Addr) (c : Nat) (l : List S99), v = .slice A l.length c ∧ l.length ≤ c ∧ Kd.C k99 w A l.length l ∧ l.length * P.bytesOf 99 ≤ 140737488351232 ∧ ∀ x ∈ l, WideRes x :=
  rows_C k99 rfl WideRes (fun r hr => open_res hb0 hr) h
theorem open_rep (hb0 : 0 < P.bytesOf 101) {vs : List Value} (h : SK.oks P w repSK vs) :
    ∃ (a b : Int) (A : Option Addr) (c : Nat) (l : List S99) (d e : Int), vs = [.int .i64 a, .int .i64 b, .slice A l.length c, .int .i64 d, .int .i64 e] ∧ (In64 a ∧ In64 b ∧ In64 d ∧ In64 e) ∧ l.length ≤ c ∧ Kd.C k99 w A l.length l ∧ l.length * P.bytesOf 99 ≤ 140737488351232 ∧ ∀ x ∈ l, WideRes x := by
  obtain ⟨_, _, rfl, h0, h⟩ := oks_cons h
  obtain ⟨_, _, rfl, h1, h⟩ := oks_cons h
  obtain ⟨_, _, rfl, h2, h⟩ := oks_cons h
  obtain ⟨_, _, rfl, h8, h⟩ := oks_cons h
  obtain ⟨_, _, rfl, h9, h⟩ := oks_cons h
  obtain rfl := oks_nil h
  obtain ⟨a, rfl, ha⟩ := ok_int h0
  obtain ⟨b, rfl, hb⟩ := ok_int h1
  obtain ⟨d, rfl, hd⟩ := ok_int h8
  obtain ⟨e, rfl, he⟩ := ok_int h9
  obtain ⟨A, c, l, rfl, h3, h4, h5, h6⟩ := open_ress hb0 h2
  exact ⟨a, b, A, c, l, d, e, rfl, ⟨wf_i64 ha, wf_i64 hb, wf_i64 hd, wf_i64 he⟩, h3, h4, h5, h6⟩
end
end Go.Proofs.Ytafmdlegelbfpaa.Pure
