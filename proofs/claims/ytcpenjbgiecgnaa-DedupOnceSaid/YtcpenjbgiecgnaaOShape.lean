import Derived.Test.YtcpenjbgiecgnaaOpen
/-! What came in, opened: values of any shape of whole numbers, bools, texts and slices, in structs, in structs. -/
namespace Go.Proofs.Ytcpenjbgiecgnaa.Shape
open Go Go.ChangeShapes Go.WideShapes Go.ChangeAt Go.RowKit Go.Deep
set_option linter.unusedVariables false
set_option linter.unusedSimpArgs false

/-- A cell's shape. -/
inductive SK where
  | int (k : IntKind)
  | bool
  | str
  | row (e : TypeId) (ks : List SK)
mutual
def SK.same : SK → SK → Bool
  | .int k, .int j => decide (k = j)
  | .bool, .bool => true
  | .str, .str => true
  | .row e ks, .row f js => decide (e = f) && SK.sames ks js
  | _, _ => false
def SK.sames : List SK → List SK → Bool
  | [], [] => true
  | k :: ks, j :: js => SK.same k j && SK.sames ks js
  | _, _ => false
end
mutual
/-- What a cell of this shape holds. -/
def SK.ok (P : Program) (w : World) : SK → Value → Prop
  | .int k, v => ∃ x : Int, v = .int k x ∧ (Lit.int k x).wf = true
  | .bool, v => ∃ b : Bool, v = .bool b
  | .str, v => ∃ s : ByteArray, v = .string s ∧ s.size ≤ 140737488351232
  | .row e ks, v => ∃ (A : Option Addr) (len cap : Nat) (rows : List (List Value)), v = .slice A len cap ∧ len ≤ cap ∧ cap ≤ maxLen ∧ len * P.bytesOf e ≤ 140737488351232 ∧ rows.length = len ∧
      (0 < len → ∃ a, A = some a ∧ ∀ (j : Nat) (r : List Value), rows[j]? = some r → ∀ (i : Nat) (u : Value), r[i]? = some u → w.cell? (a.add (j * ks.length + i)) = some u) ∧ (A = none → cap = 0) ∧ ∀ r ∈ rows, SK.oks P w ks r
def SK.oks (P : Program) (w : World) : List SK → List Value → Prop
  | [], [] => True
  | k :: ks, v :: vs => SK.ok P w k v ∧ SK.oks P w ks vs
  | _, _ => False
end
theorem oks_len {P : Program} {w : World} : ∀ {ks : List SK} {vs : List Value}, SK.oks P w ks vs → vs.length = ks.length
  | [], [], _ => rfl
  | k :: ks, v :: vs, h => by simp only [SK.oks] at h; simp [oks_len h.2]
  | [], _ :: _, h => by simp [SK.oks] at h
  | _ :: _, [], h => by simp [SK.oks] at h
theorem oks_at {P : Program} {w : World} : ∀ {ks : List SK} {vs : List Value} (j : Nat) (k : SK) (v : Value), SK.oks P w ks vs → ks[j]? = some k → vs[j]? = some v → SK.ok P w k v
  | k :: ks, v :: vs, 0, _, _, h, hk, hv => by
    simp only [SK.oks] at h
    simp at hk hv
    subst hk hv
    exact h.1
  | k :: ks, v :: vs, j + 1, k', v', h, hk, hv => by
    simp only [SK.oks] at h
    exact oks_at j k' v' h.2 (by simpa using hk) (by simpa using hv)
  | [], _, j, k, v, _, hk, _ => by simp at hk
  | _ :: _, [], j, k, v, h, _, _ => by simp [SK.oks] at h
theorem oks_mk {P : Program} {w : World} : ∀ {ks : List SK} {vs : List Value}, vs.length = ks.length → (∀ (j : Nat) (k : SK) (v : Value), ks[j]? = some k → vs[j]? = some v → SK.ok P w k v) → SK.oks P w ks vs
  | [], [], _, _ => by simp [SK.oks]
  | k :: ks, v :: vs, hl, h => by
    simp only [SK.oks]
    exact ⟨h 0 k v rfl rfl, oks_mk (by simpa using hl) (fun j k' v' hk hv => h (j + 1) k' v' (by simpa using hk) (by simpa using hv))⟩
  | [], _ :: _, hl, _ => by simp at hl
  | _ :: _, [], hl, _ => by simp at hl
/-- Are a type's cells of these shapes? -/
def shOk (P : Program) : Nat → TypeId → List SK → Bool
  | 0, _, _ => false
  | n + 1, t, ks =>
    match P.underlying t with
    | some (.int i) => match ks with
      | [.int k] => decide (i = k)
      | _ => false
    | some .bool => match ks with
      | [.bool] => true
      | _ => false
    | some .string => match ks with
      | [.str] => true
      | _ => false
    | some (.slice e) => match ks with
      | [.row f js] => decide (e = f) && decide (P.cellsOf e = js.length) && shOk P n e js
      | _ => false
    | some (.struct fs) => decide (P.cellsOf t = ks.length) && (fs.toList.all fun f => shOk P n f.type ((ks.drop f.offset).take (P.cellsOf f.type))) &&
        (List.range ks.length).all fun i => fs.toList.any fun f => decide (f.offset ≤ i ∧ i < f.offset + P.cellsOf f.type)
    | _ => false
section
variable {H : Type} {enc : TypeId × Value → H} {P : Program} {w : World} {base : Nat} {spare : Nat → Bool} {held : Bool}
theorem open_sh : ∀ (n : Nat) {t : TypeId} {ks : List SK} {fuel : Nat} {cs : List Value} {x : DataW H × List MemPlace}, shOk P n t ks = true →
    DataW.trod enc P w base spare held fuel t cs = some x → (∀ m ∈ x.1.weights P t, m ≤ 140737488351232) → SK.oks P w ks cs
  | 0, _, _, _, _, _, h, _, _ => by simp [shOk] at h
  | n + 1, t, ks, fuel, cs, x, h, ht, hs => by
    unfold shOk at h
    cases hu : P.underlying t with
    | none => rw [hu] at h; cases h
    | some d =>
      rw [hu] at h
      cases d with
      | int i =>
        simp only at h
        split at h
        · obtain rfl := of_decide_eq_true h
          obtain ⟨m, rfl, _, hw⟩ := DataW.trod_int hu ht
          simp only [SK.oks, SK.ok]
          exact ⟨⟨m, rfl, hw⟩, trivial⟩
        · cases h
      | bool =>
        simp only at h
        split at h
        · obtain ⟨b, rfl, _⟩ := DataW.trod_bool hu ht
          simp only [SK.oks, SK.ok]
          exact ⟨⟨b, rfl⟩, trivial⟩
        · cases h
      | string =>
        simp only at h
        split at h
        · obtain ⟨s, rfl, rfl, _⟩ := DataW.trod_string hu ht
          simp only [SK.oks, SK.ok]
          refine ⟨⟨s, rfl, ?_⟩, trivial⟩
          have := hs s.data.toList.length (by simp [DataW.weights])
          rw [Array.length_toList] at this
          exact this
        · cases h
      | slice e =>
        simp only at h
        split at h
        · rename_i f js
          simp only [Bool.and_eq_true, decide_eq_true_eq] at h
          obtain ⟨⟨rfl, hk⟩, hsh⟩ := h
          rcases open_slice hu ht with ⟨rfl, hx⟩ | ⟨a, len, cap, m, q, D, Pl, rfl, hb, hl, hm, hmm, hx, hcell⟩
          · simp only [SK.oks, and_true]
            simp only [SK.ok]
            exact ⟨none, 0, 0, [], rfl, Nat.le_refl _, Nat.zero_le _, by omega, rfl, fun h => absurd h (by omega), fun _ => rfl, fun r hr => by cases hr⟩
          · simp only [SK.oks, and_true]
            simp only [SK.ok]
            have hml : len ≤ m := by rw [hmm]; split <;> omega
            subst hx
            have hweights := hs
            simp only [DataW.weights, hu] at hweights
            have hlen : len * P.bytesOf e ≤ 140737488351232 := by
              have := hweights _ (List.mem_cons_self ..)
              simp only [List.length_map, List.length_range] at this
              exact Nat.le_trans (Nat.mul_le_mul_right _ (Nat.le_add_right _ _)) this
            have hex : ∀ i, i < len → ∃ cs : List Value, SK.oks P w js cs ∧ ∀ j v, cs[j]? = some v → w.cell? (a.add (i * js.length + j)) = some v := by
              intro i hi
              obtain ⟨cs, h1, h2⟩ := hcell i (by omega)
              have hw : ∀ q ∈ (D i).weights P e, q ≤ 140737488351232 := fun q hq => hweights q (by
                refine List.mem_cons_of_mem _ (List.mem_append_left _ (Open.weights_all_mem (d := D i) ?_ q hq))
                exact List.mem_map.2 ⟨i, List.mem_range.2 hi, rfl⟩)
              refine ⟨cs, open_sh n hsh h2 hw, fun j v hv => ?_⟩
              obtain ⟨_, hl2, h3⟩ := World.cells?_some h1
              have hj : j < P.cellsOf e := by rw [← hl2]; exact (List.getElem?_eq_some_iff.1 hv).1
              have := h3 j hj
              rw [add_add, hk] at this
              rw [this, hv]
            obtain ⟨f, hf⟩ := choose_lt hex
            refine ⟨some a, len, cap, (List.range len).map f, rfl, hl, hm, hlen, by simp, fun _ => ⟨a, rfl, ?_⟩, fun h => (by cases h), ?_⟩
            · intro i r hr j v hv
              rw [List.getElem?_map] at hr
              obtain ⟨i', hi', rfl⟩ := Option.map_eq_some_iff.1 hr
              obtain ⟨hlt, hii⟩ := List.getElem?_eq_some_iff.1 hi'
              simp only [List.length_range] at hlt
              simp only [List.getElem_range] at hii
              subst hii
              exact (hf i hlt).2 j v hv
            · intro r hr
              obtain ⟨i, hi, rfl⟩ := List.mem_map.1 hr
              exact (hf i (List.mem_range.1 hi)).1
        · cases h
      | struct fs =>
        simp only [Bool.and_eq_true, decide_eq_true_eq] at h
        obtain ⟨⟨hc, hall⟩, hcov⟩ := h
        obtain ⟨xs, m, _, rfl, hl, hlen, hf⟩ := DataW.trod_struct hu ht
        refine oks_mk (by rw [hl, hc]) (fun j k v hk hv => ?_)
        have hj : j < ks.length := (List.getElem?_eq_some_iff.1 hk).1
        obtain ⟨f, hfm, hin⟩ := List.any_eq_true.1 (List.all_eq_true.1 hcov j (List.mem_range.2 hj))
        have hin := of_decide_eq_true hin
        have hsh := List.all_eq_true.1 hall f hfm
        obtain ⟨q, hq, hfq⟩ := List.mem_iff_getElem.1 hfm
        have hqs : q < fs.size := by simpa using hq
        have hgq : fs[q]? = some f := by rw [Array.getElem?_eq_getElem hqs]; simpa using hfq
        have h4 := hf q f hgq
        have hxq : q < xs.length := by rw [hlen]; exact hqs
        rw [List.getElem?_eq_getElem hxq] at h4
        have hw : ∀ m ∈ xs[q].1.weights P f.type, m ≤ 140737488351232 := by
          intro m hm
          refine hs m ?_
          simp only [DataW.weights, hu]
          refine Open.weights_each_mem (j := q) (t := f.type) (d := xs[q].1) ?_ ?_ m hm
          · simp [hqs, ← hfq]
          · simp [hxq]
        have hoks := open_sh n hsh h4 hw
        refine oks_at (j - f.offset) k v hoks ?_ ?_
        · rw [List.getElem?_take, if_pos (by omega), List.getElem?_drop, show f.offset + (j - f.offset) = j by omega]
          exact hk
        · rw [List.getElem?_take, if_pos (by omega), List.getElem?_drop, show f.offset + (j - f.offset) = j by omega]
          exact hv
      | _ => cases h
end
end Go.Proofs.Ytcpenjbgiecgnaa.Shape
