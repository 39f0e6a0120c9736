import Derived.Test.YtpimpdgibcjbeaaRlM
namespace Go.Proofs.Ytpimpdgibcjbeaa
open Go Go.RowKit
set_option linter.unusedVariables false
set_option linter.unusedSimpArgs false

theorem ret_int {k : IntKind} {a b : Int} (h : a = b) : Ending.returned (.int k a) = .returned (.int k b) := by rw [h]
theorem ret_bool {a b : Bool} (h : a = b) : Ending.returned (.bool a) = .returned (.bool b) := by rw [h]
/-- A stretch of entries that is read: at the beginning of a block. -/
def Seg {α : Type} (w : World) (enc : α → List Value) (v : Value) (l : List α) : Prop :=
  ∃ A c, v = .slice A l.length c ∧ l.length ≤ c ∧ c ≤ maxLen ∧ (0 < l.length → ∃ g, A = some ⟨g, 0, none⟩ ∧ ∀ j u, (l.flatMap enc)[j]? = some u → w.cell? ⟨g, j, none⟩ = some u)
section
variable {α : Type} {w w' : World} {enc : α → List Value} {v : Value} {l : List α}
theorem Seg.of_row {e sz : Nat} (h : Row w e sz enc v l) : Seg w enc v l := by
  rcases h.2 with ⟨rfl, h0⟩ | ⟨g, cap, cur, rfl, hb, hg, hc, hm, rest⟩
  · exact ⟨none, 0, by rw [h0], by omega, by decide, fun h => by omega⟩
  · refine ⟨_, cap, rfl, hc, hm, fun _ => ⟨g, rfl, fun j u hu => ?_⟩⟩
    have := h.news j u hu
    rwa [addr0] at this
theorem Seg.kept {S : Nat → Prop} (h : Seg w enc v l) (hk : Kept w w' S) (hS : ∀ k, v.ownBlock = some k → ¬ S k) : Seg w' enc v l := by
  obtain ⟨A, c, rfl, hc, hm, h⟩ := h
  refine ⟨A, c, rfl, hc, hm, fun h0 => ?_⟩
  obtain ⟨g, rfl, hcell⟩ := h h0
  refine ⟨g, rfl, fun j u hu => ?_⟩
  have hx := hcell j u hu
  rw [hk.cell (p := ⟨g, j, none⟩) (World.block_lt_of_cell? w _ hx) (hS g (by simp [Value.ownBlock]))]
  exact hx
theorem Seg.below (h : Seg w enc v l) (hb : Below w.heap.size w w') : Seg w' enc v l := h.kept (Kept.of_below hb fun _ => False) (fun _ _ h => h)
theorem Seg.cell {g n c sz : Nat} (h : Seg w enc (.slice (some ⟨g, 0, none⟩) n c) l) (hs : ∀ x, (enc x).length = sz) (i j : Nat) (hi : i < l.length) (hj : j < sz) : w.cell? ⟨g, i * sz + j, none⟩ = (enc l[i])[j]? := by
  obtain ⟨A, c', hv, _, _, h⟩ := h
  obtain ⟨g', hA, hcell⟩ := h (by omega)
  simp only [Value.slice.injEq] at hv
  obtain ⟨rfl, _, _⟩ := hv
  simp only [Option.some.injEq, Addr.mk.injEq, and_true] at hA
  subst hA
  have e1 := flat_get hs l i j hi hj
  obtain ⟨u, hu⟩ : ∃ u, (enc l[i])[j]? = some u := ⟨(enc l[i])[j]'(by rw [hs]; exact hj), List.getElem?_eq_getElem _⟩
  rw [hu] at e1 ⊢
  exact hcell _ _ e1
theorem Seg.form (h : Seg w enc v l) (hn : 0 < l.length) : ∃ g c, v = .slice (some ⟨g, 0, none⟩) l.length c ∧ l.length ≤ c ∧ c ≤ maxLen := by
  obtain ⟨A, c, rfl, hc, hm, h⟩ := h
  obtain ⟨g, rfl, _⟩ := h hn
  exact ⟨g, c, rfl, hc, hm⟩
theorem Seg.shape (h : Seg w enc v l) : ∃ A c, v = .slice A l.length c ∧ l.length ≤ c ∧ c ≤ maxLen := by
  obtain ⟨A, c, rfl, hc, hm, h⟩ := h
  exact ⟨A, c, rfl, hc, hm⟩
/-- A beginning of a stretch. -/
theorem Seg.take_ {A : Option Addr} {n c : Nat} (h : Seg w enc (.slice A n c) l) (k : Nat) (hk : k ≤ l.length) : Seg w enc (.slice A k c) (l.take k) := by
  obtain ⟨A', c', hv, hc, hm, h⟩ := h
  simp only [Value.slice.injEq] at hv
  obtain ⟨rfl, rfl, rfl⟩ := hv
  have hl : (l.take k).length = k := by rw [List.length_take]; omega
  refine ⟨A, c, by rw [hl], by omega, hm, fun h0 => ?_⟩
  obtain ⟨g, rfl, hcell⟩ := h (by omega)
  refine ⟨g, rfl, fun j u hu => hcell j u ?_⟩
  have e : l.flatMap enc = (l.take k).flatMap enc ++ (l.drop k).flatMap enc := by rw [← List.flatMap_append, List.take_append_drop]
  rw [e, List.getElem?_append_left (List.getElem?_eq_some_iff.1 hu).1]
  exact hu
end
/-- A predicate: in whatever world, the call says p and turns nothing. -/
def Says {α : Type} (g : Nat) (val : α → Value) (p : α → Bool) : Prop :=
  ∀ (W : World) (x : α), Calls Try.prog g #[val x] W fun e w' => e = .returned (.bool (p x)) ∧ Below W.heap.size W w'
/-- The place of the first that p takes; -1. -/
def idx {α : Type} (p : α → Bool) : List α → Int → Int
  | [], _ => -1
  | x :: l, i => if p x then i else idx p l (i + 1)
theorem idx_ge {α : Type} (p : α → Bool) (l : List α) (i : Int) : 0 ≤ i → (0 ≤ idx p l i ↔ l.any p = true) ∧ (idx p l i < 0 → idx p l i = -1) := by
  induction l generalizing i with
  | nil => intro h; simp [idx]
  | cons x l ih =>
    intro h
    simp only [idx, List.any_cons, Bool.or_eq_true]
    by_cases hx : p x = true
    · simp only [hx, if_true, true_or, iff_true]; exact ⟨h, fun h' => by omega⟩
    · simp only [hx, if_false, false_or, Bool.false_eq_true]; exact ih (i + 1) (by omega)
set_option maxHeartbeats 2000000 in
theorem idx_ents (v : Value) (l : List Ent) (g : Nat) (p : Ent → Bool) (w : World) (hr : Seg w Ent.cells v l) (hl : l.length ≤ 4611686018427387904)
    (hp : Says g Ent.val p) (eg : ∀ args w, (callFunc g args).run Try.prog w = .ok (.enter g args) w) :
    Calls Try.prog 53 #[v, .func (.func g) #[] #[]] w fun e w' => e = .returned (.int .i64 (idx p l 0)) ∧ Below w.heap.size w w' := by
  obtain ⟨A, c, rfl, _⟩ := hr.shape
  have HR := Lib.hid hr
  have HP := Lib.hid hp
  clear hr hp
  go_enter Try.func53, Try.ntmps53
  go_wp2
  go_loopg [5, 8] l.length (fun gg _ s8 wr => ∃ k : Nat, k ≤ l.length ∧ l.length - k ≤ gg ∧ s8 = .int .i64 k ∧ Hid (Below w.heap.size w wr) ∧ Hid (idx p l 0 = idx p (l.drop k) k))
  case atStart => exact ⟨0, Nat.zero_le _, by omega, rfl, Lib.hid (Below.refl _ w), Lib.hid rfl⟩
  case round =>
    obtain ⟨k, hk, hg, rfl, HB, HI⟩ := hrel
    by_cases hlt : k < l.length
    · obtain ⟨gb, c', hv, _⟩ := HR.out.form (by omega)
      injection hv with hA _ hc
      subst hA hc
      have r := HR.out.below HB.out
      have c0 := r.cell (sz := 2) (fun _ => rfl) k 0 hlt (by omega)
      have c1 := r.cell (sz := 2) (fun _ => rfl) k 1 hlt (by omega)
      have hcall := HP.out wr l[k]
      have HS := Lib.hid (show idx p (l.drop k) k = if p l[k] then (k : Int) else idx p (l.drop (k + 1)) (k + 1) by rw [List.drop_eq_getElem_cons hlt]; rfl)
      clear r
      generalize l[k] = x at *
      simp only [Ent.cells, List.getElem?_cons_zero, List.getElem?_cons_succ, Nat.add_zero, Nat.mul_one] at c0 c1
      have hltz : (k : Int) < (l.length : Int) := by omega
      have HX := Lib.hid HS.out
      clear HS
      go_wp2_with (fail)
      refine hcall.mono ?_
      rintro e w' ⟨rfl, hb'⟩
      have HB' := Lib.hid (below_next HB.out hb')
      clear hb' hcall
      cases hq : p x with
      | true =>
        rw [hq] at HX
        go_wp2
        go_ret
        exact ⟨ret_int (by rw [HI.out, HX.out]; rfl), HB'.out⟩
      | false =>
        rw [hq] at HX
        go_wp2
        go_roundg (l.length - (k + 1))
        case measure => omega
        case rel => exact ⟨k + 1, by omega, Nat.le_refl _, by go_num, HB', Lib.hid (by rw [HI.out, HX.out]; rfl)⟩
    · go_wp2
      go_ret
      exact ⟨ret_int (by rw [HI.out, List.drop_of_length_le (by omega)]; rfl), HB.out⟩
theorem any_ents (v : Value) (l : List Ent) (g : Nat) (p : Ent → Bool) (w : World) (hr : Seg w Ent.cells v l) (hl : l.length ≤ 4611686018427387904)
    (hp : Says g Ent.val p) (eg : ∀ args w, (callFunc g args).run Try.prog w = .ok (.enter g args) w) :
    Calls Try.prog 45 #[v, .func (.func g) #[] #[]] w fun e w' => e = .returned (.bool (l.any p)) ∧ Below w.heap.size w w' := by
  have hc := idx_ents v l g p w hr hl hp eg
  have HI := Lib.hid (idx_ge p l 0 (Int.le_refl 0)).1
  generalize idx p l 0 = i at hc HI
  generalize l.any p = q at HI ⊢
  obtain ⟨A, c, rfl, _⟩ := hr.shape
  clear hr hp
  go_enter Try.func45, Try.ntmps45
  go_wp2_with (fail)
  refine hc.mono ?_
  rintro e w' ⟨rfl, hb'⟩
  go_wp2
  go_ret
  exact ⟨ret_bool (by rw [Bool.eq_iff_iff, ← HI.out, decide_eq_true_iff]), hb'⟩
theorem wrong1_says : Says 46 Ent.val (fun x => !mayT x.term) := by
  intro W x
  unfold Ent.val
  go_enter Try.func46, Try.ntmps46
  go_wp2_with (fail)
  refine (may_calls _ _).mono ?_
  rintro e w2 ⟨rfl, hw2⟩
  obtain rfl := hw2.symm
  go_wp2
  go_ret
  exact ⟨rfl, (Below.refl _ _).alloc (Nat.le_refl _) _⟩
theorem wrong2_says : Says 47 Ent.val (fun x => decide (4096 < x.data.size)) := by
  intro W x
  unfold Ent.val
  dsimp only
  by_cases h : 4096 < x.data.size
  · rw [decide_eq_true h]
    have h2 : (4096 : Int) < (x.data.size : Int) := by omega
    go_enter Try.func47, Try.ntmps47
    go_wp2
    go_ret
    exact ⟨rfl, (Below.refl _ _).alloc (Nat.le_refl _) _⟩
  · rw [decide_eq_false h]
    have h2 : (x.data.size : Int) ≤ 4096 := by omega
    go_enter Try.func47, Try.ntmps47
    go_wp2
    go_ret
    exact ⟨by simp; omega, (Below.refl _ _).alloc (Nat.le_refl _) _⟩
/-- What is wrong with entries. -/
def risen : Int → List Ent → Bool
  | _, [] => true
  | t, x :: l => decide (t ≤ x.term) && risen x.term l
def wrongE (prev term : Int) (l : List Ent) : Int :=
  if l.any (fun x => !mayT x.term) then 1 else if !risen term l then 150 else if 1048576 - prev < (l.length : Int) ∨ l.any (fun x => decide (4096 < x.data.size)) then 2 else 0
set_option maxHeartbeats 2000000 in
theorem wrong_calls (prev term : Int) (v : Value) (l : List Ent) (w : World) (hp : 0 ≤ prev ∧ prev ≤ 1048576) (hr : Seg w Ent.cells v l) (hl : l.length ≤ 4611686018427387904) :
    Calls Try.prog 30 #[.int .i64 prev, .int .i64 term, v] w fun e w' => e = .returned (.int .i64 (wrongE prev term l)) ∧ Below w.heap.size w w' := by
  have h1 := any_ents v l 46 _ w hr hl wrong1_says (Go.Proofs.enters_of Try.func46 (by kernel_rfl) rfl)
  unfold wrongE
  generalize hq1 : l.any (fun x => !mayT x.term) = q1 at h1 ⊢
  clear hq1
  obtain ⟨A, c, rfl, _⟩ := hr.shape
  have HR := Lib.hid hr
  have HL := Lib.hid hl
  clear hr
  cases q1 with
  | true =>
    rw [if_pos rfl]
    go_enter Try.func30, Try.ntmps30
    go_wp2_with (fail)
    refine h1.mono ?_
    rintro e w' ⟨rfl, hb'⟩
    go_wp2
    go_ret
    exact ⟨rfl, hb'⟩
  | false =>
    rw [if_neg (by simp)]
    obtain ⟨er, her⟩ : ∃ er, (if !risen term l then (150 : Int) else if 1048576 - prev < (l.length : Int) ∨ l.any (fun x => decide (4096 < x.data.size)) then 2 else 0) = er := ⟨_, rfl⟩
    rw [her]
    have HER := Lib.hid her
    clear her
    go_enter Try.func30, Try.ntmps30
    go_wp2_with (fail)
    refine h1.mono ?_
    rintro e w2 ⟨rfl, hb2⟩
    have HB2 := Lib.hid hb2
    clear h1 hb2
    go_wp2_with (fail)
    go_loopg [1, 13] l.length (fun gg s1 s13 wr => ∃ (k : Nat) (tk : Int), k ≤ l.length ∧ l.length - k ≤ gg ∧ s1 = .int .i64 tk ∧ s13 = .int .i64 k ∧ Hid (Below w.heap.size w wr) ∧ Hid (risen term l = risen tk (l.drop k)))
    case atStart => exact ⟨0, term, Nat.zero_le _, by omega, rfl, rfl, HB2, Lib.hid rfl⟩
    case round =>
      obtain ⟨k, tk, hk, hg, rfl, rfl, HB, HI⟩ := hrel
      by_cases hlt : k < l.length
      · obtain ⟨gb, c', hv, _⟩ := HR.out.form (by omega)
        injection hv with hA _ hc
        subst hA hc
        have r := HR.out.below HB.out
        have c0 := r.cell (sz := 2) (fun _ => rfl) k 0 hlt (by omega)
        have c1 := r.cell (sz := 2) (fun _ => rfl) k 1 hlt (by omega)
        have HS := Lib.hid (show risen tk (l.drop k) = (decide (tk ≤ (l[k]).term) && risen (l[k]).term (l.drop (k + 1))) by rw [List.drop_eq_getElem_cons hlt]; rfl)
        clear r
        generalize l[k] = x at *
        simp only [Ent.cells, List.getElem?_cons_zero, List.getElem?_cons_succ, Nat.add_zero, Nat.mul_one] at c0 c1
        have hltz : (k : Int) < (l.length : Int) := by omega
        have HX := Lib.hid HS.out
        clear HS
        by_cases hx : x.term < tk
        · have HE := Lib.hid (show risen term l = false by rw [HI.out, HX.out, decide_eq_false (by omega)]; rfl)
          go_wp2
          go_ret
          exact ⟨ret_int (by rw [← HER.out, HE.out]; rfl), HB.out.alloc (HB.out.size) _⟩
        · have hx2 : tk ≤ x.term := by omega
          have HE := Lib.hid (show risen term l = risen x.term (l.drop (k + 1)) by rw [HI.out, HX.out, decide_eq_true hx2]; rfl)
          clear hx
          go_wp2
          go_roundg (l.length - (k + 1))
          case measure => omega
          case rel => exact ⟨k + 1, x.term, by omega, Nat.le_refl _, rfl, by go_num, Lib.hid (HB.out.alloc (HB.out.size) _), HE⟩
      · have hkl : k = l.length := by omega
        have HE := Lib.hid (show risen term l = true by rw [HI.out, hkl, List.drop_length]; rfl)
        have h2 := any_ents _ l 47 _ wr (HR.out.below HB.out) HL.out wrong2_says (Go.Proofs.enters_of Try.func47 (by kernel_rfl) rfl)
        have HF := Lib.hid (show er = if 1048576 - prev < (l.length : Int) ∨ l.any (fun x => decide (4096 < x.data.size)) then 2 else 0 by rw [← HER.out, HE.out]; rfl)
        generalize hq2 : l.any (fun x => decide (4096 < x.data.size)) = q2 at h2 HF
        clear hq2
        have hw : IntKind.i64.wrap (1048576 - prev) = 1048576 - prev := by rw [IntKind.wrap_i64]; omega
        by_cases hn : 1048576 - prev < (l.length : Int)
        · obtain rfl : er = 2 := by rw [HF.out, if_pos (.inl hn)]
          have q : decide (1048576 - prev < (l.length : Int)) = true := decide_eq_true hn
          clear hlt
          go_wp2
          go_ret
          exact ⟨rfl, HB.out⟩
        · have q : decide (1048576 - prev < (l.length : Int)) = false := decide_eq_false hn
          have hltz : ¬ (k : Int) < (l.length : Int) := by omega
          have HN := Lib.hid hn
          clear hlt hn
          go_wp2_with (fail)
          refine h2.mono ?_
          rintro e w5 ⟨rfl, hb5⟩
          cases q2 with
          | true =>
            obtain rfl : er = 2 := by rw [HF.out, if_pos (.inr rfl)]
            go_wp2
            go_ret
            exact ⟨rfl, below_next HB.out hb5⟩
          | false =>
            obtain rfl : er = 0 := by rw [HF.out, if_neg (by have h0 := HN.out; rintro (h | h); omega; cases h)]
            go_wp2
            go_ret
            exact ⟨rfl, below_next HB.out hb5⟩
end Go.Proofs.Ytpimpdgibcjbeaa
