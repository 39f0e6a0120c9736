import Derived.Test.YtaghdopickgpgaaDoorOCall
import Derived.Test.YtaghdopickgpgaaDoorORows
import Derived.Test.YtaghdopickgpgaaDoorOTrim
import Derived.Test.YtaghdopickgpgaaDoorOStr
namespace Go.Proofs.YtaghdopickgpgaaDoor
open Go Go.RowKit
set_option linter.unusedVariables false
set_option linter.unusedSimpArgs false

theorem pw_drewN {B : Nat} {a w : World} (h : Below B a w) (n : Nat) : Below B a (w.drewN n) := ⟨h.os, h.tape, h.output, h.size, h.block⟩
theorem below_next {a b c : World} (h : Below a.heap.size a b) (k : Below b.heap.size b c) : Below a.heap.size a c := h.trans (k.mono h.size)
theorem ret_int {k : IntKind} {a b : Int} (h : a = b) : Ending.returned (.int k a) = .returned (.int k b) := by rw [h]
theorem ret_bool {a b : Bool} (h : a = b) : Ending.returned (.bool a) = .returned (.bool b) := by rw [h]
def scells (s : ByteArray) : List Value := [.string s]
def trimSet : ByteArray := ⟨#[97, 98, 99, 100, 101, 102, 103, 104, 105, 106, 107, 108, 109, 110, 111, 112, 113, 114, 115, 116, 117, 118, 119, 120, 121, 122, 48, 49, 50, 51, 52, 53, 54, 55, 56, 57, 46]⟩
def okByte (c : UInt8) : Bool := trimSet.data.toList.contains c
/-- May a name be? -/
def okName (s : ByteArray) : Bool := decide (0 < s.size) && decide (s.size ≤ 32) && s.data.toList.all okByte
theorem dropWhile_nil {α : Type} (p : α → Bool) (l : List α) : (l.dropWhile p = []) ↔ l.all p = true := by
  induction l with
  | nil => simp
  | cons x l ih =>
    by_cases hx : p x = true
    · rw [List.dropWhile_cons_of_pos hx, ih, List.all_cons, hx, Bool.true_and]
    · rw [List.dropWhile_cons_of_neg hx, List.all_cons]
      simp [hx]
theorem all_dropWhile {α : Type} (p : α → Bool) (l : List α) : (l.dropWhile p).all p = l.all p := by
  induction l with
  | nil => rfl
  | cons x l ih =>
    by_cases hx : p x = true
    · rw [List.dropWhile_cons_of_pos hx, ih, List.all_cons, hx, Bool.true_and]
    · rw [List.dropWhile_cons_of_neg hx]
theorem trim_nil (l : List UInt8) : (Lib.trimS l trimSet.data.toList = []) ↔ l.all okByte = true := by
  unfold Lib.trimS Lib.trimRightS Lib.trimLeftS
  rw [dropWhile_nil, List.all_reverse]
  show (List.dropWhile okByte l.reverse).all okByte = true ↔ _
  rw [all_dropWhile, List.all_reverse]
theorem toList_nil (s : ByteArray) : s.toList = [] ↔ s.size = 0 := by
  rw [Lib.toList_data, ← List.length_eq_zero_iff, Array.length_toList]
  rfl
set_option maxHeartbeats 1000000 in
theorem may1_calls (s : ByteArray) (w : World) (hs : s.size ≤ 9223372036854775807) :
    Calls Tryd.prog 47 #[.string s] w fun e w' => e = .returned (.bool (!okName s)) ∧ Below w.heap.size w w' := by
  have ht := trim_ s trimSet w hs (by decide) (ascii_of_all (by decide))
  unfold okName
  by_cases h0 : s.size = 0
  · rw [decide_eq_false (show ¬ 0 < s.size by omega)]
    have hE := (toList_nil s).2 h0
    go_enter Tryd.func47, Tryd.ntmps47
    go_wp2
    go_ret
    exact ⟨rfl, Below.refl _ _⟩
  · rw [decide_eq_true (show 0 < s.size by omega)]
    have hE : ¬ s.toList = [] := fun e => h0 ((toList_nil s).1 e)
    by_cases h1 : s.size ≤ 32
    · rw [decide_eq_true h1]
      have h2 : (s.size : Int) ≤ 32 := by omega
      have htn := trim_nil s.data.toList
      generalize hr : (⟨(Lib.trimS s.data.toList trimSet.data.toList).toArray⟩ : ByteArray) = r at ht
      have hrs : r.toList = [] ↔ s.data.toList.all okByte = true := by
        rw [toList_nil, ← htn, ← hr]
        show (Lib.trimS s.data.toList trimSet.data.toList).toArray.size = 0 ↔ _
        rw [List.size_toArray, List.length_eq_zero_iff]
      clear hr htn h0
      have HT := Lib.hid ht
      have HR := Lib.hid hrs
      clear ht hrs
      have ht := HT.out
      unfold trimSet at ht
      go_enter Tryd.func47, Tryd.ntmps47
      go_wp2_with (fail)
      refine ht.mono ?_
      rintro e w' ⟨rfl, hb⟩
      by_cases hq : r.toList = []
      · have hA := Lib.hid (HR.out.1 hq)
        go_wp2
        go_ret
        exact ⟨ret_bool (by rw [hA.out]; simp [hE, hq, Int.not_lt.2 h2]), hb⟩
      · have hA : Hid (s.data.toList.all okByte = false) := Lib.hid (by cases h : s.data.toList.all okByte with | false => rfl | true => exact absurd (HR.out.2 h) hq)
        go_wp2
        go_ret
        exact ⟨ret_bool (by rw [hA.out]; simp [hE, hq, Int.not_lt.2 h2]), hb⟩
    · rw [decide_eq_false h1]
      have h2 : (32 : Int) < (s.size : Int) := by omega
      go_enter Tryd.func47, Tryd.ntmps47
      go_wp2
      go_ret
      exact ⟨rfl, Below.refl _ _⟩
/-- A predicate: in whatever world that has all of w but S, the call says p and turns nothing. -/
def Says {α : Type} (S : Nat → Prop) (g : Nat) (lb : Array Value) (val : α → Value) (p : α → Bool) (w : World) : Prop :=
  ∀ (W : World) (x : α), Kept w W S → Calls Tryd.prog g (#[val x] ++ lb) W fun e w' => e = .returned (.bool (p x)) ∧ Below W.heap.size W w'
/-- The place of the first that p takes; -1. -/
def idx {α : Type} (p : α → Bool) : List α → Int → Int
  | [], _ => -1
  | x :: l, i => if p x then i else idx p l (i + 1)
theorem idx_ge {α : Type} (p : α → Bool) (l : List α) (i : Int) : 0 ≤ i → (0 ≤ idx p l i ↔ l.any p = true) := by
  induction l generalizing i with
  | nil => intro h; simp [idx]
  | cons x l ih =>
    intro h
    simp only [idx, List.any_cons, Bool.or_eq_true]
    by_cases hx : p x = true
    · simp only [hx, if_true, true_or, iff_true]; exact h
    · simp only [hx, if_false, false_or, Bool.false_eq_true]; exact ih (i + 1) (by omega)
set_option maxHeartbeats 2000000 in
theorem idx_strs (v : Value) (l : List ByteArray) (w : World) (hr : Row w 9 1 scells v l) (hl : l.length ≤ 4611686018427387904) (hs : ∀ s ∈ l, s.size ≤ 9223372036854775807) :
    Calls Tryd.prog 58 #[v, .func (.func 47) #[] #[]] w fun e w' => e = .returned (.int .i64 (idx (fun s => !okName s) l 0)) ∧ Below w.heap.size w w' := by
  obtain ⟨A, c, rfl⟩ := hr.shape
  have HR := Lib.hid hr
  have HS0 := Lib.hid hs
  clear hr hs
  have eg : ∀ args w, (callFunc 47 args).run Tryd.prog w = .ok (.enter 47 args) w := enters_of Tryd.func47 (by kernel_rfl) rfl
  go_enter Tryd.func58, Tryd.ntmps58
  go_wp2
  go_loopg [5, 8] l.length (fun gg _ s8 wr => ∃ k : Nat, k ≤ l.length ∧ l.length - k ≤ gg ∧ s8 = .int .i64 k ∧ Hid (Below w.heap.size w wr) ∧ Hid (idx (fun s => !okName s) l 0 = idx (fun s => !okName s) (l.drop k) k))
  case atStart => exact ⟨0, Nat.zero_le _, by omega, rfl, Lib.hid (Below.refl _ w), Lib.hid rfl⟩
  case round =>
    obtain ⟨k, hk, hg, rfl, HB, HI⟩ := hrel
    by_cases hlt : k < l.length
    · obtain ⟨gb, c', hv, hgl, hcl⟩ := HR.out.form (by omega)
      injection hv with hA _ hc
      subst hA hc
      have r := HR.out.kept (S := fun _ => False) (Kept.of_below HB.out _) (fun _ _ h => h)
      have c0 := r.cell (fun _ => rfl) k 0 hlt (by omega)
      have hcall := may1_calls l[k] wr (HS0.out _ (List.getElem_mem hlt))
      have HS := Lib.hid (show idx (fun s => !okName s) (l.drop k) k = if !okName l[k] then (k : Int) else idx (fun s => !okName s) (l.drop (k + 1)) (k + 1) by rw [List.drop_eq_getElem_cons hlt]; rfl)
      clear r
      generalize l[k] = x at *
      simp only [scells, List.getElem?_cons_zero, List.getElem?_cons_succ, Nat.add_zero, Nat.mul_one] at c0
      have hltz : (k : Int) < (l.length : Int) := by omega
      have HX := Lib.hid HS.out
      clear HS
      generalize okName x = q at hcall HX
      go_wp2_with (fail)
      refine hcall.mono ?_
      rintro e w' ⟨rfl, hb'⟩
      have HB' := Lib.hid (below_next HB.out hb')
      clear hb' hcall
      cases q with
      | false =>
        go_wp2
        go_ret
        exact ⟨ret_int (by rw [HI.out, HX.out]; rfl), HB'.out⟩
      | true =>
        go_wp2
        go_roundg (l.length - (k + 1))
        case measure => omega
        case rel => exact ⟨k + 1, by omega, Nat.le_refl _, by go_num, HB', Lib.hid (by rw [HI.out, HX.out]; rfl)⟩
    · go_wp2
      go_ret
      exact ⟨ret_int (by rw [HI.out, List.drop_of_length_le (by omega)]; rfl), HB.out⟩
def okNames (l : List ByteArray) : Bool := l.all okName
theorem okNames_any (l : List ByteArray) : (l.any fun s => !okName s) = !okNames l := by
  unfold okNames
  rw [List.not_all_eq_any_not]
set_option maxHeartbeats 1000000 in
theorem contains_strs (v : Value) (l : List ByteArray) (w : World) (hr : Row w 9 1 scells v l) (hl : l.length ≤ 4611686018427387904) (hs : ∀ s ∈ l, s.size ≤ 9223372036854775807) :
    Calls Tryd.prog 46 #[v, .func (.func 47) #[] #[]] w fun e w' => e = .returned (.bool (!okNames l)) ∧ Below w.heap.size w w' := by
  have hx := idx_strs v l w hr hl hs
  have hi := idx_ge (fun s => !okName s) l 0 (Int.le_refl _)
  rw [okNames_any] at hi
  generalize idx (fun s => !okName s) l 0 = i at *
  generalize okNames l = q at *
  clear hr hl hs
  go_enter Tryd.func46, Tryd.ntmps46
  go_wp2_with (fail)
  refine hx.mono ?_
  rintro e w' ⟨rfl, hb⟩
  go_wp2
  go_ret
  refine ⟨ret_bool ?_, hb⟩
  rw [Bool.eq_iff_iff]
set_option maxHeartbeats 1000000 in
theorem may_calls (v : Value) (l : List ByteArray) (w : World) (hr : Row w 9 1 scells v l) (hl : l.length ≤ 4611686018427387904) (hs : ∀ s ∈ l, s.size ≤ 9223372036854775807) :
    Calls Tryd.prog 29 #[v] w fun e w' => e = .returned (.bool (okNames l)) ∧ Below w.heap.size w w' := by
  have hx := contains_strs v l w hr hl hs
  clear hr hl hs
  go_enter Tryd.func29, Tryd.ntmps29
  go_wp2_with (fail)
  refine hx.mono ?_
  rintro e w' ⟨rfl, hb⟩
  go_wp2
  go_ret
  exact ⟨ret_bool (by simp), hb⟩
end Go.Proofs.YtaghdopickgpgaaDoor
