import Derived.Test.YtaaeiljeanfinaaOBase
import Derived.Laws.StructEq
import Derived.Deep.RegionHeld3
import Derived.ChangeKeysEq
namespace Go.Proofs.Ytaaeiljeanfinaa
open Go Go.RowKit
set_option linter.unusedVariables false
set_option linter.unusedSimpArgs false

theorem bcell {W w1 : World} (hb : Below W.heap.size W w1) : (∀ b o, b < W.heap.size → w1.cell? ⟨b, o, none⟩ = W.cell? ⟨b, o, none⟩) ∧ (∀ b o, b < W.heap.size → w1.frozen? ⟨b, o, none⟩ = W.frozen? ⟨b, o, none⟩) :=
  ⟨fun b o h => hb.cell (p := ⟨b, o, none⟩) h, fun b o h => hb.frozen (p := ⟨b, o, none⟩) h⟩
theorem below_next {a b c : World} (h : Below a.heap.size a b) (k : Below b.heap.size b c) : Below a.heap.size a c := h.trans (k.mono h.size)

theorem pw_drewN {B : Nat} {w W : World} (h : Below B w W) (n : Nat) : Below B w (W.drewN n) := ⟨h.os, h.tape, h.output, h.size, h.block⟩
theorem net_of (a b : Int) (w : World) : Calls Try.prog 28 #[.int .i64 a, .int .i64 b] w fun e w' => e = .returned (.agg #[.int .i64 (min a b), .int .i64 (max a b)]) ∧ Below w.heap.size w w' := by
  rcases Int.lt_or_le b a with h | h
  · rw [show min a b = b by omega, show max a b = a by omega]
    have h2 : b ≤ a := by omega
    have h3 : ¬ a < b := by omega
    have h4 : ¬ a ≤ b := by omega
    go_enter Try.func28, Try.ntmps28
    go_wp2
    exact bodyPost_ret (v := .agg #[.int .i64 b, .int .i64 a]) (by simp [results, Try.results28, go_sem]) rfl ⟨rfl, ((Below.refl _ _).alloc (Nat.le_refl _) _)⟩
  · rw [show min a b = a by omega, show max a b = b by omega]
    by_cases h2 : a < b
    · have h3 : ¬ b ≤ a := by omega
      go_enter Try.func28, Try.ntmps28
      go_wp2
      exact bodyPost_ret (v := .agg #[.int .i64 a, .int .i64 b]) (by simp [results, Try.results28, go_sem]) rfl ⟨rfl, ((Below.refl _ _).alloc (Nat.le_refl _) _)⟩
    · obtain rfl : a = b := by omega
      go_enter Try.func28, Try.ntmps28
      go_wp2
      exact bodyPost_ret (v := .agg #[.int .i64 a, .int .i64 a]) (by simp [results, Try.results28, go_sem]) rfl ⟨rfl, ((Below.refl _ _).alloc (Nat.le_refl _) _)⟩

theorem ret_int {k : IntKind} {a b : Int} (h : a = b) : Ending.returned (.int k a) = .returned (.int k b) := by rw [h]
theorem ret_bool {a b : Bool} (h : a = b) : Ending.returned (.bool a) = .returned (.bool b) := by rw [h]
/-- A predicate: in whatever world that has all of w but S, the call says p and turns nothing. -/
def Says {α : Type} (S : Nat → Prop) (g : Nat) (lb : Array Value) (val : α → Value) (p : α → Bool) (w : World) : Prop :=
  ∀ (W : World) (x : α), Kept w W S → Calls Try.prog g (#[val x] ++ lb) W fun e w' => e = .returned (.bool (p x)) ∧ Below W.heap.size W w'
theorem Says.mono {α : Type} {S : Nat → Prop} {g : Nat} {lb : Array Value} {val : α → Value} {p : α → Bool} {w w1 : World} (h : Says S g lb val p w) (hb : Kept w w1 S) : Says S g lb val p w1 :=
  fun W x hW => h W x (hb.trans hW)
theorem Says.less {α : Type} {S : Nat → Prop} {g : Nat} {lb : Array Value} {val : α → Value} {p : α → Bool} {w : World} (h : Says S g lb val p w) {S' : Nat → Prop} (hs : ∀ k, k < w.heap.size → S' k → S k) : Says S' g lb val p w :=
  fun W x hW => h W x (hW.mono hs)

/-- The place of the first that p takes; -1. -/
def idx {α : Type} (p : α → Bool) : List α → Int → Int
  | [], _ => -1
  | x :: l, i => if p x then i else idx p l (i + 1)
theorem idx_ge {α : Type} (p : α → Bool) (l : List α) (i : Int) : 0 ≤ i → (0 ≤ idx p l i ↔ l.any p = true) ∧ (idx p l i < 0 → idx p l i = -1) := by
  induction l generalizing i with
  | nil => intro h; simp [idx]
  | cons x l ih =>
    intro h
    simp only [idx, List.any_cons, Bool.or_eq_true]
    by_cases hx : p x = true
    · simp only [hx, if_true, true_or, iff_true]; exact ⟨h, fun h' => by omega⟩
    · simp only [hx, if_false, false_or, Bool.false_eq_true]; exact ih (i + 1) (by omega)

structure Letter where (id src dst : Int) (body : ByteArray)
def Letter.cells (x : Letter) : List Value := [.int .i64 x.id, .int .i64 x.src, .int .i64 x.dst, .string x.body]
def Letter.val (x : Letter) : Value := .agg #[.int .i64 x.id, .int .i64 x.src, .int .i64 x.dst, .string x.body]
def Pr := Int × Int
def Pr.cells (x : Pr) : List Value := [.int .i64 x.1, .int .i64 x.2]
def Pr.val (x : Pr) : Value := .agg #[.int .i64 x.1, .int .i64 x.2]
def icells (x : Int) : List Value := [.int .i64 x]
def ival (x : Int) : Value := .int .i64 x

set_option maxHeartbeats 2000000 in
theorem idx_letters (S : Nat → Prop) (v : Value) (l : List Letter) (g : Nat) (lb : Array Value) (p : Letter → Bool) (w : World) (hr : Row w 38 4 Letter.cells v l) (hl : l.length ≤ 4611686018427387904)
    (hp : Says S g lb Letter.val p w) (eg : ∀ args w, (callFunc g args).run Try.prog w = .ok (.enter g args) w) :
    Calls Try.prog 44 #[v, .func (.func g) #[] lb] w fun e w' => e = .returned (.int .i64 (idx p l 0)) ∧ Below w.heap.size w w' := by
  obtain ⟨A, c, rfl⟩ := hr.shape
  have HR := Lib.hid hr
  have HP := Lib.hid hp
  clear hr hp
  go_enter Try.func44, Try.ntmps44
  go_wp2
  go_loopg [5, 8] l.length (fun gg _ s8 wr => ∃ k : Nat, k ≤ l.length ∧ l.length - k ≤ gg ∧ s8 = .int .i64 k ∧ Hid (Below w.heap.size w wr) ∧ Hid (idx p l 0 = idx p (l.drop k) k))
  case atStart => exact ⟨0, Nat.zero_le _, by omega, rfl, Lib.hid (Below.refl _ w), Lib.hid rfl⟩
  case round =>
    obtain ⟨k, hk, hg, rfl, HB, HI⟩ := hrel
    by_cases hlt : k < l.length
    · obtain ⟨gb, c', hv, hgl, hcl⟩ := HR.out.form (by omega)
      injection hv with hA _ hc
      subst hA hc
      have r := HR.out.kept (S := fun _ => False) (Kept.of_below HB.out _) (fun _ _ h => h)
      have c0 := r.cell (fun _ => rfl) k 0 hlt (by omega)
      have c1 := r.cell (fun _ => rfl) k 1 hlt (by omega)
      have c2 := r.cell (fun _ => rfl) k 2 hlt (by omega)
      have c3 := r.cell (fun _ => rfl) k 3 hlt (by omega)
      have hcall := HP.out wr l[k] (Kept.of_below HB.out S)
      have HS := Lib.hid (show idx p (l.drop k) k = if p l[k] then (k : Int) else idx p (l.drop (k + 1)) (k + 1) by rw [List.drop_eq_getElem_cons hlt]; rfl)
      clear r
      generalize l[k] = x at *
      simp only [Letter.cells, List.getElem?_cons_zero, List.getElem?_cons_succ, Nat.add_zero, Nat.mul_one] at c0 c1 c2 c3
      have hltz : (k : Int) < (l.length : Int) := by omega
      have HX := Lib.hid HS.out
      clear HS
      go_wp2_with (fail)
      refine hcall.mono ?_
      rintro e w' ⟨rfl, hb'⟩
      have HB' := Lib.hid (below_next HB.out hb')
      clear hb' hcall
      cases hq : p x with
      | true =>
        rw [hq] at HX
        go_wp2
        go_ret
        exact ⟨ret_int (by rw [HI.out, HX.out]; rfl), HB'.out⟩
      | false =>
        rw [hq] at HX
        go_wp2
        go_roundg (l.length - (k + 1))
        case measure => omega
        case rel => exact ⟨k + 1, by omega, Nat.le_refl _, by go_num, HB', Lib.hid (by rw [HI.out, HX.out]; rfl)⟩
    · go_wp2
      go_ret
      exact ⟨ret_int (by rw [HI.out, List.drop_of_length_le (by omega)]; rfl), HB.out⟩

set_option maxHeartbeats 2000000 in
theorem idx_pairs (S : Nat → Prop) (v : Value) (l : List Pr) (g : Nat) (lb : Array Value) (p : Pr → Bool) (w : World) (hr : Row w 69 2 Pr.cells v l) (hl : l.length ≤ 4611686018427387904)
    (hp : Says S g lb Pr.val p w) (eg : ∀ args w, (callFunc g args).run Try.prog w = .ok (.enter g args) w) :
    Calls Try.prog 48 #[v, .func (.func g) #[] lb] w fun e w' => e = .returned (.int .i64 (idx p l 0)) ∧ Below w.heap.size w w' := by
  obtain ⟨A, c, rfl⟩ := hr.shape
  have HR := Lib.hid hr
  have HP := Lib.hid hp
  clear hr hp
  go_enter Try.func48, Try.ntmps48
  go_wp2
  go_loopg [5, 8] l.length (fun gg _ s8 wr => ∃ k : Nat, k ≤ l.length ∧ l.length - k ≤ gg ∧ s8 = .int .i64 k ∧ Hid (Below w.heap.size w wr) ∧ Hid (idx p l 0 = idx p (l.drop k) k))
  case atStart => exact ⟨0, Nat.zero_le _, by omega, rfl, Lib.hid (Below.refl _ w), Lib.hid rfl⟩
  case round =>
    obtain ⟨k, hk, hg, rfl, HB, HI⟩ := hrel
    by_cases hlt : k < l.length
    · obtain ⟨gb, c', hv, hgl, hcl⟩ := HR.out.form (by omega)
      injection hv with hA _ hc
      subst hA hc
      have r := HR.out.kept (S := fun _ => False) (Kept.of_below HB.out _) (fun _ _ h => h)
      have c0 := r.cell (fun _ => rfl) k 0 hlt (by omega)
      have c1 := r.cell (fun _ => rfl) k 1 hlt (by omega)
      have hcall := HP.out wr l[k] (Kept.of_below HB.out S)
      have HS := Lib.hid (show idx p (l.drop k) k = if p l[k] then (k : Int) else idx p (l.drop (k + 1)) (k + 1) by rw [List.drop_eq_getElem_cons hlt]; rfl)
      clear r
      generalize l[k] = x at *
      simp only [Pr.cells, List.getElem?_cons_zero, List.getElem?_cons_succ, Nat.add_zero, Nat.mul_one] at c0 c1
      have hltz : (k : Int) < (l.length : Int) := by omega
      have HX := Lib.hid HS.out
      clear HS
      go_wp2_with (fail)
      refine hcall.mono ?_
      rintro e w' ⟨rfl, hb'⟩
      have HB' := Lib.hid (below_next HB.out hb')
      clear hb' hcall
      cases hq : p x with
      | true =>
        rw [hq] at HX
        go_wp2
        go_ret
        exact ⟨ret_int (by rw [HI.out, HX.out]; rfl), HB'.out⟩
      | false =>
        rw [hq] at HX
        go_wp2
        go_roundg (l.length - (k + 1))
        case measure => omega
        case rel => exact ⟨k + 1, by omega, Nat.le_refl _, by go_num, HB', Lib.hid (by rw [HI.out, HX.out]; rfl)⟩
    · go_wp2
      go_ret
      exact ⟨ret_int (by rw [HI.out, List.drop_of_length_le (by omega)]; rfl), HB.out⟩

set_option maxHeartbeats 2000000 in
theorem idx_ints (S : Nat → Prop) (v : Value) (l : List Int) (g : Nat) (lb : Array Value) (p : Int → Bool) (w : World) (hr : Row w 3 1 icells v l) (hl : l.length ≤ 4611686018427387904)
    (hp : Says S g lb ival p w) (eg : ∀ args w, (callFunc g args).run Try.prog w = .ok (.enter g args) w) :
    Calls Try.prog 54 #[v, .func (.func g) #[] lb] w fun e w' => e = .returned (.int .i64 (idx p l 0)) ∧ Below w.heap.size w w' := by
  obtain ⟨A, c, rfl⟩ := hr.shape
  have HR := Lib.hid hr
  have HP := Lib.hid hp
  clear hr hp
  go_enter Try.func54, Try.ntmps54
  go_wp2
  go_loopg [5, 8] l.length (fun gg _ s8 wr => ∃ k : Nat, k ≤ l.length ∧ l.length - k ≤ gg ∧ s8 = .int .i64 k ∧ Hid (Below w.heap.size w wr) ∧ Hid (idx p l 0 = idx p (l.drop k) k))
  case atStart => exact ⟨0, Nat.zero_le _, by omega, rfl, Lib.hid (Below.refl _ w), Lib.hid rfl⟩
  case round =>
    obtain ⟨k, hk, hg, rfl, HB, HI⟩ := hrel
    by_cases hlt : k < l.length
    · obtain ⟨gb, c', hv, hgl, hcl⟩ := HR.out.form (by omega)
      injection hv with hA _ hc
      subst hA hc
      have r := HR.out.kept (S := fun _ => False) (Kept.of_below HB.out _) (fun _ _ h => h)
      have c0 := r.cell (fun _ => rfl) k 0 hlt (by omega)
      have hcall := HP.out wr l[k] (Kept.of_below HB.out S)
      have HS := Lib.hid (show idx p (l.drop k) k = if p l[k] then (k : Int) else idx p (l.drop (k + 1)) (k + 1) by rw [List.drop_eq_getElem_cons hlt]; rfl)
      clear r
      generalize l[k] = x at *
      simp only [icells, List.getElem?_cons_zero, List.getElem?_cons_succ, Nat.add_zero, Nat.mul_one] at c0
      have hltz : (k : Int) < (l.length : Int) := by omega
      have HX := Lib.hid HS.out
      clear HS
      go_wp2_with (fail)
      refine hcall.mono ?_
      rintro e w' ⟨rfl, hb'⟩
      have HB' := Lib.hid (below_next HB.out hb')
      clear hb' hcall
      cases hq : p x with
      | true =>
        rw [hq] at HX
        go_wp2
        go_ret
        exact ⟨ret_int (by rw [HI.out, HX.out]; rfl), HB'.out⟩
      | false =>
        rw [hq] at HX
        go_wp2
        go_roundg (l.length - (k + 1))
        case measure => omega
        case rel => exact ⟨k + 1, by omega, Nat.le_refl _, by go_num, HB', Lib.hid (by rw [HI.out, HX.out]; rfl)⟩
    · go_wp2
      go_ret
      exact ⟨ret_int (by rw [HI.out, List.drop_of_length_le (by omega)]; rfl), HB.out⟩

theorem any_ints (S : Nat → Prop) (v : Value) (l : List Int) (g : Nat) (lb : Array Value) (p : Int → Bool) (w : World) (hr : Row w 3 1 icells v l) (hl : l.length ≤ 4611686018427387904)
    (hp : Says S g lb ival p w) (eg : ∀ args w, (callFunc g args).run Try.prog w = .ok (.enter g args) w) :
    Calls Try.prog 42 #[v, .func (.func g) #[] lb] w fun e w' => e = .returned (.bool (l.any p)) ∧ Below w.heap.size w w' := by
  have hc := idx_ints S v l g lb p w hr hl hp eg
  have HI := Lib.hid (idx_ge p l 0 (Int.le_refl 0)).1
  generalize idx p l 0 = i at hc HI
  go_enter Try.func42, Try.ntmps42
  go_wp2_with (fail)
  refine hc.mono ?_
  rintro e w' ⟨rfl, hb'⟩
  go_wp2
  go_ret
  exact ⟨ret_bool (by rw [Bool.eq_iff_iff, ← HI.out, decide_eq_true_iff]), hb'⟩

/-- The nodes that there are: the closure of known, behind a pointer. -/
theorem known_says (S : Nat → Prop) (g nb : Nat) (nodes : Int) (w : World) (hp : w.cell? ⟨nb, 0, none⟩ = some (.pointer (some ⟨g, 0, none⟩))) (hg : w.cell? ⟨g, 0, none⟩ = some (.int .i64 nodes)) (hnb : nb < w.heap.size) (hgb : g < w.heap.size) (hS : ¬ S nb) (hS2 : ¬ S g) :
    Says S 43 #[.pointer (some ⟨nb, 0, none⟩)] ival (fun x => decide (x < 0 ∨ nodes ≤ x)) w := by
  intro W x hW
  have c1 := hW.cell (p := ⟨nb, 0, none⟩) hnb hS
  have c2 := hW.cell (p := ⟨g, 0, none⟩) hgb hS2
  rw [hp] at c1
  rw [hg] at c2
  clear hp hg
  show Calls Try.prog _ #[.int .i64 x, .pointer (some ⟨nb, 0, none⟩)] W _
  by_cases h : x < 0
  · go_enter Try.func43, Try.ntmps43
    go_wp2
    go_ret
    exact ⟨ret_bool (by simp [h]), Below.refl _ _⟩
  · have h2 : 0 ≤ x := by omega
    go_enter Try.func43, Try.ntmps43
    go_wp2
    go_ret
    exact ⟨ret_bool (by simp; omega), Below.refl _ _⟩

theorem at_says (S : Nat → Prop) (nb : Nat) (id : Int) (w : World) (hp : w.cell? ⟨nb, 0, none⟩ = some (.int .i64 id)) (hnb : nb < w.heap.size) (hS : ¬ S nb) :
    Says S 45 #[.pointer (some ⟨nb, 0, none⟩)] Letter.val (fun x => x.id == id) w := by
  intro W x hW
  have c1 := hW.cell (p := ⟨nb, 0, none⟩) hnb hS
  rw [hp] at c1
  clear hp
  show Calls Try.prog _ #[.agg #[.int .i64 x.id, .int .i64 x.src, .int .i64 x.dst, .string x.body], .pointer (some ⟨nb, 0, none⟩)] W _
  have hlt := Nat.lt_of_lt_of_le hnb hW.size
  go_enter Try.func45, Try.ntmps45
  go_wp2
  go_ret
  exact ⟨rfl, (Below.refl _ _).alloc (Nat.le_refl _) _⟩

theorem drop_says (S : Nat → Prop) (nb : Nat) (nd : Int) (w : World) (hp : w.cell? ⟨nb, 0, none⟩ = some (.int .i64 nd)) (hnb : nb < w.heap.size) (hS : ¬ S nb) :
    Says S 33 #[.pointer (some ⟨nb, 0, none⟩)] Letter.val (fun x => x.src == nd || x.dst == nd) w := by
  intro W x hW
  have c1 := hW.cell (p := ⟨nb, 0, none⟩) hnb hS
  rw [hp] at c1
  clear hp
  show Calls Try.prog _ #[.agg #[.int .i64 x.id, .int .i64 x.src, .int .i64 x.dst, .string x.body], .pointer (some ⟨nb, 0, none⟩)] W _
  have hlt := Nat.lt_of_lt_of_le hnb hW.size
  have hq : ∀ b, (x.src == nd) = b → Calls Try.prog 33 #[.agg #[.int .i64 x.id, .int .i64 x.src, .int .i64 x.dst, .string x.body], .pointer (some ⟨nb, 0, none⟩)] W fun e w' => e = .returned (.bool (b || x.dst == nd)) ∧ Below W.heap.size W w' := by
    intro b hb
    cases b with
    | true =>
      go_enter Try.func33, Try.ntmps33
      go_wp2
      go_ret
      exact ⟨rfl, (Below.refl _ _).alloc (Nat.le_refl _) _⟩
    | false =>
      go_enter Try.func33, Try.ntmps33
      go_wp2
      go_ret
      exact ⟨rfl, (Below.refl _ _).alloc (Nat.le_refl _) _⟩
  exact hq _ rfl

theorem info3' : (Try.prog.info? 3).map (fun i => (i.zero, i.size, i.bytes)) = some (some (.int .i64 0), 1, 8) := by kernel_rfl
theorem eq_pair (p q r s : Int) (w : World) : (binOp .eql 69 (.agg #[.int .i64 p, .int .i64 q]) (.agg #[.int .i64 r, .int .i64 s])).run Try.prog w = .ok (.bool (p == r && q == s)) w := by
  have u3 := Try.underlying3
  have a3 := Try.isAgg3
  have z3 := Try.sizeOf3
  obtain ⟨i0, hi, hz0, hz1, hz2⟩ := info_parts info3'
  have hc : Try.prog.cellsOf 3 = 1 := by kernel_rfl
  rw [run_eql_struct, show (10000 : Nat) = 9999 + 1 from rfl, run_equalIn_array w 9999 _ _ Try.underlying69 hi, hc]
  simp only [List.range, List.range.loop, Op.eqItems]
  go_simp
  by_cases h1 : p = r <;> by_cases h2 : q = s <;> simp [h1, h2]

theorem join_says (S : Nat → Prop) (na nb : Nat) (a b : Int) (w : World) (hpa : w.cell? ⟨na, 0, none⟩ = some (.int .i64 a)) (hna : na < w.heap.size) (hSa : ¬ S na) (hpb : w.cell? ⟨nb, 0, none⟩ = some (.int .i64 b)) (hnb : nb < w.heap.size) (hS : ¬ S nb) :
    Says S 31 #[.pointer (some ⟨na, 0, none⟩), .pointer (some ⟨nb, 0, none⟩)] Pr.val (fun x => x.1 == min a b && x.2 == max a b) w := by
  intro W x hW
  have c1 := hW.cell (p := ⟨na, 0, none⟩) hna hSa
  rw [hpa] at c1
  have c2 := hW.cell (p := ⟨nb, 0, none⟩) hnb hS
  rw [hpb] at c2
  clear hpa hpb
  show Calls Try.prog _ #[.agg #[.int .i64 x.1, .int .i64 x.2], .pointer (some ⟨na, 0, none⟩), .pointer (some ⟨nb, 0, none⟩)] W _
  have hlta := Nat.lt_of_lt_of_le hna hW.size
  have hltb := Nat.lt_of_lt_of_le hnb hW.size
  have heq := eq_pair
  go_enter Try.func31, Try.ntmps31
  go_wp2
  go_region_held3 (fun w' => w'.cell? ⟨W.heap.size, 0, none⟩ = some (.int .i64 x.1) ∧ w'.cell? ⟨W.heap.size, 1, none⟩ = some (.int .i64 x.2) ∧ w'.cell? ⟨na, 0, none⟩ = some (.int .i64 a) ∧ w'.cell? ⟨nb, 0, none⟩ = some (.int .i64 b)) (first | go_keep | (exact ⟨(hb1.cell (by simp)).trans (by go_simp), (hb1.cell (by simp)).trans (by go_simp), (hb1.cell (by simp; omega)).trans (by go_simp), (hb1.cell (by simp; omega)).trans (by go_simp)⟩))
    (((with_reducible refine (net_of _ _ _).mono ?_); rintro e w1 ⟨rfl, hb1⟩))
  go_wp2
  go_ret
  exact ⟨rfl, below_next ((Below.refl _ _).alloc (Nat.le_refl _) _).drew hb1⟩

set_option maxHeartbeats 2000000 in
theorem index_pairs (v : Value) (l : List Pr) (a b : Int) (w : World) (hr : Row w 69 2 Pr.cells v l) (hl : l.length ≤ 4611686018427387904) :
    Calls Try.prog 47 #[v, .agg #[.int .i64 a, .int .i64 b]] w fun e w' => e = .returned (.int .i64 (idx (fun x : Pr => a == x.1 && b == x.2) l 0)) ∧ Below w.heap.size w w' := by
  obtain ⟨p, hp⟩ : ∃ p, p = (fun x : Pr => a == x.1 && b == x.2) := ⟨_, rfl⟩
  rw [← hp]
  have HP := Lib.hid hp
  clear hp
  obtain ⟨A, c, rfl⟩ := hr.shape
  have HR := Lib.hid hr
  clear hr
  have heq := eq_pair
  go_enter Try.func47, Try.ntmps47
  go_wp2
  go_loopg [5, 8] l.length (fun gg _ s8 wr => ∃ k : Nat, k ≤ l.length ∧ l.length - k ≤ gg ∧ s8 = .int .i64 k ∧ Hid (Below w.heap.size w wr) ∧ wr.cell? ⟨w.heap.size, 0, none⟩ = some (.int .i64 a) ∧ wr.cell? ⟨w.heap.size, 1, none⟩ = some (.int .i64 b) ∧ Hid (idx p l 0 = idx p (l.drop k) k))
  case atStart => exact ⟨0, Nat.zero_le _, by omega, rfl, Lib.hid ((Below.refl _ w).alloc (Nat.le_refl _) _), by go_simp, by go_simp, Lib.hid rfl⟩
  case round =>
    obtain ⟨k, hk, hg, rfl, HB, b0, b1, HI⟩ := hrel
    by_cases hlt : k < l.length
    · obtain ⟨gb, c', hv, hgl, hcl⟩ := HR.out.form (by omega)
      injection hv with hA _ hc
      subst hA hc
      have r := HR.out.kept (S := fun _ => False) (Kept.of_below HB.out _) (fun _ _ h => h)
      have c0 := r.cell (fun _ => rfl) k 0 hlt (by omega)
      have c1 := r.cell (fun _ => rfl) k 1 hlt (by omega)
      have HS := Lib.hid (show idx p (l.drop k) k = if p l[k] then (k : Int) else idx p (l.drop (k + 1)) (k + 1) by rw [List.drop_eq_getElem_cons hlt]; rfl)
      clear r
      generalize l[k] = x at *
      simp only [Pr.cells, List.getElem?_cons_zero, List.getElem?_cons_succ, Nat.add_zero, Nat.mul_one] at c0 c1
      have hltz : (k : Int) < (l.length : Int) := by omega
      have h0z : (0 : Int) ≤ (k : Int) := by omega
      have HX := Lib.hid HS.out
      clear HS
      cases hq : (a == x.1 && b == x.2) with
      | true =>
        have hpx := Lib.hid (show p x = true by rw [HP.out]; exact hq)
        go_wp2
        go_quiet (fail)
        go_wp2
        go_ret
        exact ⟨ret_int (by rw [HI.out, HX.out, hpx.out]; rfl), pw_drewN HB.out _⟩
      | false =>
        have hpx := Lib.hid (show p x = false by rw [HP.out]; exact hq)
        go_wp2
        go_quiet (fail)
        go_wp2
        go_roundg (l.length - (k + 1))
        case measure => omega
        case rel => exact ⟨k + 1, by omega, Nat.le_refl _, by go_num, Lib.hid (pw_drewN HB.out _), by go_simp, by go_simp, Lib.hid (by rw [HI.out, HX.out, hpx.out]; rfl)⟩
    · go_wp2
      go_ret
      exact ⟨ret_int (by rw [HI.out, List.drop_of_length_le (by omega)]; rfl), HB.out⟩

theorem contains_pairs (v : Value) (l : List Pr) (a b : Int) (w : World) (hr : Row w 69 2 Pr.cells v l) (hl : l.length ≤ 4611686018427387904) :
    Calls Try.prog 27 #[v, .agg #[.int .i64 a, .int .i64 b]] w fun e w' => e = .returned (.bool (l.any fun x : Pr => a == x.1 && b == x.2)) ∧ Below w.heap.size w w' := by
  have hr' := hr.alloc (.cells #[.int .i64 a, .int .i64 b] 69)
  have hc := index_pairs v l a b _ hr' hl
  have HI := Lib.hid (idx_ge (fun x : Pr => a == x.1 && b == x.2) l 0 (Int.le_refl 0)).1
  generalize idx (fun x : Pr => a == x.1 && b == x.2) l 0 = i at hc HI
  generalize (l.any fun x : Pr => a == x.1 && b == x.2) = q at HI ⊢
  clear hr hr'
  go_enter Try.func27, Try.ntmps27
  go_wp2_with (fail)
  refine hc.mono ?_
  rintro e w' ⟨rfl, hb'⟩
  go_wp2
  go_ret
  exact ⟨ret_bool (by rw [Bool.eq_iff_iff, ← HI.out, decide_eq_true_iff]), below_next ((Below.refl _ _).alloc (Nat.le_refl _) _) hb'⟩
end Go.Proofs.Ytaaeiljeanfinaa
