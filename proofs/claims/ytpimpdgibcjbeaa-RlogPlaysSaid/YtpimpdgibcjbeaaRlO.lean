import Derived.Test.YtpimpdgibcjbeaaRlN
import Derived.ArgAppend
namespace Go.Proofs.Ytpimpdgibcjbeaa
open Go Go.RowKit
set_option linter.unusedVariables false
set_option linter.unusedSimpArgs false

theorem clip_calls (A : Option Addr) (n c : Nat) (w : World) (hn : n ≤ c) (hc : c ≤ 9223372036854775807) :
    Calls Try.prog 31 #[.slice A n c] w fun e w' => e = .returned (.slice A n n) ∧ w' = w := by
  have h1 : (n : Int) ≤ (c : Int) := by omega
  cases A with
  | none =>
    go_enter Try.func31, Try.ntmps31
    go_wp2
    go_ret
    first | exact ⟨rfl, rfl⟩ | exact ⟨by simp, rfl⟩
  | some ad =>
    go_enter Try.func31, Try.ntmps31
    go_wp2
    go_ret
    first | exact ⟨rfl, rfl⟩ | exact ⟨by simp, rfl⟩
/-! append to a slice that is full: a new row. -/
section
variable {P : Program} {α : Type} {enc : α → List Value}
theorem full_append_run {W : World} (t ty e : TypeId) (z : Value) (sz bytes : Nat) (ht : P.underlying t = some (.slice e)) (hinfo : (P.info? e).map (fun i => (i.zero, i.size, i.bytes)) = some (some z, sz, bytes)) (hz : z.cells.size = sz) (hs0 : 0 < sz) (hb0 : 0 < bytes)
    (A : Option Addr) (n : Nat) (l ys : List α) (hA : (A = none ∧ n = 0) ∨ ∃ gb, A = some ⟨gb, 0, none⟩ ∧ ∀ j u, (l.flatMap enc)[j]? = some u → W.cell? ⟨gb, j, none⟩ = some u) (hn : l.length = n) (ad : Addr) (m c : Nat) (hm : ys.length = m) (hm0 : 0 < m) (hlen : ∀ x, (enc x).length = sz) (hnews : ∀ j u, (ys.flatMap enc)[j]? = some u → W.cell? (ad.add j) = some u)
    (h1 : ∀ x, ∀ u ∈ enc x, u.oneCell' = true) (hl : (n + m) * bytes ≤ 140737488355328) :
    ∃ v1 w1, (Builtin.append_ #[t, t] ty #[.slice A n n, .slice (some ad) m c]).run P W = .ok v1 w1 ∧ Row w1 e sz enc v1 (l ++ ys) ∧ W.grownBy w1 none ∧ (∀ k, v1.ownBlock = some k → W.heap.size ≤ k) := by
  rcases hA with ⟨rfl, rfl⟩ | ⟨gb, rfl, hold⟩
  · obtain rfl : l = [] := List.eq_nil_of_length_eq_zero hn
    obtain ⟨v1, w1, hr, hR, hG, hO⟩ := Row.append_run (P := P) (W := W) t ty e z sz bytes ht hinfo hz hs0 hb0 (.slice none 0 0) [] ys (Row.nil_ ..) ad m c hm hlen hnews h1 (by simpa using hl)
    refine ⟨v1, w1, hr, hR, hG, fun k hk => ?_⟩
    rcases hO with h | h
    · rw [h] at hk; simp [Value.ownBlock] at hk
    · rw [h] at hk; injection hk with hk; omega
  · obtain ⟨i0, hi, hzz⟩ := Option.map_eq_some_iff.1 hinfo
    simp only [Prod.mk.injEq] at hzz
    obtain ⟨hz0, hz1, hz2⟩ := hzz
    have hle : n + m ≤ 140737488355328 := Nat.le_trans (Nat.le_mul_of_pos_right _ hb0) hl
    obtain ⟨v1, w1, hr, hown, hG⟩ := run_append_arg_grows (P := P) W t ty e i0 z sz bytes ht hi hz0 hz1 hz2 hz hs0 ⟨gb, 0, none⟩ n n (l.flatMap enc) (by rw [flat_length hlen, hn]) (fun j u hu => by rw [addr0]; exact hold j u hu) ad m c (ys.flatMap enc) (by rw [flat_length hlen, hm]) hnews (by omega) (by simp only [maxLen]; omega) hl
    refine ⟨v1, w1, hr, ?_, hG, fun k hk => (World.ownsRow.lt hown k hk).1⟩
    unfold Row
    rw [List.length_append, hm, hn, List.flatMap_append]
    refine ⟨hown.1, ?_⟩
    rcases hown.2 with hx | ⟨g, cap, cur, hv, hb, hg, rest⟩
    · exact .inl hx
    · exact .inr ⟨g, cap, cur, hv, Nat.zero_le _, hg, rest⟩
variable {ops : Array Oper} {rest : List Oper} {o : Oper} {a : Act} {Q : Exit → Act → World → Prop} {K : Act → World → Prop} {E : Prop} {W : World}
theorem full_append_step (hgd : o.guard = none) (s x : Operand) (t e : TypeId) (z : Value) (sz bytes : Nat)
    (ho : o.op = .call { callee := .builtin .append, args := #[s, x], argTypes := #[t, t] })
    (ht : P.underlying t = some (.slice e)) (hinfo : (P.info? e).map (fun i => (i.zero, i.size, i.bytes)) = some (some z, sz, bytes)) (hz : z.cells.size = sz) (hs0 : 0 < sz) (hb0 : 0 < bytes)
    (A : Option Addr) (n : Nat) (l ys : List α) (hs : a.eval s = .slice A n n) (ad : Addr) (m c : Nat) (hx : a.eval x = .slice (some ad) m c)
    (hA : (A = none ∧ n = 0) ∨ ∃ gb, A = some ⟨gb, 0, none⟩ ∧ ∀ j u, (l.flatMap enc)[j]? = some u → W.cell? ⟨gb, j, none⟩ = some u) (hn : l.length = n) (hm : ys.length = m) (hm0 : 0 < m) (hlen : ∀ x, (enc x).length = sz) (hnews : ∀ j u, (ys.flatMap enc)[j]? = some u → W.cell? (ad.add j) = some u)
    (h1 : ∀ x, ∀ u ∈ enc x, u.oneCell' = true) (hl : (n + m) * bytes ≤ 140737488355328)
    (h : ∀ v1 w1, Row w1 e sz enc v1 (l ++ ys) → W.grownBy w1 none → (∀ k, v1.ownBlock = some k → W.heap.size ≤ k) → K (a.put o.dst v1) w1) :
    if Region.wanted o (yielded ops a.tmps) = true then Oper.wp P o a W K Q else E := by
  have hw : Region.wanted o (yielded ops a.tmps) = true := by simp [Region.wanted, hgd]
  rw [if_pos hw]
  obtain ⟨v1, w1, hr, h2, h3, h4⟩ := full_append_run (P := P) (W := W) t o.type e z sz bytes ht hinfo hz hs0 hb0 A n l ys hA hn ad m c hm hm0 hlen hnews h1 hl
  unfold Oper.wp execOp
  simp only [ho, resolve, invoke, builtin, Sem.run_bind, Sem.run_pure, Result.andThen_ok, List.map_toArray, List.map_cons, List.map_nil, hs, hx, hr]
  exact h v1 w1 h2 h3 h4
end
/-- How many of the entries are there already. -/
def agree : List Ent → List Ent → Nat
  | x :: a, y :: b => if x.term = y.term then agree a b + 1 else 0
  | _, _ => 0
theorem agree_le (a b : List Ent) : agree a b ≤ b.length := by
  induction b generalizing a with
  | nil => cases a <;> simp [agree]
  | cons y b ih =>
    cases a with
    | nil => simp [agree]
    | cons x a =>
      simp only [agree]
      split
      · simp [ih]
      · simp
theorem agree_step (a b : List Ent) (k : Nat) (x y : Ent) (hx : a[k]? = some x) (hy : b[k]? = some y) : agree (a.drop k) (b.drop k) = if x.term = y.term then agree (a.drop (k + 1)) (b.drop (k + 1)) + 1 else 0 := by
  obtain ⟨h1, rfl⟩ := List.getElem?_eq_some_iff.1 hx
  obtain ⟨h2, rfl⟩ := List.getElem?_eq_some_iff.1 hy
  rw [List.drop_eq_getElem_cons h1, List.drop_eq_getElem_cons h2]
  rfl
theorem agree_out (a b : List Ent) (k : Nat) (hx : a.length ≤ k) : agree (a.drop k) (b.drop k) = 0 := by
  rw [List.drop_eq_nil_of_le hx]
  cases b.drop k <;> rfl
def LogS.merge (s : LogS) (prev term : Int) (l : List Ent) : LogS × Int × Int × Int :=
  if (s.termAt prev).2 ≠ 0 then (s, 0, 0, (s.termAt prev).2)
  else if (s.termAt prev).1 ≠ term then (s, 0, 0, 4)
  else if wrongE prev term l ≠ 0 then (s, 0, 0, wrongE prev term l)
  else
    let a := (prev - s.base).toNat
    let i := agree (s.l.drop a) l
    if i = l.length then (s, prev + l.length, 0, 0) else (⟨s.base, s.term, s.l.take (a + i) ++ l.drop i⟩, prev + l.length, max 0 ((s.l.length : Int) - a - i), 0)
end Go.Proofs.Ytpimpdgibcjbeaa
