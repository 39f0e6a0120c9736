import Derived.Test.YtpimpdgibcjbeaaRlR
import Derived.Test.YtpimpdgibcjbeaaORange
namespace Go.Proofs.Ytpimpdgibcjbeaa
open Go Go.RowKit Go.Shelf
set_option linter.unusedVariables false
set_option linter.unusedSimpArgs false
attribute [local go_sem] Oper.semAt_some

/-! slices.Backward of entries. -/
def bk (l : List Ent) (k : Nat) : Nat × Ent := (l.length - 1 - k, l[l.length - 1 - k]?.getD ⟨0, ⟨#[]⟩⟩)
set_option maxRecDepth 100000 in
set_option maxHeartbeats 2000000 in
theorem backward1_in (n : Nat) (hn : 1 ≤ n) (l Bs cap C : Nat) (A : Option Addr) (es : List Ent) (hreach : es.length ≤ 1048576) (J Jx : List (Nat × Ent) → World → Prop)
    (hY : ∀ pre x W, J pre W → pre.length < es.length → YieldAt Fence.wide (n - 1) Try.prog l #[.int .i64 (x.1 : Int), .agg #[.int .i64 x.2.term, .string x.2.data]] W fun e W' =>
      ((e = .returned (.bool true) ∧ J (pre ++ [x]) W' ∧ CellsStay W W') ∨ (e = .returned (.bool false) ∧ Jx (pre ++ [x]) W')) ∧ KeepsFrom C W W')
    (W : World) (hBs : W.cell? ⟨Bs, 0, none⟩ = some (.slice A es.length cap)) (hc : 0 < es.length → ∃ b, A = some ⟨b, 0, none⟩ ∧ ∀ j u, (es.flatMap Ent.cells)[j]? = some u → W.cell? ⟨b, j, none⟩ = some u) (h0 : J [] W) :
    CallsIn Fence.wide n Try.prog 52 #[.func (.yield l) #[] #[], .pointer (some ⟨Bs, 0, none⟩)] W fun e W' => (∃ v, e = .returned v) ∧
      ((∃ ys, ys = upto (bk es) es.length ∧ J ys W') ∨ (∃ pre, (∃ k, k < es.length ∧ pre = upto (bk es) (k + 1)) ∧ Jx pre W')) := by
  refine callsIn_of_wp Try.func52 rfl trivial ?_ rfl
  simp only [Try.ntmps52, List.size_toArray, List.length_cons, List.length_nil, Nat.reduceAdd, Nat.reduceSub, Array.replicate_succ, Array.replicate_zero, List.push_toArray, List.append_toArray, List.nil_append, List.cons_append]
  have hw : IntKind.i64.wrap ((es.length : Int) - 1) = (es.length : Int) - 1 := by rw [IntKind.wrap_i64]; omega
  gi_wp2
  gi_loopw [3] (fun i wr => ∃ k : Nat, k ≤ es.length ∧ i = .int .i64 ((es.length : Int) - 1 - k) ∧ J (upto (bk es) k) wr ∧ CellsStay W wr)
    (fun i _ => (intOf i + 1).toNat)
  case atStart => exact ⟨0, Nat.zero_le _, by simp, h0, CellsStay.refl _⟩
  case round =>
    obtain ⟨k, hk, rfl, hJs, hnx⟩ := hrel
    by_cases hlt : k < es.length
    · obtain ⟨b, rfl, hcell⟩ := hc (by omega)
      obtain ⟨i, hi⟩ : ∃ i : Nat, es.length - 1 - k = i := ⟨_, rfl⟩
      have hil : i < es.length := by omega
      have hix : es[es.length - 1 - k]?.getD ⟨0, ⟨#[]⟩⟩ = es[i] := by rw [hi, List.getElem?_eq_getElem hil]; rfl
      have hbk : bk es k = (i, es[i]) := by unfold bk; rw [hix, hi]
      obtain ⟨fn, tmps, assign, body, hy, hR⟩ := hY _ (bk es k) wr hJs (by rw [upto_length]; exact hlt)
      rw [hbk] at hy
      have e0 := flat_get (sz := 2) (enc := Ent.cells) (fun _ => rfl) es i 0 hil (show 0 < 2 by omega)
      have e1 := flat_get (sz := 2) (enc := Ent.cells) (fun _ => rfl) es i 1 hil (show 1 < 2 by omega)
      have c0 := hnx.cell (p := ⟨b, i * 2 + 0, none⟩) (hcell _ _ (e0.trans rfl))
      have c1 := hnx.cell (p := ⟨b, i * 2 + 1, none⟩) (hcell _ _ (e1.trans rfl))
      have hbs := hnx.cell (p := ⟨Bs, 0, none⟩) hBs
      have hiz : (es.length : Int) - 1 - (k : Int) = (i : Int) := by omega
      have hw2 : IntKind.i64.wrap ((i : Int) - 1) = (i : Int) - 1 := by rw [IntKind.wrap_i64]; omega
      generalize es[i] = x at *
      dsimp only at hy
      simp only [Nat.add_zero] at c0 c1
      have hilz : (i : Int) < (es.length : Int) := by omega
      rw [hiz]
      clear e0 e1 hcell hc
      gi_wp2
      refine hR.mono ?_
      rintro e W3 ⟨⟨rfl, hJ3, hk3⟩ | ⟨rfl, hJx3⟩, _⟩
      · gi_wp2
        go_roundw
        case rel => exact ⟨k + 1, by omega, by first | (simp; done) | (simp; omega), by rw [upto_succ]; exact hJ3, hnx.trans hk3⟩
        case measure => simp [intOf] <;> omega
      · gi_wp2
        refine bodyPost_ret (results_none rfl _ _ _) rfl ?_
        exact ⟨⟨_, rfl⟩, .inr ⟨_, ⟨k, by omega, (upto_succ _ _).symm⟩, hJx3⟩⟩
    · obtain rfl : k = es.length := by omega
      have hneg : (es.length : Int) - 1 - (es.length : Int) = -1 := by omega
      rw [hneg]
      gi_wp2
      go_end0
      exact ⟨⟨_, rfl⟩, .inl ⟨_, rfl, hJs⟩⟩
set_option maxHeartbeats 1000000 in
theorem backward_in (n : Nat) (a : Option Addr) (len cap : Nat) (w : World) :
    CallsIn Fence.wide n Try.prog 44 #[.slice a len cap] w fun e w' => e = .returned (.func (.func 52) #[] #[.pointer (some ⟨w.heap.size, 0, none⟩)]) ∧ w' = w.alloc (.cells #[.slice a len cap] 36) := by
  refine callsIn_of_wp Try.func44 rfl trivial ?_ rfl
  simp only [Try.ntmps44, List.size_toArray, List.length_cons, List.length_nil, Nat.reduceAdd, Nat.reduceSub, Array.replicate_succ, Array.replicate_zero, List.push_toArray, List.append_toArray, List.nil_append, List.cons_append]
  gi_wp2
  go_ret
  exact ⟨rfl, rfl⟩
theorem backward_stops (n : Nat) (hn : 1 ≤ n) (C Bs cap : Nat) (A : Option Addr) (es : List Ent) (hreach : es.length ≤ 1048576) (w : World) (hBl : Bs < w.heap.size)
    (hBs : w.cell? ⟨Bs, 0, none⟩ = some (.slice A es.length cap)) (hc : 0 < es.length → ∃ b, A = some ⟨b, 0, none⟩ ∧ ∀ j u, (es.flatMap Ent.cells)[j]? = some u → w.cell? ⟨b, j, none⟩ = some u) :
    SeqO C Fence.wide n Try.prog 52 #[.pointer (some ⟨Bs, 0, none⟩)] (fun x : Nat × Ent => #[Value.int .i64 (x.1 : Int), .agg #[.int .i64 x.2.term, .string x.2.data]]) CellsStay (fun ys => ys = upto (bk es) es.length) (fun pre => ∃ k, k < es.length ∧ pre = upto (bk es) (k + 1)) es.length w := fun l J Jx W hW hC _ _ hY h0 =>
  backward1_in n hn l Bs cap C A es hreach J Jx hY W ((hW.cell (p := ⟨Bs, 0, none⟩) hBl).trans hBs) (fun h => by
    obtain ⟨b, hA, hcell⟩ := hc h
    exact ⟨b, hA, fun j u hu => (hW.cell (p := ⟨b, j, none⟩) (World.block_lt_of_cell? w _ (hcell j u hu))).trans (hcell j u hu)⟩) h0
end Go.Proofs.Ytpimpdgibcjbeaa
