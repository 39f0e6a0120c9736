-- written by a program of ours (a template of wip/pure, filled for this seat)
import Derived.Test.YtafmdlegelbfpaaHCheckAll
import Derived.Test.YtafmdlegelbfpaaHEncode
import Derived.Test.YtafmdlegelbfpaaPAllx0
import Derived.Test.YtafmdlegelbfpaaPAllx1003
import Derived.Test.YtafmdlegelbfpaaPOp
import Derived.Test.YtafmdlegelbfpaaPOpen
/-! OpStamps: plain. -/
namespace Go.Proofs.Ytafmdlegelbfpaa.Pure
set_option linter.unusedVariables false
set_option linter.unusedSimpArgs false
open Go Go.RowKit Go.Proofs.Ytafmdlegelbfpaa.PAll Go.Proofs.YtafmdlegelbfpaaW.PrintWords Go.Proofs.YtafmdlegelbfpaaW.PrintLast Go.Proofs.Ytafmdlegelbfpaa.Bytes Go.Proofs.Ytafmdlegelbfpaa.Fn

theorem eta_op (x : S27) : (⟨x.f0, x.f1, x.f2, x.f3, x.f4, x.f5⟩ : S27) = x := rfl
theorem u64_range (x : Int) : 0 ≤ IntKind.u64.wrap x ∧ IntKind.u64.wrap x < 18446744073709551616 := by
  have : IntKind.u64.wrap x = x % 18446744073709551616 := by simp [IntKind.wrap, IntKind.bits, IntKind.signed]
  omega
theorem stamps_client (x : Int) : 0 ≤ wrap64 (Int.tmod (IntKind.u64.wrap x) 1001) ∧ wrap64 (Int.tmod (IntKind.u64.wrap x) 1001) ≤ 1000 := by
  have h := u64_range x
  generalize IntKind.u64.wrap x = u at *
  have e : Int.tmod u 1001 = u % 1001 := Int.tmod_eq_emod_of_nonneg h.1
  rw [e, wrap64_id (by omega) (by omega)]
  omega
theorem stamps_seq (x : Int) : 1 ≤ wrap64 (1 + wrap64 (Int.tmod (IntKind.u64.wrap x) 1048576)) ∧ wrap64 (1 + wrap64 (Int.tmod (IntKind.u64.wrap x) 1048576)) ≤ 1048576 := by
  have h := u64_range x
  generalize IntKind.u64.wrap x = u at *
  have e : Int.tmod u 1048576 = u % 1048576 := Int.tmod_eq_emod_of_nonneg h.1
  rw [e, wrap64_id (n := u % 1048576) (by omega) (by omega), wrap64_id (by omega) (by omega)]
  omega
theorem stamps_end (a1 a2 : Int) (acc back : List S27) (ha : acc.all opOk = true) (hl : acc.length ≤ 32) (hb : back.all opOk = true) (hbl : back.length = acc.length) (k : Nat) :
    (if (acc.length : Int) = 0 then ((op_CheckAll.f k (wrap64 (Int.tmod (IntKind.u64.wrap (a1)) 1001)) (wrap64 (1 + (wrap64 (Int.tmod (IntKind.u64.wrap (a2)) 1048576)))) acc).bind fun t154 => (if t154 = 80 then ((op_CheckAll.f k (wrap64 (Int.tmod (IntKind.u64.wrap (a1)) 1001)) (wrap64 (1 + (wrap64 (Int.tmod (IntKind.u64.wrap (a2)) 1048576)))) back).bind fun t155 => (some (t155 == 80))) else (some false))) else ((op_CheckAll.f k (wrap64 (Int.tmod (IntKind.u64.wrap (a1)) 1001)) (wrap64 (1 + (wrap64 (Int.tmod (IntKind.u64.wrap (a2)) 1048576)))) acc).bind fun t156 => (if t156 = 0 then ((op_CheckAll.f k (wrap64 (Int.tmod (IntKind.u64.wrap (a1)) 1001)) (wrap64 (1 + (wrap64 (Int.tmod (IntKind.u64.wrap (a2)) 1048576)))) back).bind fun t157 => (some (t157 == 0))) else (some false)))) = some true := by
  have hc := stamps_client a1
  have hs := stamps_seq a2
  generalize wrap64 (Int.tmod (IntKind.u64.wrap a1) 1001) = c at *
  generalize wrap64 (1 + wrap64 (Int.tmod (IntKind.u64.wrap a2) 1048576)) = s at *
  by_cases h0 : (acc.length : Int) = 0
  · have r1 : ¬ reqOk c s acc = true := by
      unfold reqOk; rw [decide_eq_false (by omega)]; simp
    have r2 : ¬ reqOk c s back = true := by
      unfold reqOk; rw [decide_eq_false (by omega)]; simp
    rw [if_pos h0, checkAll_f, if_neg r1, Option.bind_some, if_pos rfl, checkAll_f, if_neg r2]
    rfl
  · have r1 : reqOk c s acc = true := by
      unfold reqOk; rw [decide_eq_true (by omega), ha]; rfl
    have r2 : reqOk c s back = true := by
      unfold reqOk; rw [decide_eq_true (by omega), hb]; rfl
    rw [if_neg h0, checkAll_f, if_pos r1, Option.bind_some, if_pos rfl, checkAll_f, if_pos r2]
    rfl
theorem stamps_l1 (a1 a2 : Int) (acc : List S27) (ha : acc.all opOk = true) (hl : acc.length ≤ 32) : ∀ (d i : Nat) (back : List S27), i + d = acc.length → back.length = i → back.all opOk = true →
    Ev (fun k => skylarklaw08_OpStamps.l1 k a1 a2 acc back (acc.length : Int) (i : Int)) true := by
  intro d
  induction d with
  | zero =>
    intro i back hi hb hk
    refine Ev.step (f := fun _ => some true) (fun k => ?_) (Ev.now _)
    rw [skylarklaw08_OpStamps.l1, if_neg (by omega)]
    exact stamps_end a1 a2 acc back ha hl hk (by omega) k
  | succ d ih =>
    intro i back hi hb hk
    have hlt : acc.length - 1 - i < acc.length := by omega
    have e : wrap64 (wrap64 ((acc.length : Int) - 1) - (i : Int)) = ((acc.length - 1 - i : Nat) : Int) := by
      rw [wrap64_id (n := (acc.length : Int) - 1) (by omega) (by omega), wrap64_id (by omega) (by omega)]
      omega
    refine Ev.step (fun k => ?_) (ih (i + 1) (back ++ [acc[acc.length - 1 - i]]) (by omega) (by simp; omega) ?_)
    · rw [skylarklaw08_OpStamps.l1, if_pos (by omega), e, if_pos (by omega), if_pos (by omega), if_pos (by omega), eta_op, rd_at acc _ hlt, wrap64_id (n := (i : Int) + 1) (by omega) (by omega)]
      rfl
    · rw [List.all_append, hk, List.all_cons, List.all_nil, Bool.and_true, Bool.true_and]
      exact List.all_eq_true.1 ha _ (List.getElem_mem _)
theorem stamps_l0 (l : List S27) (hl : l.length ≤ 9223372036854775806) (a1 a2 : Int) : ∀ (d i : Nat) (acc : List S27), i + d = l.length → acc.all opOk = true → acc.length ≤ 32 →
    Ev (fun k => skylarklaw08_OpStamps.l0 k l a1 a2 acc (i : Int)) true := by
  intro d
  induction d with
  | zero =>
    intro i acc hi ha hk
    refine Ev.step (f := fun k => skylarklaw08_OpStamps.j1 k l a1 a2 acc (i : Int) false) (fun k => ?_) (Ev.step (fun k => ?_) (stamps_l1 a1 a2 acc ha hk acc.length 0 [] (by omega) rfl rfl))
    · rw [skylarklaw08_OpStamps.l0, if_neg (by omega)]
    · rw [skylarklaw08_OpStamps.j1, if_neg (by decide)]
      rfl
  | succ d ih =>
    intro i acc hi ha hk
    have hlt : i < l.length := by omega
    by_cases h32 : acc.length < 32
    · have hd : decide ((acc.length : Int) < 32) = true := decide_eq_true (by omega)
      by_cases ho : opOk l[i] = true
      · refine Ev.step (f := fun k => skylarklaw08_OpStamps.j1 k l a1 a2 acc (i : Int) true) (fun k => ?_) (Ev.step (fun k => ?_) (ih (i + 1) (acc ++ [l[i]]) (by omega) (by rw [List.all_append, ha, List.all_cons, ho]; rfl) (by simp; omega)))
        · rw [skylarklaw08_OpStamps.l0, if_pos (by omega), hd]
        · rw [skylarklaw08_OpStamps.j1, if_pos rfl, if_pos (by omega), if_pos (by omega), rd_at l i hlt, check_f, if_pos ho, Option.bind_some, if_pos rfl, if_pos (by omega), eta_op, wrap64_id (by omega) (by omega)]
          rfl
      · refine Ev.step (f := fun k => skylarklaw08_OpStamps.j1 k l a1 a2 acc (i : Int) true) (fun k => ?_) (Ev.step (fun k => ?_) (ih (i + 1) acc (by omega) ha hk))
        · rw [skylarklaw08_OpStamps.l0, if_pos (by omega), hd]
        · rw [skylarklaw08_OpStamps.j1, if_pos rfl, if_pos (by omega), if_pos (by omega), rd_at l i hlt, check_f, if_neg ho, Option.bind_some, if_neg (by decide), wrap64_id (by omega) (by omega)]
          rfl
    · have hd : decide ((acc.length : Int) < 32) = false := decide_eq_false (by omega)
      refine Ev.step (f := fun k => skylarklaw08_OpStamps.j1 k l a1 a2 acc (i : Int) false) (fun k => ?_) (Ev.step (fun k => ?_) (stamps_l1 a1 a2 acc ha hk acc.length 0 [] (by omega) rfl rfl))
      · rw [skylarklaw08_OpStamps.l0, if_pos (by omega), hd]
      · rw [skylarklaw08_OpStamps.j1, if_neg (by decide)]
        rfl
theorem stamps_f (l : List S27) (hl : l.length ≤ 9223372036854775806) (a1 a2 : Int) : Ev (fun k => skylarklaw08_OpStamps.f k l a1 a2) true := by
  unfold skylarklaw08_OpStamps.f
  refine Ev.bind works_op ?_
  refine Ev.congr (fun k => ?_) (stamps_l0 l hl a1 a2 l.length 0 [] (by omega) rfl (by simp))
  rw [if_pos rfl]
  rfl
theorem stamps_walk (A0 : Option Addr) (len0 cap0 : Nat) (rows0 : List (List Value)) (a1 a2 : Int) (w : World) (w0 : Open.Rows w [.int .i64, .str, .str, .int .i64, .int .i64, .int .i64] A0 len0 cap0 rows0) (y0 : len0 * Try.prog.bytesOf 27 ≤ 140737488351232) (w1 : (Lit.int .i64 a1).wf = true) (w2 : (Lit.int .i64 a2).wf = true) :
    Calls Try.prog 3 #[.slice A0 len0 cap0, .int .i64 a1, .int .i64 a2] w fun e w' => e = .returned (.bool true) ∧ Below w.heap.size w w' := by
  obtain ⟨xs, rfl, hC, hc, hw⟩ := ops_of w0
  have hb : Try.prog.bytesOf 27 = 64 := by kernel_rfl
  rw [hb] at y0
  obtain ⟨k, hk⟩ := stamps_f xs (by omega) a1 a2
  exact skylarklaw08_OpStamps.calls k A0 cap0 xs a1 a2 true w hC hc (hk k (Nat.le_refl _))
end Go.Proofs.Ytafmdlegelbfpaa.Pure
