-- written by a program of ours (a template of wip/pure, filled for this seat)
import Derived.Test.YtafmdlegelbfpaaPAllx0
import Derived.Test.YtafmdlegelbfpaaShapeC
import Derived.Test.YtafmdlegelbfpaaPOpen
/-! Operations, requests, replies that came in. -/
namespace Go.Proofs.Ytafmdlegelbfpaa.Pure
set_option linter.unusedVariables false
set_option linter.unusedSimpArgs false
open Go Go.RowKit Go.Proofs.Ytafmdlegelbfpaa.PAll Go.Proofs.YtafmdlegelbfpaaW.PrintWords Go.Proofs.YtafmdlegelbfpaaW.PrintLast Go.Proofs.Ytafmdlegelbfpaa.Bytes Go.Proofs.Ytafmdlegelbfpaa.Fn Go.Proofs.Ytafmdlegelbfpaa.Shape
abbrev opSK : List SK := [.int .i64, .str, .str, .int .i64, .int .i64, .int .i64]
abbrev reqSK : List SK := [.int .i64, .int .i64, .row 27 opSK]
abbrev rowSK : List SK := [.str, .int .i64, .str]
abbrev resSK : List SK := [.int .i64, .int .i64, .str, .row 101 rowSK]
abbrev repSK : List SK := [.int .i64, .int .i64, .row 99 resSK, .int .i64, .int .i64]
section
variable {P : Program} {w : World}
theorem open_op {vs : List Value} (h : SK.oks P w opSK vs) : ∃ x : S27, vs = [.int .i64 x.f0, .string x.f1, .string x.f2, .int .i64 x.f3, .int .i64 x.f4, .int .i64 x.f5] ∧ WideOp x := by
  obtain ⟨_, _, rfl, h0, h⟩ := oks_cons h
  obtain ⟨_, _, rfl, h1, h⟩ := oks_cons h
  obtain ⟨_, _, rfl, h2, h⟩ := oks_cons h
  obtain ⟨_, _, rfl, h3, h⟩ := oks_cons h
  obtain ⟨_, _, rfl, h4, h⟩ := oks_cons h
  obtain ⟨_, _, rfl, h5, h⟩ := oks_cons h
  obtain rfl := oks_nil h
  obtain ⟨a, rfl, ha⟩ := ok_int h0
  obtain ⟨b, rfl, hb⟩ := ok_str h1
  obtain ⟨c, rfl, hc⟩ := ok_str h2
  obtain ⟨d, rfl, hd⟩ := ok_int h3
  obtain ⟨e, rfl, he⟩ := ok_int h4
  obtain ⟨f, rfl, hf⟩ := ok_int h5
  exact ⟨⟨a, b, c, d, e, f⟩, rfl, wf_i64 ha, hb, hc, wf_i64 hd, wf_i64 he, wf_i64 hf⟩
theorem open_ops {v : Value} (h : SK.ok P w (.row 27 opSK) v) :
    ∃ (A : Option Addr) (c : Nat) (l : List S27), v = .slice A l.length c ∧ l.length ≤ c ∧ Kd.C k27 w A l.length l ∧ l.length * P.bytesOf 27 ≤ 140737488351232 ∧ ∀ x ∈ l, WideOp x :=
  rows_C k27 rfl WideOp (fun r hr => by
    obtain ⟨x, rfl, hw⟩ := open_op hr
    exact ⟨x, k27_mk w x, hw⟩) h
theorem open_req {vs : List Value} (h : SK.oks P w reqSK vs) :
    ∃ (a b : Int) (A : Option Addr) (c : Nat) (l : List S27), vs = [.int .i64 a, .int .i64 b, .slice A l.length c] ∧ In64 a ∧ In64 b ∧ l.length ≤ c ∧ Kd.C k27 w A l.length l ∧ l.length * P.bytesOf 27 ≤ 140737488351232 ∧ ∀ x ∈ l, WideOp x := by
  obtain ⟨_, _, rfl, h0, h⟩ := oks_cons h
  obtain ⟨_, _, rfl, h1, h⟩ := oks_cons h
  obtain ⟨_, _, rfl, h2, h⟩ := oks_cons h
  obtain rfl := oks_nil h
  obtain ⟨a, rfl, ha⟩ := ok_int h0
  obtain ⟨b, rfl, hb⟩ := ok_int h1
  obtain ⟨A, c, l, rfl, h3, h4, h5, h6⟩ := open_ops h2
  exact ⟨a, b, A, c, l, rfl, wf_i64 ha, wf_i64 hb, h3, h4, h5, h6⟩
/-- Rows, results as any list has them. -/
def WideRow (x : S101) : Prop := x.f0.size ≤ 140737488351232 ∧ In64 x.f1 ∧ x.f2.size ≤ 140737488351232
def WideRes (x : S99) : Prop := In64 x.f0 ∧ In64 x.f1 ∧ x.f2.size ≤ 140737488351232 ∧ (∀ y ∈ x.f3, WideRow y) ∧ x.f3.length ≤ 140737488351232
theorem open_row {vs : List Value} (h : SK.oks P w rowSK vs) : ∃ x : S101, vs = [.string x.f0, .int .i64 x.f1, .string x.f2] ∧ WideRow x := by
  obtain ⟨_, _, rfl, h0, h⟩ := oks_cons h
  obtain ⟨_, _, rfl, h1, h⟩ := oks_cons h
  obtain ⟨_, _, rfl, h2, h⟩ := oks_cons h
  obtain rfl := oks_nil h
  obtain ⟨a, rfl, ha⟩ := ok_str h0
  obtain ⟨b, rfl, hb⟩ := ok_int h1
  obtain ⟨c, rfl, hc⟩ := ok_str h2
  exact ⟨⟨a, b, c⟩, rfl, ha, wf_i64 hb, hc⟩
theorem open_rows {v : Value} (h : SK.ok P w (.row 101 rowSK) v) :
    ∃ (A : Option Addr) (c : Nat) (l : List S101), v = .slice A l.length c ∧ l.length ≤ c ∧ Kd.C k101 w A l.length l ∧ l.length * P.bytesOf 101 ≤ 140737488351232 ∧ ∀ x ∈ l, WideRow x :=
  rows_C k101 rfl WideRow (fun r hr => by
    obtain ⟨x, rfl, hw⟩ := open_row hr
    exact ⟨x, k101_mk w x, hw⟩) h
theorem open_res (hb0 : 0 < P.bytesOf 101) {vs : List Value} (h : SK.oks P w resSK vs) : ∃ x : S99, k99.K w x vs ∧ WideRes x := by
  obtain ⟨_, _, rfl, h0, h⟩ := oks_cons h
  obtain ⟨_, _, rfl, h1, h⟩ := oks_cons h
  obtain ⟨_, _, rfl, h2, h⟩ := oks_cons h
  obtain ⟨_, _, rfl, h3, h⟩ := oks_cons h
  obtain rfl := oks_nil h
  obtain ⟨a, rfl, ha⟩ := ok_int h0
  obtain ⟨b, rfl, hb⟩ := ok_int h1
  obtain ⟨c, rfl, hc⟩ := ok_str h2
  obtain ⟨A, k, l, rfl, h4, h5, h6, h7⟩ := open_rows h3
  exact ⟨⟨a, b, c, l⟩, k99_mk w ⟨a, b, c, l⟩ h4 h5, wf_i64 ha, wf_i64 hb, hc, h7, Nat.le_trans (Nat.le_mul_of_pos_right _ hb0) h6⟩
theorem open_ress (hb0 : 0 < P.bytesOf 101) {v : Value} (h : SK.ok P w (.row 99 resSK) v) :
    ∃ (A : Option Addr) (c : Nat) (l : List S99), v = .slice A l.length c ∧ l.length ≤ c ∧ Kd.C k99 w A l.length l ∧ l.length * P.bytesOf 99 ≤ 140737488351232 ∧ ∀ x ∈ l, WideRes x :=
  rows_C k99 rfl WideRes (fun r hr => open_res hb0 hr) h
theorem open_rep (hb0 : 0 < P.bytesOf 101) {vs : List Value} (h : SK.oks P w repSK vs) :
    ∃ (a b : Int) (A : Option Addr) (c : Nat) (l : List S99) (d e : Int), vs = [.int .i64 a, .int .i64 b, .slice A l.length c, .int .i64 d, .int .i64 e] ∧ (In64 a ∧ In64 b ∧ In64 d ∧ In64 e) ∧ l.length ≤ c ∧ Kd.C k99 w A l.length l ∧ l.length * P.bytesOf 99 ≤ 140737488351232 ∧ ∀ x ∈ l, WideRes x := by
  obtain ⟨_, _, rfl, h0, h⟩ := oks_cons h
  obtain ⟨_, _, rfl, h1, h⟩ := oks_cons h
  obtain ⟨_, _, rfl, h2, h⟩ := oks_cons h
  obtain ⟨_, _, rfl, h8, h⟩ := oks_cons h
  obtain ⟨_, _, rfl, h9, h⟩ := oks_cons h
  obtain rfl := oks_nil h
  obtain ⟨a, rfl, ha⟩ := ok_int h0
  obtain ⟨b, rfl, hb⟩ := ok_int h1
  obtain ⟨d, rfl, hd⟩ := ok_int h8
  obtain ⟨e, rfl, he⟩ := ok_int h9
  obtain ⟨A, c, l, rfl, h3, h4, h5, h6⟩ := open_ress hb0 h2
  exact ⟨a, b, A, c, l, d, e, rfl, ⟨wf_i64 ha, wf_i64 hb, wf_i64 hd, wf_i64 he⟩, h3, h4, h5, h6⟩
end
end Go.Proofs.Ytafmdlegelbfpaa.Pure
