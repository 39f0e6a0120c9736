import Derived.Test.YtdfdlajfjcakaaaGreatCnS
import Derived.Test.YtdfdlajfjcakaaaGreatCnT
namespace Go.Proofs.YtdfdlajfjcakaaaGreat
open Go Go.RowKit
open Go.Proofs.YtdfdlajfjcakaaaGreatW.PrintLast
set_option linter.unusedVariables false
set_option linter.unusedSimpArgs false
set_option maxRecDepth 100000

/-! Requests that come in; ChainAlone. -/
open Shape in
abbrev opSK : List SK := [.int .i64, .str, .str, .int .i64, .int .i64, .int .i64]
open Shape in
abbrev reqSK : List SK := [.int .i64, .int .i64, .row 85 opSK]
structure ReqW where (client seq : Int) (A : Option Addr) (c : Nat) (ops : List OpT)
def ReqW.cells (x : ReqW) : List Value := [.int .i64 x.client, .int .i64 x.seq, .slice x.A x.ops.length x.c]
def ReqW.req (x : ReqW) : ReqT := ⟨x.client, x.seq, x.ops⟩
structure ReqW.fits (w : World) (x : ReqW) : Prop where
  s : SegG w OpT.cells (.slice x.A x.ops.length x.c) x.ops
  l : x.ops.length * 64 ≤ 140737488351232
theorem ReqW.fits.below {w w' : World} {x : ReqW} (h : x.fits w) (hb : Below w.heap.size w w') : x.fits w' := ⟨h.s.below hb, h.l⟩
open Shape in
theorem open_op {P : Program} {w : World} (r : List Value) (h : SK.oks P w opSK r) : ∃ x : OpT, r = x.cells ∧ True := by
  obtain ⟨v1, r1, rfl, h1, h⟩ := oks_cons h
  obtain ⟨v2, r2, rfl, h2, h⟩ := oks_cons h
  obtain ⟨v3, r3, rfl, h3, h⟩ := oks_cons h
  obtain ⟨v4, r4, rfl, h4, h⟩ := oks_cons h
  obtain ⟨v5, r5, rfl, h5, h⟩ := oks_cons h
  obtain ⟨v6, r6, rfl, h6, h⟩ := oks_cons h
  obtain rfl := oks_nil h
  simp only [SK.ok] at h1 h2 h3 h4 h5 h6
  obtain ⟨t1, rfl, _⟩ := h1
  obtain ⟨t2, rfl, _⟩ := h2
  obtain ⟨t3, rfl, _⟩ := h3
  obtain ⟨t4, rfl, _⟩ := h4
  obtain ⟨t5, rfl, _⟩ := h5
  obtain ⟨t6, rfl, _⟩ := h6
  exact ⟨⟨t1, t2, t3, t4, t5, t6⟩, rfl, trivial⟩
open Shape in
theorem open_req {w : World} (r : List Value) (h : SK.oks Tryz.prog w reqSK r) : ∃ x : ReqW, r = x.cells ∧ x.fits w := by
  have b1 : Tryz.prog.bytesOf 85 = 64 := by kernel_rfl
  obtain ⟨v1, r1, rfl, h1, h⟩ := oks_cons h
  obtain ⟨v2, r2, rfl, h2, h⟩ := oks_cons h
  obtain ⟨v3, r3, rfl, h3, h⟩ := oks_cons h
  obtain rfl := oks_nil h
  simp only [SK.ok] at h1 h2 h3
  obtain ⟨t1, rfl, _⟩ := h1
  obtain ⟨t2, rfl, _⟩ := h2
  obtain ⟨LA, ll, lc, lr, rfl, l1, l2, l3, l4, l5, l7, l6⟩ := h3
  obtain ⟨L, hL, hLd⟩ := rows_map OpT.cells (fun _ => True) open_op lr l6
  have e1 : L.length = ll := by rw [← l4, hL, List.length_map]
  subst e1
  rw [b1] at l3
  exact ⟨⟨t1, t2, LA, lc, L⟩, rfl, segG_of_rows (sz := 6) (fun _ => rfl) (by decide) L hL l4 l1 l2 l5, l3⟩
open Shape in
theorem open_reqs {w : World} {A : Option Addr} {len cap : Nat} (h : SK.oks Tryz.prog w [.row 39 reqSK] [.slice A len cap]) : ∃ xs : List ReqW, xs.length = len ∧ SegG w ReqW.cells (.slice A len cap) xs ∧ ∀ x ∈ xs, x.fits w := by
  obtain ⟨v, vs, e, h, _⟩ := oks_cons h
  simp only [SK.ok] at h
  obtain ⟨A', len', cap', rows, hv, h1, h2, h3, h4, h5, h7, h6⟩ := h
  simp only [List.cons.injEq] at e
  rw [hv] at e
  simp only [Value.slice.injEq] at e
  obtain ⟨⟨rfl, rfl, rfl⟩, _⟩ := e
  obtain ⟨xs, hx, hd⟩ := rows_map ReqW.cells (ReqW.fits w) open_req rows h6
  exact ⟨xs, by rw [← h4, hx, List.length_map], segG_of_rows (sz := 3) (fun _ => rfl) (by decide) xs hx h4 h1 h2 h5, hd⟩
theorem reqW_at {w : World} {A : Option Addr} {n c i : Nat} {l : List ReqW} (h : SegG w ReqW.cells (.slice A n c) l) (hi : i < l.length) : ∃ ad, A = some ad ∧ w.cell? (ad.add (i * 3)) = some (.int .i64 l[i].client) ∧ w.cell? ⟨(ad.add (i * 3)).block, (ad.add (i * 3)).off + 1, none⟩ = some (.int .i64 l[i].seq) ∧ w.cell? ⟨(ad.add (i * 3)).block, (ad.add (i * 3)).off + 2, none⟩ = some (.slice l[i].A l[i].ops.length l[i].c) := by
  obtain ⟨ad, c', hv', hc', hm'⟩ := h.form (by omega)
  injection hv' with hA _ hcc
  subst hA
  exact ⟨ad, rfl, h.cell (sz := 3) (fun _ => rfl) i 0 hi (by omega), h.cell (sz := 3) (fun _ => rfl) i 1 hi (by omega), h.cell (sz := 3) (fun _ => rfl) i 2 hi (by omega)⟩
/-- A member that is the only one. -/
def soleM (k : Nat) (rows : List RowT) : Mem := ⟨3, 1, [3], rows, (k : Int), [], [], []⟩
def soleT (k : Nat) (rows : List RowT) (r : ReqT) : Mem := ⟨3, 1, [3], (doT rows r.ops).2, ((k + 1 : Nat) : Int), [], [], [repOf rows r]⟩
theorem sole_start : (Mem.fresh 3).config 1 [3] = soleM 0 [] := by rfl
theorem ok_of2 {id ep : Int} {o : List Int} {rows : List RowT} {b : Int} {wy : List (ReqT × RepT)} {ou : List LetT} {td : List RepT} (h1 : o.length ≤ 1000) (h2 : 0 ≤ ep ∧ ep ≤ 1073741824) (h3 : 0 ≤ b ∧ b ≤ 2147483648) (h4 : wy.length ≤ 100000) (h5 : ou.length ≤ 100000) (h6 : td.length ≤ 100000) (h7 : RowsOk rows) : (Mem.mk id ep o rows b wy ou td).Ok := ⟨h1, h2, h3, h4, h5, h6, h7⟩
theorem sole_ok {k : Nat} {rows : List RowT} (hk : k ≤ 60) (hr : RowsOk rows) : (soleM k rows).Ok := ok_of2 (by decide) (by decide) ⟨by omega, by omega⟩ (by decide) (by decide) (by decide) hr
theorem soleT_ok {k : Nat} {rows : List RowT} {r : ReqT} (hk : k < 60) (hr : RowsOk (doT rows r.ops).2) : (soleT k rows r).Ok := ok_of2 (by decide) (by decide) ⟨by omega, by omega⟩ (by decide) (by decide) (by simp) hr
theorem sole_place (k : Nat) (rows : List RowT) : (soleM k rows).place = 0 := rfl
theorem sole_bad {k : Nat} {rows : List RowT} {r : ReqT} (h : reqMay r = false) : (soleM k rows).submit r = ((0, 80), soleM k rows) := by
  unfold Mem.submit
  rw [if_neg (by rw [sole_place]; decide), if_pos h]
theorem sole_long {k : Nat} {rows : List RowT} {r : ReqT} (h : reqMay r = true) (h2 : longM r = true) : (soleM k rows).submit r = ((0, 2), soleM k rows) := by
  unfold Mem.submit
  rw [if_neg (by rw [sole_place]; decide), if_neg (by rw [h]; decide), if_pos (.inl h2)]
theorem sole_good {k : Nat} {rows : List RowT} {r : ReqT} (hk : k < 60) (h : reqMay r = true) (h2 : longM r = false) : (soleM k rows).submit r = ((((k + 1 : Nat) : Int), 0), soleT k rows r) := by
  have hd : (soleM k rows).done = (k : Int) := by unfold Mem.done soleM; simp
  unfold Mem.submit
  rw [if_neg (by rw [sole_place]; decide), if_neg (by rw [h]; decide), if_neg (by rw [h2, hd]; simp [soleM]; omega), hd]
  have ht : ((soleM k rows).did r).tail = true := rfl
  unfold Mem.doM
  rw [if_pos ht]
  rfl
end Go.Proofs.YtdfdlajfjcakaaaGreat
