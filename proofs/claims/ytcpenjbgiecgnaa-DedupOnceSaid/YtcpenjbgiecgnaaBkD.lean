import Derived.Test.YtcpenjbgiecgnaaBkC
import Derived.Test.YtcpenjbgiecgnaaHEncodeReply
import Derived.Test.YtcpenjbgiecgnaaFn
namespace Go.Proofs.Ytcpenjbgiecgnaa
open Go Go.RowKit
open Go.Proofs.YtcpenjbgiecgnaaW.PrintWords Go.Proofs.YtcpenjbgiecgnaaW.PrintLast
open Go.Proofs.Ytcpenjbgiecgnaa.PAll (S59 k59 k59_mk repOk repF resF fN fT)
set_option linter.unusedVariables false
set_option linter.unusedSimpArgs false

/-! EncodeReply of a reply of one result; reply; Note. -/
def SR (n : Int) : S59 := ⟨0, n, ⟨#[]⟩, []⟩
theorem one_C {w : World} {g c : Nat} {n : Int} (h : One w (.slice (some ⟨g, 0, none⟩) 1 c) n) : Kd.C k59 w (some ⟨g, 0, none⟩) 1 [SR n] := by
  obtain ⟨A4, c4, h⟩ := h
  obtain ⟨c0, c1, c2, c3⟩ := row_cells h
  refine ⟨rfl, by omega, fun _ => ⟨_, rfl, fun j p hj => ?_⟩⟩
  match j, hj with
  | 0, hj =>
    obtain rfl : SR n = p := by simpa using hj
    refine ⟨_, rfl, k59_mk w (SR n) (A3 := A4) (c3 := c4) (Nat.zero_le _) ⟨rfl, Nat.zero_le _, fun h => absurd h (Nat.lt_irrefl 0)⟩, fun i u hu => ?_⟩
    match i, hu with
    | 0, hu => rw [← hu]; exact c0
    | 1, hu => rw [← hu]; exact c1
    | 2, hu => rw [← hu]; exact c2
    | 3, hu => rw [← hu]; exact c3
theorem repOk_SR {c n : Int} (hc : 0 ≤ c) (hc2 : c ≤ 1000) (hn : 1 ≤ n) (hn2 : n ≤ 1048576) : repOk c n [SR n] 0 0 = true := by
  unfold repOk
  rw [if_pos ⟨hc, hc2, hn, hn2⟩, if_neg (by simp)]
  have h1 : (⟨#[]⟩ : ByteArray).size = 0 := rfl
  simp [PAll.resOk, SR, h1]
  omega
theorem fld_SR (c n : Int) : ∀ x ∈ repF c n [SR n] 0 0, x.f2.size ≤ 140737488351232 := by
  intro x hx
  simp [repF, resF, SR, fN, fT] at hx
  rcases hx with rfl | rfl | rfl | rfl | rfl | rfl | rfl | rfl <;> exact Nat.zero_le _
theorem enc_SR {c n : Int} (hc : 0 ≤ c) (hc2 : c ≤ 1000) (hn : 1 ≤ n) (hn2 : n ≤ 1048576) : ∃ k r1 r2, PAll.op_EncodeReply.f k c n [SR n] 0 0 = some (r1, r2) ∧ r2 ≠ 80 := by
  obtain ⟨k, hk⟩ := Fn.encode_f (repF c n [SR n] 0 0) (fld_SR c n)
  refine ⟨k, (Fn.encode (repF c n [SR n] 0 0)).1, (Fn.encode (repF c n [SR n] 0 0)).2, ?_, ?_⟩
  · unfold PAll.op_EncodeReply.f
    rw [if_pos (repOk_SR hc hc2 hn hn2)]
    exact hk k (Nat.le_refl _)
  · unfold Fn.encode
    split
    · decide
    · split
      · decide
      · split
        · decide
        · exact fun h => absurd h (by decide : (0 : Int) ≠ 80)
theorem bk_enc (c n : Int) (rv : Value) (w : World) (h : One w rv n) (hc : 0 ≤ c) (hc2 : c ≤ 1000) (hn : 1 ≤ n) (hn2 : n ≤ 1048576) :
    Calls Try.prog 16 #[.agg #[.int .i64 c, .int .i64 n, rv, .int .i64 0, .int .i64 0]] w fun e w' => ∃ r1 r2, e = .returned (.tuple #[.string r1, .int .i64 r2]) ∧ r2 ≠ 80 ∧ Below w.heap.size w w' := by
  obtain ⟨g, cp, rfl, hg, hcp⟩ := h.form
  obtain ⟨k, r1, r2, hk, h80⟩ := enc_SR hc hc2 hn hn2
  exact (PAll.op_EncodeReply.calls k c n (some ⟨g, 0, none⟩) cp [SR n] 0 0 r1 r2 w (one_C h) hcp hk).mono fun e w' ⟨he, hb⟩ => ⟨r1, r2, he, h80, hb⟩
set_option maxRecDepth 100000 in
set_option maxHeartbeats 4000000 in
theorem bk_reply (c n : Int) (w : World) :
    Calls Try.prog 11 #[.int .i64 c, .int .i64 n] w fun e w' => ∃ rv, e = .returned (.agg #[.int .i64 c, .int .i64 n, rv, .int .i64 0, .int .i64 0]) ∧ One w' rv n ∧ Below w.heap.size w w' ∧ ∀ k, rv.ownBlock = some k → w.heap.size ≤ k := by
  have hsz : (w.alloc (.cells #[.int .i64 0, .int .i64 0, .slice none 0 0, .int .i64 0, .int .i64 0] 38)).heap.size = w.heap.size + 1 := World.size_alloc ..
  have HX := Lib.hid (Blk.new w 38 #[.int .i64 0, .int .i64 0, .slice none 0 0, .int .i64 0, .int .i64 0])
  have HB := Lib.hid ((Below.refl w.heap.size w).alloc (Nat.le_refl _) (.cells #[.int .i64 0, .int .i64 0, .slice none 0 0, .int .i64 0, .int .i64 0] 38))
  generalize hwa : w.alloc (.cells #[.int .i64 0, .int .i64 0, .slice none 0 0, .int .i64 0, .int .i64 0] 38) = wa at *
  have HO := Lib.hid (show One _ (.slice (some ⟨w.heap.size + 1, 0, none⟩) 1 1) n from by
    have := Row.lit1 RC wa 59 4 (n, none, 0) #[.int .i64 0, .int .i64 n, .string ⟨#[]⟩, .slice none 0 0] rfl rfl
    rw [hsz] at this
    exact ⟨none, 0, this⟩)
  have HB1 := Lib.hid (HB.out.alloc (by omega) (.cells #[.int .i64 0, .int .i64 n, .string ⟨#[]⟩, .slice none 0 0] 59))
  have HX1 := Lib.hid (HX.out.alloc (.cells #[.int .i64 0, .int .i64 n, .string ⟨#[]⟩, .slice none 0 0] 59))
  go_enter Try.func11, Try.ntmps11
  generalize hwb : wa.alloc (.cells #[.int .i64 0, .int .i64 n, .string ⟨#[]⟩, .slice none 0 0] 59) = wb at *
  have p0 := HX1.out.frozen 0
  have p1 := HX1.out.frozen 1
  have p2 := HX1.out.frozen 2
  have p3 := HX1.out.frozen 3
  have p4 := HX1.out.frozen 4
  have r0 := HX1.out.cell 0
  have r1 := HX1.out.cell 1
  have r2 := HX1.out.cell 2
  have r3 := HX1.out.cell 3
  have r4 := HX1.out.cell 4
  have hxl := HX1.out.lt
  go_wp2
  have h5 := set5 HX1.out (.int .i64 c) (.int .i64 n) (.slice (some ⟨w.heap.size + 1, 0, none⟩) 1 1) (.int .i64 0) (.int .i64 0)
  have HO5 := Lib.hid (HO.out.kept h5.2 (fun k e => by simp [Value.ownBlock] at e; omega))
  generalize (((((wb.setCell ⟨w.heap.size, 0, none⟩ (.int .i64 c)).setCell ⟨w.heap.size, 1, none⟩ (.int .i64 n)).setCell ⟨w.heap.size, 2, none⟩ (.slice (some ⟨w.heap.size + 1, 0, none⟩) 1 1)).setCell ⟨w.heap.size, 3, none⟩ (.int .i64 0)).setCell ⟨w.heap.size, 4, none⟩ (.int .i64 0)) = W5 at h5 HO5 ⊢
  have g0 := h5.1.cell 0
  have g1 := h5.1.cell 1
  have g3 := h5.1.cell 2
  have g4 := h5.1.cell 3
  have g5 := h5.1.cell 4
  refine bodyPost_ret (v := .agg #[.int .i64 c, .int .i64 n, .slice (some ⟨w.heap.size + 1, 0, none⟩) 1 1, .int .i64 0, .int .i64 0]) ?_ rfl ⟨_, rfl, HO5.out, HB1.out.trans (h5.2.below (by omega) (fun k hk => by omega)), fun k e => by simp [Value.ownBlock] at e; omega⟩
  simp [results, Try.results11, go_sem, g0, g1, g3, g4, g5]
end Go.Proofs.Ytcpenjbgiecgnaa
