import Derived.Test.YtkmbbipempbilaaRef2
import Derived.Test.YtkmbbipempbilaaKept
/-! CodeLists: the walk. -/
namespace Go.Proofs.Ytkmbbipempbilaa.Pure
set_option linter.unusedVariables false
set_option linter.unusedSimpArgs false
open Go Go.RowKit Go.Proofs.Ytkmbbipempbilaa.PAll Go.Proofs.YtkmbbipempbilaaW.PrintWords Go.Proofs.YtkmbbipempbilaaW.PrintLast Go.Proofs.Ytkmbbipempbilaa.Bytes Go.Proofs.Ytkmbbipempbilaa.Fn

theorem lend_f (l : List S35) (hl : l.length + 1 < 4398046511104) : skylarkbook_LendFields.f l = some l := by
  unfold skylarkbook_LendFields.f
  simp only [Option.bind_some, List.nil_append, List.length_nil]
  rw [if_pos (by omega), if_pos (by omega), if_pos (by omega), if_pos (by rw [List.length_append]; simp only [List.length_cons, List.length_nil]; omega), Int.toNat_natCast, List.take_left]
theorem decode_len (b : ByteArray) : (Fn.decode b).1.length ≤ 4096 := by
  by_cases he : (Fn.decode b).2.2 = 0
  · obtain ⟨x, hx⟩ : ∃ x, Fn.decode b = (x, 0, 0) := ⟨(Fn.decode b).1, Prod.ext rfl (Prod.ext (decode_at he) he)⟩
    obtain ⟨_, _, _, h, _⟩ := decode_back hx
    rw [hx]; exact h
  · rw [decode_err he]; simp

attribute [local go_sem high] eqA28
set_option maxHeartbeats 4000000 in
set_option maxRecDepth 100000 in
theorem lists_walk (A0 : Option Addr) (len0 cap0 : Nat) (rows0 : List (List Value)) (a1 : ByteArray) (w : World) (w0 : Open.Rows w [.bool, .int .i64, .str] A0 len0 cap0 rows0) (y0 : len0 * Try.prog.bytesOf 35 ≤ 140737488351232) (w1 : a1.size ≤ 140737488351232) :
    Calls Try.prog 3 #[.slice A0 len0 cap0, .string a1] w fun e w' => e = .returned (.bool true) ∧ Below w.heap.size w w' := by
  obtain ⟨l, rfl, hC, hc, hw⟩ := lists_of w0
  have hu28 := Try.underlying28
  have hb : Try.prog.bytesOf 35 = 32 := by kernel_rfl
  rw [hb] at y0
  have hl : l.length + 1 < 4398046511104 := by omega
  clear w0 hb
  obtain ⟨K1, h1⟩ := encode_f l (fun x hx => (hw x hx).2)
  obtain ⟨K2, h2⟩ := rencode_f l (fun x hx => (hw x hx).2)
  obtain ⟨K3, h3⟩ := decode_f a1
  obtain ⟨K4, h4⟩ := rdecode_f a1
  obtain ⟨K5, h5⟩ := works_f
  obtain ⟨K6, h6⟩ := same_f (Fn.decode a1).1 (by have := decode_len a1; omega)
  obtain ⟨⟨s, e⟩, hse⟩ : ∃ p, encode l = p := ⟨_, rfl⟩
  obtain ⟨⟨x, ra, rc⟩, hx⟩ : ∃ p, Fn.decode a1 = p := ⟨_, rfl⟩
  rw [hse] at h1 h2
  rw [hx] at h3 h4 h6
  have H1 := Lib.hid (h1 K1 (Nat.le_refl _))
  have H2 := Lib.hid (h2 K2 (Nat.le_refl _))
  have H3 := Lib.hid (h3 K3 (Nat.le_refl _))
  have H4 := Lib.hid (h4 K4 (Nat.le_refl _))
  have H5 := Lib.hid (h5 K5 (Nat.le_refl _))
  have H6 := Lib.hid (h6 K6 (Nat.le_refl _))
  have HC := Lib.hid hC
  have HW := Lib.hid hw
  clear h1 h2 h3 h4 h5 h6 hse hx hC hw
  go_enter Try.func3, Try.ntmps3
  go_wp2_with (fail)
  refine (lend_calls A0 cap0 l l w HC.out hc (lend_f l hl)).mono ?_
  rintro e1 wa ⟨Ao, co, rfl, _, hR, hBa⟩
  have hRd := Kd.R_reads' hR
  have hco : l.length + 1 ≤ co := hRd.2.1
  have HRa := Lib.hid (show Kd.C k35 wa Ao (l.length + 1) (l ++ [Fn.mark]) by rw [hRd.1]; exact hRd.2.2)
  have HBa := Lib.hid hBa
  clear hR hRd hBa
  go_wp2_with (fail)
  refine (code_Encode.calls K1 Ao co l s e wa (C_front HRa.out) (by omega) H1.out).mono ?_
  rintro e2 wb ⟨rfl, hBb⟩
  have HRb := Lib.hid (Kd.C_below HRa.out hBb)
  have HBb := Lib.hid (Below.trans HBa.out (hBb.mono HBa.out.size))
  clear hBb
  go_wp2_with (fail)
  refine (skylarkref01_Encode.calls K2 A0 cap0 l s e wb (Kd.C_below HC.out HBb.out) hc H2.out).mono ?_
  rintro e3 wc ⟨rfl, hBc⟩
  have HRc := Lib.hid (Kd.C_below HRb.out hBc)
  have HBc := Lib.hid (Below.trans HBb.out (hBc.mono HBb.out.size))
  clear hBc
  go_wp2_with (fail)
  refine (code_Decode.calls K3 a1 x ra rc wc H3.out).mono ?_
  rintro e4 wd ⟨v1, rfl, hR1, hBd⟩
  obtain ⟨A1, c1, rfl⟩ := Kd.R_slice hR1
  have hc1 : x.length ≤ c1 := (Kd.R_reads' hR1).2.1
  have HX1 := Lib.hid (Kd.R_reads' hR1).2.2
  have HRd := Lib.hid (Kd.C_below HRc.out hBd)
  have HBd := Lib.hid (Below.trans HBc.out (hBd.mono HBc.out.size))
  clear hR1 hBd
  go_wp2_with (fail)
  have hA := (Below.refl wd.heap.size wd).alloc (Nat.le_refl _) (.cells #[.int .i64 ra, .int .i64 rc] 28)
  have HF := Lib.hid (heap_alloc_new wd (.cells #[.int .i64 ra, .int .i64 rc] 28))
  have HX2 := Lib.hid (Kd.C_below HX1.out hA)
  have HRe := Lib.hid (Kd.C_below HRd.out hA)
  have HBe := Lib.hid (Below.trans HBd.out (hA.mono HBd.out.size))
  have hlt : wd.heap.size < (wd.alloc (.cells #[.int .i64 ra, .int .i64 rc] 28)).heap.size := by simp
  clear hA HX1 HRd HBd
  generalize wd.alloc (.cells #[.int .i64 ra, .int .i64 rc] 28) = W1 at *
  refine (skylarkref01_Decode.calls K4 a1 x ra rc W1 H4.out).mono ?_
  rintro e5 we ⟨v2, rfl, hR2, hBf⟩
  obtain ⟨A2, c2, rfl⟩ := Kd.R_slice hR2
  have hc2 : x.length ≤ c2 := (Kd.R_reads' hR2).2.1
  have HY := Lib.hid (Kd.R_reads' hR2).2.2
  have HX3 := Lib.hid (Kd.C_below HX2.out hBf)
  have HRf := Lib.hid (Kd.C_below HRe.out hBf)
  have HBf := Lib.hid (Below.trans HBe.out (hBf.mono HBe.out.size))
  have HFf := Lib.hid ((hBf.block _ hlt).trans HF.out)
  have hlt2 : wd.heap.size < we.heap.size := Nat.lt_of_lt_of_le hlt hBf.size
  clear hR2 hBf HX2 HRe HBe HF hlt
  go_wp2_with (fail)
  have hA := (Below.refl we.heap.size we).alloc (Nat.le_refl _) (.cells #[.int .i64 ra, .int .i64 rc] 28)
  have HG := Lib.hid (heap_alloc_new we (.cells #[.int .i64 ra, .int .i64 rc] 28))
  have HF := Lib.hid ((hA.block _ hlt2).trans HFf.out)
  have HX := Lib.hid (Kd.C_below HX3.out hA)
  have HY2 := Lib.hid (Kd.C_below HY.out hA)
  have HR := Lib.hid (Kd.C_below HRf.out hA)
  have HB := Lib.hid (Below.trans HBf.out (hA.mono HBf.out.size))
  clear hA HX3 HRf HBf HFf HY
  generalize we.alloc (.cells #[.int .i64 ra, .int .i64 rc] 28) = W2 at *
  refine (skylarklaw01_names.calls true W2 rfl).mono ?_
  rintro e6 wf ⟨rfl, hD⟩
  obtain ⟨n6, rfl⟩ := hD.out
  clear hD
  go_wp2_with (fail)
  refine (skylarkbook_SameFields.calls K6 A1 c1 x A2 c2 x true (W2.drewN n6) HX.out hc1 HY2.out hc2 H6.out).mono ?_
  rintro e7 wg ⟨rfl, hD⟩
  obtain ⟨n7, rfl⟩ := hD.out
  clear hD
  have hf0 : (W2.drewN (n6 + n7)).cell? ⟨wd.heap.size, 0, none⟩ = some (.int .i64 ra) := cell_of_row _ _ 0 _ 28 (0, 0) HF.out
  have hf1 : (W2.drewN (n6 + n7)).cell? ⟨wd.heap.size, 1, none⟩ = some (.int .i64 rc) := cell_of_row _ _ 1 _ 28 (0, 0) HF.out
  have hg0 : (W2.drewN (n6 + n7)).cell? ⟨we.heap.size, 0, none⟩ = some (.int .i64 ra) := cell_of_row _ _ 0 _ 28 (0, 0) HG.out
  have hg1 : (W2.drewN (n6 + n7)).cell? ⟨we.heap.size, 1, none⟩ = some (.int .i64 rc) := cell_of_row _ _ 1 _ 28 (0, 0) HG.out
  have HB := Lib.hid (show Below w.heap.size w (W2.drewN (n6 + n7)) from ⟨HB.out.os, HB.out.tape, HB.out.output, HB.out.size, HB.out.block⟩)
  go_wp2_with (fail)
  refine (kept_calls Ao co l A0 cap0 (W2.drewN (n6 + n7)) HR.out hco (Kd.C_below HC.out HB.out) hc (by omega)).mono ?_
  rintro e8 wh ⟨rfl, hBh⟩
  have HBh := Lib.hid (Below.trans HB.out (hBh.mono HB.out.size))
  clear hBh
  go_wp2_with (fail)
  refine (skylarklaw01_works.calls K5 true wh H5.out).mono ?_
  rintro e9 wi ⟨rfl, hBi⟩
  go_wp2
  go_ret
  exact ⟨rfl, Below.trans HBh.out (hBi.mono HBh.out.size)⟩
end Go.Proofs.Ytkmbbipempbilaa.Pure
