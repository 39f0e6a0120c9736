import Derived.Test.YtkmbbipempbilaaTorn
import Derived.Laws.IdiomStrings
import Derived.Lib.Hide
/-! CodeTorn: the walk. -/
namespace Go.Proofs.Ytkmbbipempbilaa.Pure
set_option linter.unusedVariables false
set_option linter.unusedSimpArgs false
open Go Go.RowKit Go.Proofs.Ytkmbbipempbilaa.PAll Go.Proofs.YtkmbbipempbilaaW.PrintWords Go.Proofs.YtkmbbipempbilaaW.PrintLast Go.Proofs.Ytkmbbipempbilaa.Bytes Go.Proofs.Ytkmbbipempbilaa.Fn

theorem unframe0 (s : ByteArray) (t : List UInt8) (hL : L s = t) (hs : t.length ≤ 9223372036854775806) : Ev (fun k => code_Unframe.f k s 0) (unfr 0 t) := by
  have h := unframe_f s 0 (by omega) (by rw [← L_length, hL]; exact hs)
  rw [List.drop_zero, hL] at h
  exact h

/-- Bytes in a block. -/
def Bts (w : World) (g : Nat) (l : List UInt8) : Prop := ∃ (cs : Array Value) (fz : Nat × Nat), w.heap[g]? = some (.cells cs 5 fz) ∧ l.length ≤ fz.1 ∧ ∀ (j : Nat) (b : UInt8), l[j]? = some b → cs[j]? = some (.int .u8 (b.toNat : Int))
theorem Bts.cell {w : World} {g : Nat} {l : List UInt8} (h : Bts w g l) {j : Nat} {b : UInt8} (hb : l[j]? = some b) : w.cell? ⟨g, j, none⟩ = some (.int .u8 (b.toNat : Int)) := by
  obtain ⟨cs, fz, h1, h2, h3⟩ := h
  rw [cell_of_row w g j cs 5 fz h1]
  exact h3 j b hb
theorem Bts.frozen {w : World} {g : Nat} {l : List UInt8} (h : Bts w g l) {j : Nat} (hj : j < l.length) : w.frozen? ⟨g, j, none⟩ = false := by
  obtain ⟨cs, fz, h1, h2, h3⟩ := h
  simp only [World.frozen?, h1]
  rw [Bool.and_eq_false_iff]
  left
  simp
  omega
theorem Bts.set_ {w : World} {g : Nat} {l : List UInt8} (h : Bts w g l) (k : Nat) (hk : k < l.length) (v : UInt8) : Bts (w.setCell ⟨g, k, none⟩ (.int .u8 (v.toNat : Int))) g (l.set k v) := by
  obtain ⟨cs, fz, h1, h2, h3⟩ := h
  refine ⟨cs.setIfInBounds k (.int .u8 (v.toNat : Int)), fz, ?_, by rw [List.length_set]; exact h2, fun j b hj => ?_⟩
  · simp [World.setCell, Array.getElem?_modify, h1]
  · have hkc : k < cs.size := by
      have := h3 k l[k] (List.getElem?_eq_getElem hk)
      exact (Array.getElem?_eq_some_iff.1 this).1
    by_cases e : k = j
    · subst e
      rw [List.getElem?_set_self hk] at hj
      injection hj with hj
      subst hj
      simp [hkc]
    · rw [List.getElem?_set_ne e] at hj
      rw [Array.getElem?_setIfInBounds_ne e]
      exact h3 j b hj
theorem conv_bytes (s : ByteArray) : ∃ (cap : World → Nat) (f : World → World), ∀ W : World, (convert 9 42 (.string s)).run Try.prog W = .ok (.slice (some ⟨W.heap.size, 0, none⟩) s.size (cap W)) (f W) ∧ Bts (f W) W.heap.size (L s) ∧ Below W.heap.size W (f W) := by
  refine ⟨fun W => _, fun W => _, fun W => ⟨run_bytes_of_string (P := Try.prog) W 9 42 5 s Try.underlying9 Try.underlying42 Try.underlying5, ⟨_, _, heap_alloc_new W.drew _, ?_, fun j b hj => ?_⟩, ((Below.refl W.heap.size W).drew).alloc (Nat.le_refl _) _⟩⟩
  · rw [L_length]
    simp only [bytesRow, Array.size_append, Array.size_map, Array.size_replicate]
    have : s.size = s.data.size := rfl
    omega
  · unfold bytesRow
    obtain ⟨hj1, hj2⟩ := List.getElem?_eq_some_iff.1 hj
    have hj3 : j < s.data.size := by rw [← Array.length_toList]; exact hj1
    rw [Array.getElem?_append_left (by simpa using hj3)]
    simp only [Array.getElem?_map, Array.getElem?_eq_getElem hj3, Option.map_some]
    rw [← hj2]
    simp [L]
theorem conv_back (W : World) (g cap : Nat) (l : List UInt8) (h : Bts W g l) : (convert 42 9 (.slice (some ⟨g, 0, none⟩) l.length cap)).run Try.prog W = .ok (.string ⟨l.toArray⟩) W := by
  refine run_convert_bytes_back W 42 9 5 ⟨g, 0, none⟩ cap l Try.underlying42 Try.underlying5 Try.underlying9 (fun j hj => ?_)
  have : (⟨g, 0, none⟩ : Addr).add j = ⟨g, j, none⟩ := by simp [Addr.add]; omega
  rw [this]
  exact h.cell (List.getElem?_eq_getElem hj)

attribute [local go_sem high] eqA28
set_option maxHeartbeats 4000000 in
set_option maxRecDepth 100000 in
theorem torn_walk (a0 : ByteArray) (a1 a2 : Int) (w : World) (w0 : a0.size ≤ 140737488351232) (w1 : (Lit.int .i64 a1).wf = true) (w2 : (Lit.int .u8 a2).wf = true) :
    Calls Try.prog 9 #[.string a0, .int .i64 a1, .int .u8 a2] w fun e w' => e = .returned (.bool true) ∧ Below w.heap.size w w' := by
  have hu28 := Try.underlying28
  obtain ⟨K1, h1⟩ := works_f
  obtain ⟨K2, h2⟩ := frame_f a0
  have H1 := Lib.hid (h1 K1 (Nat.le_refl _))
  have h2 := h2 K2 (Nat.le_refl _)
  dsimp only at h2
  clear h1
  have h8 : 0 ≤ a2 ∧ a2 < 256 := by
    simp [Lit.wf, IntKind.min, IntKind.max, IntKind.signed, IntKind.bits] at w2
    omega
  clear w2
  by_cases hbig : a0.size > 65536
  · rw [if_pos hbig] at h2
    have H2 := Lib.hid h2
    clear h2 hbig
    go_enter Try.func9, Try.ntmps9
    go_wp2_with (fail)
    refine (skylarklaw01_works.calls K1 true w H1.out).mono ?_
    rintro e wa ⟨rfl, hBa⟩
    go_wp2_with (fail)
    refine (code_Frame.calls K2 a0 _ _ wa H2.out).mono ?_
    rintro e wb ⟨rfl, hBb⟩
    go_wp2
    go_ret
    exact ⟨rfl, Below.trans hBa (hBb.mono hBa.size)⟩
  rw [if_neg hbig] at h2
  have hL := strOf_I (frame (L a0))
  have hlen : (frame (L a0)).length = (L a0).length + 8 := frame_length _
  have ha0 : (L a0).length ≤ 65536 := by rw [L_length]; omega
  obtain ⟨s, hs⟩ : ∃ s, strOfNums (I (frame (L a0))) = s := ⟨_, rfl⟩
  rw [hs] at h2 hL
  have hsz : s.size = (L a0).length + 8 := by rw [← L_length, hL, hlen]
  have H2 := Lib.hid h2
  have HL := Lib.hid hL
  have HA := Lib.hid ha0
  obtain ⟨n, hn⟩ : ∃ n, s.size = n := ⟨_, rfl⟩
  have hn1 : 8 ≤ n := by omega
  have hn2 : n ≤ 65544 := by omega
  have HN := Lib.hid hsz
  clear h2 hL hs hlen ha0 hbig hsz
  have hu0 : 0 ≤ IntKind.u64.wrap a1 := by
    have : IntKind.u64.wrap a1 = a1 % 18446744073709551616 := by simp [IntKind.wrap, IntKind.bits, IntKind.signed]
    omega
  obtain ⟨c, hwc, hcn⟩ : ∃ c : Nat, wrap64 ((IntKind.u64.wrap a1).tmod (n : Int)) = (c : Int) ∧ c < n := by
    have b0 := Int.tmod_nonneg (n : Int) hu0
    have b1 := Int.tmod_lt_of_pos (IntKind.u64.wrap a1) (show 0 < (n : Int) by omega)
    rw [wrap64_id (by omega) (by omega)]
    exact ⟨((IntKind.u64.wrap a1).tmod (n : Int)).toNat, by omega, by omega⟩
  have hci : (c : Int) < (n : Int) := by omega
  obtain ⟨k, hwk, hk4, hkn⟩ : ∃ k : Nat, wrap64 ((IntKind.u64.wrap a1).tmod ((n : Int) - 4)) = (k : Int) - 4 ∧ 4 ≤ k ∧ k < n := by
    have b0 := Int.tmod_nonneg ((n : Int) - 4) hu0
    have b1 := Int.tmod_lt_of_pos (IntKind.u64.wrap a1) (show 0 < (n : Int) - 4 by omega)
    rw [wrap64_id (by omega) (by omega)]
    exact ⟨((IntKind.u64.wrap a1).tmod ((n : Int) - 4)).toNat + 4, by omega, by omega, by omega⟩
  obtain ⟨K3, h3⟩ := unframe0 (s.extract 0 c) ((frame (L a0)).take c) (by rw [L_extract, HL.out, List.drop_zero]) (by rw [List.length_take, frame_length]; have := HA.out; omega)
  have h3 := h3 K3 (Nat.le_refl _)
  rw [unfr_cut _ HA.out c (by rw [frame_length]; have := HN.out; omega)] at h3
  dsimp only at h3
  have H3 := Lib.hid h3
  clear h3
  clear hu0
  go_enter Try.func9, Try.ntmps9
  go_wp2_with (fail)
  refine (skylarklaw01_works.calls K1 true w H1.out).mono ?_
  rintro e wa ⟨rfl, hBa⟩
  have HBa := Lib.hid hBa
  clear hBa
  go_wp2_with (fail)
  refine (code_Frame.calls K2 a0 _ _ wa H2.out).mono ?_
  rintro e wb ⟨rfl, hBb⟩
  have HBb := Lib.hid (Below.trans HBa.out (hBb.mono HBa.out.size))
  clear hBb
  go_wp2_with (fail)
  refine (code_Unframe.calls K3 (s.extract 0 c) 0 _ _ _ _ wb H3.out).mono ?_
  rintro e wc ⟨rfl, hBc⟩
  have HBc := Lib.hid (Below.trans HBb.out (hBc.mono HBb.out.size))
  clear hBc hwc hci
  have hwk2 : wrap64 (4 + wrap64 ((IntKind.u64.wrap a1).tmod ((n : Int) - 4))) = (k : Int) := by rw [hwk, wrap64_id (by omega) (by omega)]; omega
  clear hwk
  have hkl : k < (frame (L a0)).length := by rw [frame_length]; have := HN.out; omega
  obtain ⟨x, hx⟩ : ∃ x, (frame (L a0))[k] = x := ⟨_, rfl⟩
  have hfl : (frame (L a0)).length = n := by rw [frame_length]; have := HN.out; omega
  obtain ⟨cap, f, hall⟩ := conv_bytes s
  rw [HL.out] at hall
  have hcv := fun W => (hall W).1
  rw [hn] at hcv
  have hcell : ∀ W : World, (f W).cell? ⟨W.heap.size, k, none⟩ = some (.int .u8 (x.toNat : Int)) := fun W => (hall W).2.1.cell (by rw [List.getElem?_eq_getElem hkl, hx])
  have hfr : ∀ W : World, (f W).frozen? ⟨W.heap.size, k, none⟩ = false := fun W => (hall W).2.1.frozen hkl
  have HBW := Lib.hid (fun W => (hall W).2.2)
  have hback : ∀ (W : World) (y : UInt8), (convert 42 9 (.slice (some ⟨W.heap.size, 0, none⟩) n (cap W))).run Try.prog ((f W).setCell ⟨W.heap.size, k, none⟩ (.int .u8 ((x ^^^ y).toNat : Int))) = .ok (.string ⟨((frame (L a0)).set k (x ^^^ y)).toArray⟩) ((f W).setCell ⟨W.heap.size, k, none⟩ (.int .u8 ((x ^^^ y).toNat : Int))) := fun W y => by
    have := conv_back _ W.heap.size (cap W) _ ((hall W).2.1.set_ k hkl (x ^^^ y))
    rw [List.length_set, hfl] at this
    exact this
  have HV : Hid (∀ y : UInt8, y ≠ 0 → ∃ K, code_Unframe.f K ⟨((frame (L a0)).set k (x ^^^ y)).toArray⟩ 0 = some ((⟨#[]⟩ : ByteArray), 0, 0, 10)) := fun y hy => by
    obtain ⟨K, h⟩ := unframe0 ⟨((frame (L a0)).set k (x ^^^ y)).toArray⟩ ((frame (L a0)).set k (x ^^^ y)) (L_mk _) (by rw [List.length_set]; omega)
    have h := h K (Nat.le_refl _)
    rw [unfr_other _ HA.out k hk4 hkl (x ^^^ y) (by rw [hx]; exact xor_other x y hy)] at h
    exact ⟨K, h⟩
  clear hall hx hfl hkl
  have hsz1 : (wc.alloc (.cells #[.int .i64 0, .int .i64 11] 28)).heap.size = wc.heap.size + 1 := by simp
  have hcell := hcell (wc.alloc (.cells #[.int .i64 0, .int .i64 11] 28))
  have hfr := hfr (wc.alloc (.cells #[.int .i64 0, .int .i64 11] 28))
  have hback := hback (wc.alloc (.cells #[.int .i64 0, .int .i64 11] 28))
  have HBW := Lib.hid (HBW.out (wc.alloc (.cells #[.int .i64 0, .int .i64 11] 28)))
  rw [hsz1] at hcell hfr HBW
  simp only [hsz1] at hback
  have hA := (Below.refl wc.heap.size wc).alloc (Nat.le_refl _) (.cells #[.int .i64 0, .int .i64 11] 28)
  have HB1 := Lib.hid (Below.trans HBc.out (hA.mono HBc.out.size))
  have hwc1 : w.heap.size ≤ wc.heap.size := HBc.out.size
  clear hsz1 hA
  by_cases hz : a2 = 0
  · subst hz
    have HY : (1 : UInt8) ≠ 0 := by decide
    have hxor := bits_xor8 x 1
    have hback1 := hback 1
    rw [UInt8.toNat_xor] at hxor hback1
    have e1 : (1 : UInt8).toNat = 1 := rfl
    rw [e1] at hxor hback1
    have e2 : ((1 : Nat) : Int) = 1 := rfl
    rw [e2] at hxor
    clear e1 e2
    clear hback
    obtain ⟨K4, h4⟩ := HV.out 1 HY
    have H4 := Lib.hid h4
    clear h4
    have HBt := Lib.hid ((Below.trans HB1.out (HBW.out.mono (by omega))).setCell (p := ⟨wc.heap.size + 1, k, none⟩) (by show w.heap.size ≤ wc.heap.size + 1; omega) (.int .u8 ((x.toNat ^^^ 1 : Nat) : Int)))
    go_wp2_with (fail)
    refine (code_Unframe.calls K4 _ 0 _ _ _ _ _ H4.out).mono ?_
    rintro e wd ⟨rfl, hBd⟩
    go_wp2
    go_ret
    have hfin := Below.trans HBt.out (hBd.mono HBt.out.size)
    exact ⟨rfl, hfin.alloc hfin.size _⟩
  · obtain ⟨y, rfl⟩ : ∃ y : UInt8, a2 = (y.toNat : Int) := ⟨UInt8.ofNat a2.toNat, by rw [UInt8.toNat_ofNat']; omega⟩
    have HY : y ≠ 0 := by rintro rfl; exact hz rfl
    clear hz
    have q : ((y.toNat : Int) == 0) = false := by
      rw [beq_eq_false_iff_ne]
      intro e
      exact HY ((c0 y).1 e)
    have hxor := bits_xor8 x y
    have hback1 := hback y
    rw [UInt8.toNat_xor] at hxor hback1
    clear hback
    obtain ⟨K4, h4⟩ := HV.out y HY
    have H4 := Lib.hid h4
    clear h4
    have HBt := Lib.hid ((Below.trans HB1.out (HBW.out.mono (by omega))).setCell (p := ⟨wc.heap.size + 1, k, none⟩) (by show w.heap.size ≤ wc.heap.size + 1; omega) (.int .u8 ((x.toNat ^^^ y.toNat : Nat) : Int)))
    go_wp2_with (fail)
    refine (code_Unframe.calls K4 _ 0 _ _ _ _ _ H4.out).mono ?_
    rintro e wd ⟨rfl, hBd⟩
    go_wp2
    go_ret
    have hfin := Below.trans HBt.out (hBd.mono HBt.out.size)
    exact ⟨rfl, hfin.alloc hfin.size _⟩
end Go.Proofs.Ytkmbbipempbilaa.Pure
