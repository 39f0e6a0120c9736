-- written by a program of ours (wip/printx: the kit's print, changed in a few places)
import Derived.Test.YtdfdlajfjcakaaaGreatPAllx0
import Derived.Test.YtdfdlajfjcakaaaGreatPAllx1087
import Derived.Test.YtdfdlajfjcakaaaGreatHCheckAll
import Derived.Test.YtdfdlajfjcakaaaGreatHWriter
namespace Go.Proofs.YtdfdlajfjcakaaaGreat.PAll
open Go.RowKit Go.Proofs.YtdfdlajfjcakaaaGreat.Extra Go.Proofs.YtdfdlajfjcakaaaGreatW.PrintWords Go.Proofs.YtdfdlajfjcakaaaGreatW.PrintLast Go.Proofs.YtdfdlajfjcakaaaGreatW.PrintMore
attribute [local go_sem] max2_int min2_int max_two min_two max_three min_three max_four min_four   -- for this text's walks alone
set_option linter.unusedVariables false
set_option linter.unusedSimpArgs false

/-- A request's fields. -/
def opF (x : S85) : List S136 := [fN x.f0, fT x.f1, fT x.f2, fN x.f3, fN x.f4, fN x.f5]
def reqF (cl sq : Int) (l : List S85) : List S136 := [fN cl, fN sq, fN (l.length : Int)] ++ l.flatMap opF
def op_Encode.f (k : Nat) (a0_0 : Int) (a0_1 : Int) (l0_2 : List (S85)) : Option (ByteArray × Int) :=
  (op_CheckAll.f k a0_0 a0_1 l0_2).bind fun e => if e = 0 then code_Encode.f k (reqF a0_0 a0_1 l0_2) else some ((⟨#[]⟩ : ByteArray), e)
theorem op_Encode.mono : ∀ a0 a1 a2 k, LeO (op_Encode.f k a0 a1 a2) (op_Encode.f (k + 1) a0 a1 a2) := by
  intro a0 a1 a2 k
  unfold op_Encode.f
  exact LeO.bind (op_CheckAll.mono _ _ _ _) (fun _ => LeO.ite (code_Encode.mono _ _) (LeO.refl _))
theorem op_CheckAll.few {k : Nat} {a0 a1 : Int} {l : List S85} (h : op_CheckAll.f k a0 a1 l = some 0) : l.length ≤ 32 := by
  unfold op_CheckAll.f at h
  split at h
  · omega
  · cases h
theorem flat_len (l : List S85) : (l.flatMap opF).length = 6 * l.length := by
  induction l with
  | nil => rfl
  | cons x l ih => rw [List.flatMap_cons, List.length_append, ih]; simp [opF]; omega
theorem flat_snoc {α β : Type} (l : List α) (f : α → List β) (i : Nat) (h : i < l.length) : (l.take (i + 1)).flatMap f = (l.take i).flatMap f ++ f l[i] := by
  rw [take_snoc_ l i h, List.flatMap_append, List.flatMap_cons, List.flatMap_nil, List.append_nil]
theorem rd_at (l : List S85) (i : Nat) (h : i < l.length) : rd_T85 l (i : Int) = l[i] := by
  unfold rd_T85
  rw [Int.toNat_natCast, List.getD_eq_getElem?_getD, List.getElem?_eq_getElem h]
  rfl
set_option maxHeartbeats 8000000 in
set_option maxRecDepth 100000 in
theorem op_Encode.calls (k : Nat) (a0_0 : Int) (a0_1 : Int) (A0_2 : Option Addr) (c0_2 : Nat) (l0_2 : List (S85)) (r1 : ByteArray) (r2 : Int) (w : World) (hr0_2 : Kd.C k85 w A0_2 l0_2.length l0_2) (hc0_2 : l0_2.length ≤ c0_2) (h : op_Encode.f k a0_0 a0_1 l0_2 = some (r1, r2)) :
    Calls Tryz.prog 60 #[.agg #[.int .i64 a0_0, .int .i64 a0_1, .slice A0_2 l0_2.length c0_2]] w fun e w' => e = .returned (.tuple #[.string r1, .int .i64 r2]) ∧ Below w.heap.size w w' := by
  have hu31 := Tryz.underlying39
  have hu27 := Tryz.underlying85
  have hu79 := Tryz.underlying154
  obtain ⟨e0, h1, h2⟩ := Option.bind_eq_some_iff.1 h
  have hfew : e0 = 0 → l0_2.length ≤ 32 := fun he => op_CheckAll.few (he ▸ h1)
  have HC := Aside0.mk hr0_2
  have H1 := Aside0.mk h1
  have H2 := Aside0.mk h2
  have HF := Aside0.mk hfew
  clear hr0_2 h1 h2 h hfew
  go_enter Tryz.func60, Tryz.ntmps60
  have hA := (Below.refl w.heap.size w).alloc (Nat.le_refl _) (.cells #[.int .i64 a0_0, .int .i64 a0_1, .slice A0_2 l0_2.length c0_2] 39)
  have HB := Aside0.mk hA
  clear hA
  go_wp2_with (fail)
  refine (op_CheckAll.calls k a0_0 a0_1 A0_2 c0_2 l0_2 e0 _ (Kd.C_below HC.out HB.out) hc0_2 H1.out).mono ?_
  rintro e w1 ⟨rfl, hB1⟩
  have hblk : w1.heap[w.heap.size]? = some (.cells #[.int .i64 a0_0, .int .i64 a0_1, .slice A0_2 l0_2.length c0_2] 39 (0, 0)) := (hB1.block _ (by simp)).trans (heap_alloc_new w _)
  have HB1 := Aside0.mk (Below.trans HB.out (hB1.mono (by simp)))
  clear hB1 HB
  have hsz : w.heap.size < w1.heap.size := blk_lt hblk
  by_cases he : e0 = 0
  · have hl := HF.out he
    have H3 : Aside0 (code_Encode.f k (reqF a0_0 a0_1 l0_2) = some (r1, r2)) := Aside0.mk (by have := H2.out; rw [if_pos he] at this; exact this)
    subst he
    clear H2 HF H1
    have c0 : w1.cell? ⟨w.heap.size, 0, none⟩ = some (.int .i64 a0_0) := blk_cell hblk 0
    have c1 : w1.cell? ⟨w.heap.size, 1, none⟩ = some (.int .i64 a0_1) := blk_cell hblk 1
    have c2 : w1.cell? ⟨w.heap.size, 2, none⟩ = some (.slice A0_2 l0_2.length c0_2) := blk_cell hblk 2
    have HBK := Aside0.mk hblk
    clear hblk
    go_wp2_with (fail)
    have hB2 : Below w.heap.size w ((w1.alloc (.cells #[.slice none 0 0] 154)).alloc (.cells #[.int .i64 a0_0, .int .i64 a0_1, .int .i64 (l0_2.length : Int)] 3)) := (HB1.out.alloc (by omega) _).alloc (by simp; omega) _
    have hW2 : Wr ((w1.alloc (.cells #[.slice none 0 0] 154)).alloc (.cells #[.int .i64 a0_0, .int .i64 a0_1, .int .i64 (l0_2.length : Int)] 3)) w.heap.size w1.heap.size [] := ⟨.slice none 0 0, alloc_before (alloc_at rfl), by omega, Kd.R_nil _ _ _ _ _⟩
    have ha2 : ((w1.alloc (.cells #[.slice none 0 0] 154)).alloc (.cells #[.int .i64 a0_0, .int .i64 a0_1, .int .i64 (l0_2.length : Int)] 3)).heap[w1.heap.size + 1]? = some (.cells (nums .i64 [a0_0, a0_1, (l0_2.length : Int)]).toArray 3 (0, 0)) := alloc_at (by simp)
    have HB2 := Aside0.mk hB2
    have HP := Aside0.mk (op_writer_num.calls w.heap.size w1.heap.size (w1.heap.size + 1) [a0_0, a0_1, (l0_2.length : Int)] [] _ hW2 (by simp; omega) ha2 (by simp))
    clear hB2 hW2 ha2
    refine HP.out.mono ?_
    rintro e wn ⟨rfl, hWn, hTn⟩
    have HWn := Aside0.mk hWn
    have HBn := Aside0.mk (Below.trans HB2.out hTn.below)
    have hbk := hTn.blk (alloc_before (alloc_before HBK.out)) (by decide)
    have cb2 : wn.cell? ⟨w.heap.size, 2, none⟩ = some (.slice A0_2 l0_2.length c0_2) := blk_cell hbk 2
    have HBK2 := Aside0.mk hbk
    clear hWn hTn HP HB2 hbk HBK c0 c1 c2
    have hwn : w1.heap.size < wn.heap.size := blk_lt HWn.out.choose_spec.1
    go_wp2_with (fail)
    go_loopw [28] (fun v wr => ∃ i : Nat, i ≤ l0_2.length ∧ v = .int .i64 i ∧ Aside0 (Wr wr w.heap.size w1.heap.size ([fN a0_0, fN a0_1, fN (l0_2.length : Int)] ++ (l0_2.take i).flatMap opF)) ∧ Aside0 (Below w.heap.size w wr)) (fun v _ => l0_2.length - (intOf v).toNat)
    case atStart => exact ⟨0, by omega, rfl, by simpa using HWn, HBn⟩
    case round =>
      obtain ⟨i, hi, rfl, HI, HT⟩ := hrel
      have hwr : w1.heap.size < wr.heap.size := blk_lt HI.out.choose_spec.1
      by_cases hlt : i < l0_2.length
      · obtain ⟨ad, hA, x0, x1, x2, x3, x4, x5⟩ := at_T85 (Kd.C_below HC.out HT.out) (i : Int) (by omega) (by omega)
        subst hA
        rw [rd_at l0_2 i hlt] at x0 x1 x2 x3 x4 x5
        simp only [Int.toNat_natCast] at x0 x1 x2 x3 x4 x5
        obtain ⟨x, hx⟩ : ∃ x, l0_2[i] = x := ⟨_, rfl⟩
        rw [hx] at x0 x1 x2 x3 x4 x5
        have HX := Aside0.mk hx
        clear hx
        go_wp2_with (fail)
        have hb0 : w.heap.size ≤ wr.heap.size := by omega
        have hA1 := HT.out.alloc hb0 (.cells #[.int .i64 x.f0, .string x.f1, .string x.f2, .int .i64 x.f3, .int .i64 x.f4, .int .i64 x.f5] 85)
        have hx1 : (wr.alloc (.cells #[.int .i64 x.f0, .string x.f1, .string x.f2, .int .i64 x.f3, .int .i64 x.f4, .int .i64 x.f5] 85)).heap[wr.heap.size]? = some (.cells #[.int .i64 x.f0, .string x.f1, .string x.f2, .int .i64 x.f3, .int .i64 x.f4, .int .i64 x.f5] 85 (0, 0)) := alloc_at rfl
        have hW1 := HI.out.alloc (.cells #[.int .i64 x.f0, .string x.f1, .string x.f2, .int .i64 x.f3, .int .i64 x.f4, .int .i64 x.f5] 85)
        have HA1 := Aside0.mk hA1
        have HX1 := Aside0.mk hx1
        have HW1 := Aside0.mk hW1
        clear hA1 hx1 hW1
        have hz1 : (wr.alloc (.cells #[.int .i64 x.f0, .string x.f1, .string x.f2, .int .i64 x.f3, .int .i64 x.f4, .int .i64 x.f5] 85)).heap.size = wr.heap.size + 1 := by simp
        have hc := op_writer_num.calls w.heap.size w1.heap.size (wr.heap.size + 1) [x.f0] _ _ (HW1.out.alloc (.cells #[.int .i64 x.f0] 3)) (by simp; omega) (alloc_at hz1.symm) (by rw [List.length_append, flat_len, List.length_take]; simp; omega)
        clear hz1
        refine hc.mono ?_
        clear hc
        rintro e w2 ⟨rfl, hW2, hT2⟩
        have hx2 := hT2.blk (alloc_before HX1.out) (by decide)
        have y1 : w2.cell? ⟨wr.heap.size, 1, none⟩ = some (.string x.f1) := blk_cell hx2 1
        have y2 : w2.cell? ⟨wr.heap.size, 2, none⟩ = some (.string x.f2) := blk_cell hx2 2
        have HX2 := Aside0.mk hx2
        have HW2 := Aside0.mk hW2
        have HB2 := Aside0.mk (Below.trans (HA1.out.alloc (by simp; omega) _) hT2.below)
        have hs2 : wr.heap.size < w2.heap.size := blk_lt hx2
        clear hW2 hT2 hx2 x0 x1 x2 x3 x4 x5 HX1 HA1 HW1 HI HT
        go_wp2_with (fail)
        have hc := op_writer_text.calls w.heap.size w1.heap.size w2.heap.size [x.f1, x.f2] _ _ (HW2.out.alloc (.cells #[.string x.f1, .string x.f2] 9)) (by simp; omega) (alloc_at rfl) (by rw [List.length_append, List.length_append, flat_len, List.length_take]; simp; omega)
        refine hc.mono ?_
        clear hc
        rintro e w3 ⟨rfl, hW3, hT3⟩
        have hx3 := hT3.blk (alloc_before HX2.out) (by decide)
        have y3 : w3.cell? ⟨wr.heap.size, 3, none⟩ = some (.int .i64 x.f3) := blk_cell hx3 3
        have y4 : w3.cell? ⟨wr.heap.size, 4, none⟩ = some (.int .i64 x.f4) := blk_cell hx3 4
        have y5 : w3.cell? ⟨wr.heap.size, 5, none⟩ = some (.int .i64 x.f5) := blk_cell hx3 5
        have HW3 := Aside0.mk hW3
        have HB3 := Aside0.mk (Below.trans (HB2.out.alloc (by omega) _) hT3.below)
        have hs3 : wr.heap.size < w3.heap.size := blk_lt hx3
        clear hW3 hT3 hx3 y1 y2 HX2 HW2 HB2
        go_wp2_with (fail)
        have hc := op_writer_num.calls w.heap.size w1.heap.size w3.heap.size [x.f3, x.f4, x.f5] _ _ (HW3.out.alloc (.cells #[.int .i64 x.f3, .int .i64 x.f4, .int .i64 x.f5] 3)) (by simp; omega) (alloc_at rfl) (by rw [List.length_append, List.length_append, List.length_append, flat_len, List.length_take]; simp; omega)
        refine hc.mono ?_
        clear hc
        rintro e w4 ⟨rfl, hW4, hT4⟩
        have HB4 := Aside0.mk (Below.trans (HB3.out.alloc (by omega) _) hT4.below)
        have HW4 := Aside0.mk hW4
        clear hW4 hT4 y3 y4 y5 HW3 HB3
        go_wp2_with (fail)
        go_roundw
        case rel => exact ⟨i + 1, by omega, by go_num, Aside0.mk (by rw [flat_snoc _ _ _ hlt, HX.out]; have := HW4.out; simpa [opF] using this), HB4⟩
        case measure => simp [intOf]; omega
      · have hil : i = l0_2.length := by omega
        subst hil
        have HE := HI.out
        rw [List.take_length] at HE
        obtain ⟨v, hg, _, hR⟩ := HE
        obtain ⟨Ao, co, rfl⟩ := Kd.R_slice hR
        have hcl : wr.cell? ⟨w1.heap.size, 0, none⟩ = some (.slice Ao _ co) := blk_cell hg 0
        have hRd := Kd.R_reads' hR
        have HRC := Aside0.mk hRd.2.2
        have hle := hRd.2.1
        clear hR hg HI hRd
        have HE := H3.out
        unfold reqF at HE
        have H4 := Aside0.mk HE
        clear HE H3
        generalize [fN a0_0, fN a0_1, fN (l0_2.length : Int)] ++ l0_2.flatMap opF = L at *
        go_wp2_with (fail)
        refine (code_Encode.calls k Ao co L r1 r2 wr HRC.out hle H4.out).mono ?_
        rintro e wz ⟨rfl, hBz⟩
        go_wp2
        go_ret2
        exact ⟨rfl, Below.trans HT.out (hBz.mono HT.out.size)⟩
  · have H3 : (⟨#[]⟩ : ByteArray) = r1 ∧ e0 = r2 := by
      have := H2.out
      rw [if_neg he] at this
      injection this with this
      injection this with h1 h2
      exact ⟨h1, h2⟩
    have q : (e0 != 0) = true := by simp [he]
    obtain ⟨rfl, rfl⟩ := H3
    clear he HF H1 H2
    go_wp2
    go_ret2
    exact ⟨rfl, HB1.out⟩

end Go.Proofs.YtdfdlajfjcakaaaGreat.PAll
