-- written by a program of ours (wip/printx: the kit's print, changed in a few places)
import Derived.Test.YtcpenjbgiecgnaaPAllx0
import Derived.Test.YtcpenjbgiecgnaaPAllx1020
import Derived.Test.YtcpenjbgiecgnaaHReply
import Derived.Test.YtcpenjbgiecgnaaHWriter
namespace Go.Proofs.Ytcpenjbgiecgnaa.PAll
open Go.RowKit Go.Proofs.Ytcpenjbgiecgnaa.Extra Go.Proofs.YtcpenjbgiecgnaaW.PrintWords Go.Proofs.YtcpenjbgiecgnaaW.PrintLast Go.Proofs.YtcpenjbgiecgnaaW.PrintMore
attribute [local go_sem] max2_int min2_int max_two min_two max_three min_three max_four min_four   -- for this text's walks alone
set_option linter.unusedVariables false
set_option linter.unusedSimpArgs false

/-- A row's, a result's, a reply's fields. -/
def rowF (y : S76) : List S62 := [fT y.f0, fN y.f1, fT y.f2]
def resF (x : S59) : List S62 := [fN x.f0, fN x.f1, fT x.f2, fN (x.f3.length : Int)] ++ x.f3.flatMap rowF
def repF (cl sq : Int) (rs : List S59) (at_ co : Int) : List S62 := [fN cl, fN sq, fN at_, fN co, fN (rs.length : Int)] ++ rs.flatMap resF
def op_EncodeReply.f (k : Nat) (a0_0 : Int) (a0_1 : Int) (l0_2 : List (S59)) (a0_3 : Int) (a0_4 : Int) : Option (ByteArray × Int) :=
  if repOk a0_0 a0_1 l0_2 a0_3 a0_4 = true then code_Encode.f k (repF a0_0 a0_1 l0_2 a0_3 a0_4) else some ((⟨#[]⟩ : ByteArray), 80)
theorem op_EncodeReply.mono : ∀ a0 a1 a2 a3 a4 k, LeO (op_EncodeReply.f k a0 a1 a2 a3 a4) (op_EncodeReply.f (k + 1) a0 a1 a2 a3 a4) := by
  intro a0 a1 a2 a3 a4 k
  unfold op_EncodeReply.f
  exact LeO.ite (code_Encode.mono _ _) (LeO.refl _)
theorem repOk_few {a b : Int} {l : List S59} {c d : Int} (h : repOk a b l c d = true) : l.length ≤ 32 ∧ ∀ x ∈ l, x.f3.length ≤ 100 := by
  unfold repOk at h
  split at h
  · split at h
    · rename_i h0
      exact ⟨by omega, fun x hx => by rw [List.length_eq_zero_iff.1 h0] at hx; cases hx⟩
    · rw [Bool.and_eq_true, Bool.and_eq_true] at h
      refine ⟨of_decide_eq_true h.1, fun x hx => ?_⟩
      have := List.all_eq_true.1 h.2.2 x hx
      unfold resOk at this
      simp only [Bool.and_eq_true] at this
      exact of_decide_eq_true this.2.2.2.2
  · cases h
theorem flat_le {α β : Type} (f : α → List β) (m : Nat) : ∀ (l : List α), (∀ x ∈ l, (f x).length ≤ m) → (l.flatMap f).length ≤ m * l.length
  | [], _ => by simp
  | x :: l, h => by
    rw [List.flatMap_cons, List.length_append, List.length_cons, Nat.mul_add]
    have h1 := h x List.mem_cons_self
    have h2 := flat_le f m l (fun y hy => h y (List.mem_cons_of_mem _ hy))
    omega
theorem rowsF_le (l : List S76) : (l.flatMap rowF).length ≤ 3 * l.length := flat_le rowF 3 l (fun y _ => by simp [rowF])
theorem resF_le (x : S59) (h : x.f3.length ≤ 100) : (resF x).length ≤ 304 := by
  have := rowsF_le x.f3
  unfold resF
  rw [List.length_append]
  simp only [List.length_cons, List.length_nil]
  omega
theorem ressF_le (l : List S59) (i : Nat) (h : ∀ x ∈ l, x.f3.length ≤ 100) (hl : l.length ≤ 32) : ((l.take i).flatMap resF).length ≤ 9728 := by
  have h1 := flat_le resF 304 (l.take i) (fun x hx => resF_le x (h x (List.mem_of_mem_take hx)))
  have h2 : (l.take i).length ≤ 32 := by rw [List.length_take]; omega
  omega
theorem rowsF_le2 (l : List S76) (i : Nat) (h : l.length ≤ 100) : ((l.take i).flatMap rowF).length ≤ 300 := by
  have h1 := rowsF_le (l.take i)
  have h2 : (l.take i).length ≤ 100 := by rw [List.length_take]; omega
  omega
set_option maxHeartbeats 16000000 in
set_option maxRecDepth 100000 in
theorem op_EncodeReply.calls (k : Nat) (a0_0 : Int) (a0_1 : Int) (A0_2 : Option Addr) (c0_2 : Nat) (l0_2 : List (S59)) (a0_3 : Int) (a0_4 : Int) (r1 : ByteArray) (r2 : Int) (w : World) (hr0_2 : Kd.C k59 w A0_2 l0_2.length l0_2) (hc0_2 : l0_2.length ≤ c0_2) (h : op_EncodeReply.f k a0_0 a0_1 l0_2 a0_3 a0_4 = some (r1, r2)) :
    Calls Try.prog 16 #[.agg #[.int .i64 a0_0, .int .i64 a0_1, .slice A0_2 l0_2.length c0_2, .int .i64 a0_3, .int .i64 a0_4]] w fun e w' => e = .returned (.tuple #[.string r1, .int .i64 r2]) ∧ Below w.heap.size w w' := by
  have hu47 := Try.underlying38
  have hu45 := Try.underlying36
  have hu99 := Try.underlying59
  have hu101 := Try.underlying76
  have hu79 := Try.underlying72
  unfold op_EncodeReply.f at h
  have HC := Aside0.mk hr0_2
  have HH := Aside0.mk h
  clear hr0_2 h
  have HB := Aside0.mk ((Below.refl w.heap.size w).alloc (Nat.le_refl _) (.cells #[.int .i64 a0_0, .int .i64 a0_1, .slice A0_2 l0_2.length c0_2, .int .i64 a0_3, .int .i64 a0_4] 38))
  go_enter Try.func16, Try.ntmps16
  go_wp2_with (fail)
  refine (op_reply.calls a0_0 a0_1 A0_2 c0_2 l0_2 a0_3 a0_4 _ _ (Kd.C_below HC.out HB.out) hc0_2 rfl).mono ?_
  rintro e w1 ⟨rfl, hB1⟩
  have hblk : w1.heap[w.heap.size]? = some (.cells #[.int .i64 a0_0, .int .i64 a0_1, .slice A0_2 l0_2.length c0_2, .int .i64 a0_3, .int .i64 a0_4] 38 (0, 0)) := (hB1.block _ (by simp)).trans (alloc_at rfl)
  have HB1 := Aside0.mk (Below.trans HB.out (hB1.mono (by simp)))
  clear hB1 HB
  have hsz : w.heap.size < w1.heap.size := blk_lt hblk
  obtain ⟨b, hb⟩ : ∃ b, repOk a0_0 a0_1 l0_2 a0_3 a0_4 = b := ⟨_, rfl⟩
  rw [hb]
  rw [hb] at HH
  have HR := Aside0.mk hb
  clear hb
  cases b
  · have H3 : (⟨#[]⟩ : ByteArray) = r1 ∧ (80 : Int) = r2 := by
      have := HH.out
      rw [if_neg (by decide)] at this
      injection this with this
      injection this with h1 h2
      exact ⟨h1, h2⟩
    obtain ⟨rfl, rfl⟩ := H3
    clear HH
    go_wp2
    go_ret2
    exact ⟨rfl, HB1.out⟩
  · have H3 : Aside0 (code_Encode.f k (repF a0_0 a0_1 l0_2 a0_3 a0_4) = some (r1, r2)) := Aside0.mk (by have := HH.out; rw [if_pos rfl] at this; exact this)
    obtain ⟨hl, hrow⟩ := repOk_few HR.out
    have HROW := Aside0.mk hrow
    clear HH HR hrow
    have c0 : w1.cell? ⟨w.heap.size, 0, none⟩ = some (.int .i64 a0_0) := blk_cell hblk 0
    have c1 : w1.cell? ⟨w.heap.size, 1, none⟩ = some (.int .i64 a0_1) := blk_cell hblk 1
    have c2 : w1.cell? ⟨w.heap.size, 2, none⟩ = some (.slice A0_2 l0_2.length c0_2) := blk_cell hblk 2
    have c3 : w1.cell? ⟨w.heap.size, 3, none⟩ = some (.int .i64 a0_3) := blk_cell hblk 3
    have c4 : w1.cell? ⟨w.heap.size, 4, none⟩ = some (.int .i64 a0_4) := blk_cell hblk 4
    have HBK := Aside0.mk hblk
    clear hblk
    go_wp2_with (fail)
    have hB2 : Below w.heap.size w ((w1.alloc (.cells #[.slice none 0 0] 72)).alloc (.cells #[.int .i64 a0_0, .int .i64 a0_1, .int .i64 a0_3, .int .i64 a0_4, .int .i64 (l0_2.length : Int)] 3)) := (HB1.out.alloc (by omega) _).alloc (by simp; omega) _
    have hW2 : Wr ((w1.alloc (.cells #[.slice none 0 0] 72)).alloc (.cells #[.int .i64 a0_0, .int .i64 a0_1, .int .i64 a0_3, .int .i64 a0_4, .int .i64 (l0_2.length : Int)] 3)) w.heap.size w1.heap.size [] := ⟨.slice none 0 0, alloc_before (alloc_at rfl), by omega, Kd.R_nil _ _ _ _ _⟩
    have ha2 : ((w1.alloc (.cells #[.slice none 0 0] 72)).alloc (.cells #[.int .i64 a0_0, .int .i64 a0_1, .int .i64 a0_3, .int .i64 a0_4, .int .i64 (l0_2.length : Int)] 3)).heap[w1.heap.size + 1]? = some (.cells (nums .i64 [a0_0, a0_1, a0_3, a0_4, (l0_2.length : Int)]).toArray 3 (0, 0)) := alloc_at (by simp)
    have HB2 := Aside0.mk hB2
    have HP := Aside0.mk (op_writer_num.calls w.heap.size w1.heap.size (w1.heap.size + 1) [a0_0, a0_1, a0_3, a0_4, (l0_2.length : Int)] [] _ hW2 (by simp; omega) ha2 (by simp))
    clear hB2 hW2 ha2
    refine HP.out.mono ?_
    rintro e wn ⟨rfl, hWn, hTn⟩
    have HWn := Aside0.mk hWn
    have HBn := Aside0.mk (Below.trans HB2.out hTn.below)
    have hbk := hTn.blk (alloc_before (alloc_before HBK.out)) (by decide)
    have cb2 : wn.cell? ⟨w.heap.size, 2, none⟩ = some (.slice A0_2 l0_2.length c0_2) := blk_cell hbk 2
    clear hWn hTn HP HB2 hbk HBK c0 c1 c2 c3 c4
    have hwn : w1.heap.size < wn.heap.size := blk_lt HWn.out.choose_spec.1
    go_wp2_with (fail)
    go_loopw [33] (fun v wr => ∃ i : Nat, i ≤ l0_2.length ∧ v = .int .i64 i ∧ Aside0 (Wr wr w.heap.size w1.heap.size ([fN a0_0, fN a0_1, fN a0_3, fN a0_4, fN (l0_2.length : Int)] ++ (l0_2.take i).flatMap resF)) ∧ Aside0 (Below w.heap.size w wr)) (fun v _ => l0_2.length - (intOf v).toNat)
    case atStart => exact ⟨0, by omega, rfl, by simpa using HWn, HBn⟩
    case round =>
      obtain ⟨i, hi, rfl, HI, HT⟩ := hrel
      have hwr : w1.heap.size < wr.heap.size := blk_lt HI.out.choose_spec.1
      by_cases hlt : i < l0_2.length
      · obtain ⟨ad, A3, c3, hA, x0, x1, x2, x3, hl3, g3⟩ := at_T59 HC.out (i : Int) (by omega) (by omega)
        subst hA
        rw [rd_res l0_2 i hlt] at x0 x1 x2 x3 hl3 g3
        simp only [Int.toNat_natCast] at x0 x1 x2 x3
        have hr100 : l0_2[i].f3.length ≤ 100 := HROW.out _ (List.getElem_mem hlt)
        obtain ⟨x, hx⟩ : ∃ x, l0_2[i] = x := ⟨_, rfl⟩
        rw [hx] at x0 x1 x2 x3 hl3 g3 hr100
        replace x0 := pw_cell_below HT.out x0
        replace x1 := pw_cell_below HT.out x1
        replace x2 := pw_cell_below HT.out x2
        replace x3 := pw_cell_below HT.out x3
        have HX := Aside0.mk hx
        have HG3 := Aside0.mk g3
        clear hx g3
        go_wp2_with (fail)
        have hb0 : w.heap.size ≤ wr.heap.size := by omega
        have HA1 := Aside0.mk (HT.out.alloc hb0 (.cells #[.int .i64 x.f0, .int .i64 x.f1, .string x.f2, .slice A3 x.f3.length c3] 59))
        have HX1 : Aside0 ((wr.alloc (.cells #[.int .i64 x.f0, .int .i64 x.f1, .string x.f2, .slice A3 x.f3.length c3] 59)).heap[wr.heap.size]? = some (.cells #[.int .i64 x.f0, .int .i64 x.f1, .string x.f2, .slice A3 x.f3.length c3] 59 (0, 0))) := Aside0.mk (alloc_at rfl)
        have HW1 := Aside0.mk (HI.out.alloc (.cells #[.int .i64 x.f0, .int .i64 x.f1, .string x.f2, .slice A3 x.f3.length c3] 59))
        have hpre := ressF_le l0_2 i HROW.out hl
        have hz1 : (wr.alloc (.cells #[.int .i64 x.f0, .int .i64 x.f1, .string x.f2, .slice A3 x.f3.length c3] 59)).heap.size = wr.heap.size + 1 := by simp
        have hc := op_writer_num.calls w.heap.size w1.heap.size (wr.heap.size + 1) [x.f0, x.f1] _ _ (HW1.out.alloc (.cells #[.int .i64 x.f0, .int .i64 x.f1] 3)) (by simp; omega) (alloc_at hz1.symm) (by rw [List.length_append]; simp only [List.length_cons, List.length_nil]; omega)
        clear hz1
        refine hc.mono ?_
        clear hc
        rintro e w2 ⟨rfl, hW2, hT2⟩
        have hx2 := hT2.blk (alloc_before HX1.out) (by decide)
        have y2 : w2.cell? ⟨wr.heap.size, 2, none⟩ = some (.string x.f2) := blk_cell hx2 2
        have HX2 := Aside0.mk hx2
        have HW2 := Aside0.mk hW2
        have HB2 := Aside0.mk (Below.trans (HA1.out.alloc (by simp; omega) _) hT2.below)
        have hs2 : wr.heap.size < w2.heap.size := blk_lt hx2
        clear hW2 hT2 hx2 x0 x1 x2 x3 HX1 HA1 HW1 HI HT
        go_wp2_with (fail)
        have hc := op_writer_text.calls w.heap.size w1.heap.size w2.heap.size [x.f2] _ _ (HW2.out.alloc (.cells #[.string x.f2] 9)) (by simp; omega) (alloc_at rfl) (by rw [List.length_append, List.length_append]; simp only [List.length_cons, List.length_nil, List.length_map]; omega)
        refine hc.mono ?_
        clear hc
        rintro e w3 ⟨rfl, hW3, hT3⟩
        have hx3 := hT3.blk (alloc_before HX2.out) (by decide)
        have y3 : w3.cell? ⟨wr.heap.size, 3, none⟩ = some (.slice A3 x.f3.length c3) := blk_cell hx3 3
        have HX3 := Aside0.mk hx3
        have HW3 := Aside0.mk hW3
        have HB3 := Aside0.mk (Below.trans (HB2.out.alloc (by omega) _) hT3.below)
        have hs3 : wr.heap.size < w3.heap.size := blk_lt hx3
        clear hW3 hT3 hx3 y2 HX2 HW2 HB2
        go_wp2_with (fail)
        have hc := op_writer_num.calls w.heap.size w1.heap.size w3.heap.size [(x.f3.length : Int)] _ _ (HW3.out.alloc (.cells #[.int .i64 (x.f3.length : Int)] 3)) (by simp; omega) (alloc_at rfl) (by rw [List.length_append, List.length_append, List.length_append]; simp only [List.length_cons, List.length_nil, List.length_map]; omega)
        refine hc.mono ?_
        clear hc
        rintro e w4 ⟨rfl, hW4, hT4⟩
        have hx4 := hT4.blk (alloc_before HX3.out) (by decide)
        have y4 : w4.cell? ⟨wr.heap.size, 3, none⟩ = some (.slice A3 x.f3.length c3) := blk_cell hx4 3
        have HB4 := Aside0.mk (Below.trans (HB3.out.alloc (by omega) _) hT4.below)
        have HW4 := Aside0.mk hW4
        have hs4 : w1.heap.size < w4.heap.size := blk_lt HW4.out.choose_spec.1
        clear hW4 hT4 y3 HX3 HW3 HB3 hx4
        go_wp2_with (fail)
        obtain ⟨wo, rfl⟩ : ∃ wo : World, wo = wr := ⟨_, rfl⟩
        go_loopw [58] (fun v wr => ∃ j : Nat, j ≤ x.f3.length ∧ v = .int .i64 j ∧ Aside0 (Wr wr w.heap.size w1.heap.size ([fN a0_0, fN a0_1, fN a0_3, fN a0_4, fN (l0_2.length : Int)] ++ (l0_2.take i).flatMap resF ++ ([fN x.f0, fN x.f1, fT x.f2, fN (x.f3.length : Int)] ++ (x.f3.take j).flatMap rowF))) ∧ Aside0 (Below w.heap.size w wr)) (fun v _ => x.f3.length - (intOf v).toNat)
        case atStart => exact ⟨0, by omega, rfl, Aside0.mk (by have := HW4.out; simpa using this), HB4⟩
        case round =>
          obtain ⟨j, hj, rfl, HI, HT⟩ := hrel
          have hwr : w1.heap.size < wr.heap.size := blk_lt HI.out.choose_spec.1
          by_cases hltj : j < x.f3.length
          · obtain ⟨ad2, hA2, x0, x1, x2⟩ := at_T76 (Kd.C_below HG3.out HT.out) (j : Int) (by omega) (by omega)
            subst hA2
            rw [rd_row x.f3 j hltj] at x0 x1 x2
            simp only [Int.toNat_natCast] at x0 x1 x2
            obtain ⟨y, hy⟩ : ∃ y, x.f3[j] = y := ⟨_, rfl⟩
            rw [hy] at x0 x1 x2
            have HY := Aside0.mk hy
            clear hy
            have hpre2 := rowsF_le2 x.f3 j hr100
            go_wp2_with (fail)
            have hb0 : w.heap.size ≤ wr.heap.size := by omega
            have HA1 := Aside0.mk (HT.out.alloc hb0 (.cells #[.string y.f0, .int .i64 y.f1, .string y.f2] 76))
            have HX1 : Aside0 ((wr.alloc (.cells #[.string y.f0, .int .i64 y.f1, .string y.f2] 76)).heap[wr.heap.size]? = some (.cells #[.string y.f0, .int .i64 y.f1, .string y.f2] 76 (0, 0))) := Aside0.mk (alloc_at rfl)
            have HW1 := Aside0.mk (HI.out.alloc (.cells #[.string y.f0, .int .i64 y.f1, .string y.f2] 76))
            have hz1 : (wr.alloc (.cells #[.string y.f0, .int .i64 y.f1, .string y.f2] 76)).heap.size = wr.heap.size + 1 := by simp
            have hc := op_writer_text.calls w.heap.size w1.heap.size (wr.heap.size + 1) [y.f0] _ _ (HW1.out.alloc (.cells #[.string y.f0] 9)) (by simp; omega) (alloc_at hz1.symm) (by rw [List.length_append, List.length_append, List.length_append]; simp only [List.length_cons, List.length_nil]; omega)
            clear hz1
            refine hc.mono ?_
            clear hc
            rintro e w2 ⟨rfl, hW2, hT2⟩
            have hx2 := hT2.blk (alloc_before HX1.out) (by decide)
            have y1 : w2.cell? ⟨wr.heap.size, 1, none⟩ = some (.int .i64 y.f1) := blk_cell hx2 1
            have HX2 := Aside0.mk hx2
            have HW2 := Aside0.mk hW2
            have HB2 := Aside0.mk (Below.trans (HA1.out.alloc (by simp; omega) _) hT2.below)
            have hs2 : wr.heap.size < w2.heap.size := blk_lt hx2
            clear hW2 hT2 hx2 x0 x1 x2 HX1 HA1 HW1 HI HT
            go_wp2_with (fail)
            have hc := op_writer_num.calls w.heap.size w1.heap.size w2.heap.size [y.f1] _ _ (HW2.out.alloc (.cells #[.int .i64 y.f1] 3)) (by simp; omega) (alloc_at rfl) (by rw [List.length_append, List.length_append, List.length_append, List.length_append]; simp only [List.length_cons, List.length_nil, List.length_map]; omega)
            refine hc.mono ?_
            clear hc
            rintro e w3 ⟨rfl, hW3, hT3⟩
            have hx3 := hT3.blk (alloc_before HX2.out) (by decide)
            have y2 : w3.cell? ⟨wr.heap.size, 2, none⟩ = some (.string y.f2) := blk_cell hx3 2
            have HW3 := Aside0.mk hW3
            have HB3 := Aside0.mk (Below.trans (HB2.out.alloc (by omega) _) hT3.below)
            have hs3 : wr.heap.size < w3.heap.size := blk_lt hx3
            clear hW3 hT3 hx3 y1 HX2 HW2 HB2
            go_wp2_with (fail)
            have hc := op_writer_text.calls w.heap.size w1.heap.size w3.heap.size [y.f2] _ _ (HW3.out.alloc (.cells #[.string y.f2] 9)) (by simp; omega) (alloc_at rfl) (by rw [List.length_append, List.length_append, List.length_append, List.length_append, List.length_append]; simp only [List.length_cons, List.length_nil, List.length_map]; omega)
            refine hc.mono ?_
            clear hc
            rintro e w5 ⟨rfl, hW5, hT5⟩
            have HB5 := Aside0.mk (Below.trans (HB3.out.alloc (by omega) _) hT5.below)
            have HW5 := Aside0.mk hW5
            clear hW5 hT5 y2 HW3 HB3
            go_wp2_with (fail)
            go_roundw
            case rel => exact ⟨j + 1, by omega, by go_num, Aside0.mk (by rw [flat_snoc _ _ _ hltj, HY.out]; have := HW5.out; simpa [rowF] using this), HB5⟩
            case measure => simp [intOf]; omega
          · have hjl : j = x.f3.length := by omega
            subst hjl
            have HE := HI.out
            rw [List.take_length] at HE
            have HE := Aside0.mk HE
            clear HI
            go_wp2_with (fail)
            go_roundw
            case rel => exact ⟨i + 1, by omega, by go_num, Aside0.mk (by rw [flat_snoc _ _ _ hlt, HX.out, ← List.append_assoc]; exact HE.out), HT⟩
            case measure => simp [intOf]; omega
      · have hil : i = l0_2.length := by omega
        subst hil
        have HE := HI.out
        rw [List.take_length] at HE
        obtain ⟨v, hg, _, hR⟩ := HE
        obtain ⟨Ao, co, rfl⟩ := Kd.R_slice hR
        have hcl : wr.cell? ⟨w1.heap.size, 0, none⟩ = some (.slice Ao _ co) := blk_cell hg 0
        have hRd := Kd.R_reads' hR
        have HRC := Aside0.mk hRd.2.2
        have hle := hRd.2.1
        clear hR hg HI hRd
        have HE := H3.out
        unfold repF at HE
        have H4 := Aside0.mk HE
        clear HE H3
        generalize [fN a0_0, fN a0_1, fN a0_3, fN a0_4, fN (l0_2.length : Int)] ++ l0_2.flatMap resF = L at *
        go_wp2_with (fail)
        refine (code_Encode.calls k Ao co L r1 r2 wr HRC.out hle H4.out).mono ?_
        rintro e wz ⟨rfl, hBz⟩
        go_wp2
        go_ret2
        exact ⟨rfl, Below.trans HT.out (hBz.mono HT.out.size)⟩

end Go.Proofs.Ytcpenjbgiecgnaa.PAll
