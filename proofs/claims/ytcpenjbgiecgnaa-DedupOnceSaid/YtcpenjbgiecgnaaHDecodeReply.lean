-- written by a program of ours (wip/printx: the kit's print, changed in a few places)
import Derived.Test.YtcpenjbgiecgnaaHRng
import Derived.Test.YtcpenjbgiecgnaaHKey
import Derived.Test.YtcpenjbgiecgnaaPAllx0
import Derived.Test.YtcpenjbgiecgnaaPAllx1021
import Derived.Test.YtcpenjbgiecgnaaHOpen
import Derived.Test.YtcpenjbgiecgnaaHReader
import Derived.Test.YtcpenjbgiecgnaaHReply
import Derived.Test.YtcpenjbgiecgnaaHWriter
namespace Go.Proofs.Ytcpenjbgiecgnaa.PAll
open Go.RowKit Go.Proofs.Ytcpenjbgiecgnaa.Extra Go.Proofs.YtcpenjbgiecgnaaW.PrintWords Go.Proofs.YtcpenjbgiecgnaaW.PrintLast Go.Proofs.YtcpenjbgiecgnaaW.PrintMore
attribute [local go_sem] max2_int min2_int max_two min_two max_three min_three max_four min_four   -- for this text's walks alone
set_option linter.unusedVariables false
set_option linter.unusedSimpArgs false

/-- A row that is read; so many of them; so many results. -/
def rrow (s : List S62 × Bool) : S76 × (List S62 × Bool) := (⟨(rtxt s).1, (rnum (rtxt s).2).1, (rtxt (rnum (rtxt s).2).2).1⟩, (rtxt (rnum (rtxt s).2).2).2)
def op_DecodeReply.l1 : Nat → Int → Int → List S62 × Bool → List S76 → Option (List S76 × (List S62 × Bool))
  | 0, _, _, _, _ => none
  | k + 1, n, i, s, acc => if i < n then (if s.2 = true then (if acc.length < 2199023255552 then op_DecodeReply.l1 k n (i + 1) (rrow s).2 (acc ++ [(rrow s).1]) else none) else some (acc, s)) else some (acc, s)
def op_DecodeReply.l0 : Nat → Int → Int → List S62 × Bool → List S59 → Option (List S59 × (List S62 × Bool))
  | 0, _, _, _, _ => none
  | k + 1, n, i, s, acc => if i < n then (if s.2 = true then ((op_DecodeReply.l1 k (rnum (rtxt (rnum (rnum s).2).2).2).1 0 (rnum (rtxt (rnum (rnum s).2).2).2).2 []).bind fun r =>
      if acc.length < 2199023255552 then op_DecodeReply.l0 k n (i + 1) r.2 (acc ++ [⟨(rnum s).1, (rnum (rnum s).2).1, (rtxt (rnum (rnum s).2).2).1, r.1⟩]) else none) else some (acc, s)) else some (acc, s)
def rep4 (l : List S62) : (Int × Int × Int × Int × Int) × (List S62 × Bool) :=
  (((rnum (l, true)).1, (rnum (rnum (l, true)).2).1, (rnum (rnum (rnum (l, true)).2).2).1, (rnum (rnum (rnum (rnum (l, true)).2).2).2).1, (rnum (rnum (rnum (rnum (rnum (l, true)).2).2).2).2).1), (rnum (rnum (rnum (rnum (rnum (l, true)).2).2).2).2).2)
def op_DecodeReply.f (k : Nat) (a0 : ByteArray) : Option (Int × Int × List (S59) × Int × Int × Int) :=
  (code_Decode.f k a0).bind fun d =>
    if 262144 < a0.size then some (0, 0, [], 0, 0, 2)
    else if ¬ (d.2.1 = 0 ∧ d.2.2 = 0) then some (0, 0, [], 0, 0, 80)
    else (op_DecodeReply.l0 k (rep4 d.1).1.2.2.2.2 0 (rep4 d.1).2 []).bind fun r =>
      if rwhole r.2 = true then (if repOk (rep4 d.1).1.1 (rep4 d.1).1.2.1 r.1 (rep4 d.1).1.2.2.1 (rep4 d.1).1.2.2.2.1 = true then some ((rep4 d.1).1.1, (rep4 d.1).1.2.1, r.1, (rep4 d.1).1.2.2.1, (rep4 d.1).1.2.2.2.1, 0) else some (0, 0, [], 0, 0, 80))
      else some (0, 0, [], 0, 0, 80)
theorem op_DecodeReply.mono_l1 : ∀ k n i s acc, LeO (op_DecodeReply.l1 k n i s acc) (op_DecodeReply.l1 (k + 1) n i s acc)
  | 0, _, _, _, _ => fun r h => by simp [op_DecodeReply.l1] at h
  | k + 1, n, i, s, acc => by
    unfold op_DecodeReply.l1
    exact LeO.ite (LeO.ite (LeO.ite (op_DecodeReply.mono_l1 k _ _ _ _) (LeO.refl _)) (LeO.refl _)) (LeO.refl _)
theorem op_DecodeReply.mono_l : ∀ k n i s acc, LeO (op_DecodeReply.l0 k n i s acc) (op_DecodeReply.l0 (k + 1) n i s acc)
  | 0, _, _, _, _ => fun r h => by simp [op_DecodeReply.l0] at h
  | k + 1, n, i, s, acc => by
    unfold op_DecodeReply.l0
    exact LeO.ite (LeO.ite (LeO.bind (op_DecodeReply.mono_l1 k _ _ _ _) (fun r => LeO.ite (op_DecodeReply.mono_l k _ _ _ _) (LeO.refl _))) (LeO.refl _)) (LeO.refl _)
theorem op_DecodeReply.mono : ∀ a0 k, LeO (op_DecodeReply.f k a0) (op_DecodeReply.f (k + 1) a0) := by
  intro a0 k
  unfold op_DecodeReply.f
  refine LeO.bind (code_Decode.mono _ _) (fun d => LeO.ite (LeO.refl _) (LeO.ite (LeO.refl _) (LeO.bind (op_DecodeReply.mono_l _ _ _ _ _) (fun r => LeO.refl _))))
theorem row_info : (Try.prog.info? 76).map (fun i => (i.zero, i.size, i.bytes)) = some (some (.agg #[(.string ⟨#[]⟩), (.int .i64 0), (.string ⟨#[]⟩)]), 3, 40) := by kernel_rfl
theorem rows_E : ∀ q, q ∈ 76 :: k76.E → q = 76 := by
  intro q hq
  have : k76.E = [] := rfl
  rw [this] at hq
  simpa using hq
theorem ress_E : ∀ q, q ∈ 59 :: k59.E → q = 59 ∨ q = 76 := by
  intro q hq
  have : k59.E = [76] := rfl
  rw [this] at hq
  simpa using hq
theorem rows_keep {W w1 : World} {b g : Nat} {ok : Nat → Prop} {v : Value} {xs : List S76} (h : Kd.R k76 76 W b ok v xs) (hg : ∃ cells, W.heap[g]? = some (.cells cells 105 (0, 0))) (hk : KeepBut W w1 g none) : Kd.R k76 76 w1 b ok v xs := by
  obtain ⟨cells, hg⟩ := hg
  refine Kd.R_mono (Kd.R_keep (Kd.R_types h hg (fun q hq => by rw [rows_E q hq]; decide)) hk (fun _ h => h.2)) (fun _ h => h.1)
theorem ress_keep {W w1 : World} {b g : Nat} {ok : Nat → Prop} {v : Value} {xs : List S59} (h : Kd.S k59 59 W b ok v xs) (hg : ∃ cells, W.heap[g]? = some (.cells cells 105 (0, 0))) (hk : KeepBut W w1 g none) : Kd.S k59 59 w1 b ok v xs := by
  obtain ⟨cells, hg⟩ := hg
  refine Kd.S_mono (Kd.S_keep (Kd.S_types h hg (fun q hq => by rcases ress_E q hq with rfl | rfl <;> decide)) hk (fun _ h => h.2)) (fun _ h => h.1)
theorem rd_grownG {α : Type} {d : Kd α} {e : Nat} {okr : Nat → Prop} {w0 W w1 : World} {g b : Nat} {l : List S62} {ok : Bool} {v : Value} {xs : List α} (h : Rd w0 W g l ok) (ho : d.R e W b okr v xs) (he : e ≠ 105) (hg : W.grownBy w1 v.ownBlock) : Rd w0 w1 g l ok := by
  obtain ⟨A, c, h1, h2⟩ := h
  exact ⟨A, c, blk_grown h1 hg (Kd.R_ne ho h1 he), h2⟩
theorem st5_blk {w : World} {b t : Nat} {u0 u1 u2 u3 u4 : Value} (h : w.heap[b]? = some (.cells #[u0, u1, u2, u3, u4] t (0, 0))) (v0 v1 v2 v3 v4 : Value) :
    (((((w.setCell ⟨b, 0, none⟩ v0).setCell ⟨b, 1, none⟩ v1).setCell ⟨b, 2, none⟩ v2).setCell ⟨b, 3, none⟩ v3).setCell ⟨b, 4, none⟩ v4).heap[b]? = some (.cells #[v0, v1, v2, v3, v4] t (0, 0)) := by
  have := blk_set (blk_set (blk_set (blk_set (blk_set h 0 v0) 1 v1) 2 v2) 3 v3) 4 v4
  simpa using this
theorem st5_below {B b : Nat} {w w1 : World} (h : Below B w w1) (hb : B ≤ b) (v0 v1 v2 v3 v4 : Value) : Below B w (((((w1.setCell ⟨b, 0, none⟩ v0).setCell ⟨b, 1, none⟩ v1).setCell ⟨b, 2, none⟩ v2).setCell ⟨b, 3, none⟩ v3).setCell ⟨b, 4, none⟩ v4) :=
  ((((h.setCell hb v0).setCell hb v1).setCell hb v2).setCell hb v3).setCell hb v4
theorem ress_st5 {W : World} {b g : Nat} {ok : Nat → Prop} {v u0 u1 u2 u3 u4 : Value} {xs : List S59} (h : Kd.S k59 59 W b ok v xs) (hg : W.heap[g]? = some (.cells #[u0, u1, u2, u3, u4] 38 (0, 0))) (v0 v1 v2 v3 v4 : Value) :
    Kd.S k59 59 (((((W.setCell ⟨g, 0, none⟩ v0).setCell ⟨g, 1, none⟩ v1).setCell ⟨g, 2, none⟩ v2).setCell ⟨g, 3, none⟩ v3).setCell ⟨g, 4, none⟩ v4) b ok v xs := by
  have ht : ∀ q, q ∈ 59 :: k59.E → q ≠ 38 := fun q hq => by rcases ress_E q hq with rfl | rfl <;> decide
  have h0 := blk_set hg 0 v0
  have h1 := blk_set h0 1 v1
  have h2 := blk_set h1 2 v2
  have h3 := blk_set h2 3 v3
  exact Kd.S_set (Kd.S_set (Kd.S_set (Kd.S_set (Kd.S_set h hg ht 0 v0) h0 ht 1 v1) h1 ht 2 v2) h2 ht 3 v3) h3 ht 4 v4
set_option maxHeartbeats 32000000 in
set_option maxRecDepth 100000 in
theorem op_DecodeReply.calls (k : Nat) (a0 : ByteArray) (r1 : Int) (r2 : Int) (r3 : List (S59)) (r4 : Int) (r5 : Int) (r6 : Int) (w : World) (h : op_DecodeReply.f k a0 = some (r1, r2, r3, r4, r5, r6)) :
    Calls Try.prog 33 #[.string a0] w fun e w' => ∃ v2_ : Value, e = .returned (.tuple #[.agg #[.int .i64 r1, .int .i64 r2, v2_, .int .i64 r4, .int .i64 r5], .int .i64 r6]) ∧ Kd.S k59 59 w' w.heap.size (fun _ => True) v2_ r3 ∧ Below w.heap.size w w' := by
  have hu47 := Try.underlying38
  have hu45 := Try.underlying36
  have hu99 := Try.underlying59
  have hu101 := Try.underlying76
  have hu90 := Try.underlying105
  unfold op_DecodeReply.f at h
  obtain ⟨⟨l, fa, fc⟩, h1, h2⟩ := Option.bind_eq_some_iff.1 h
  dsimp only at h2
  clear h
  have HA := Aside0.mk ((Below.refl w.heap.size w).alloc (Nat.le_refl _) (.cells #[.int .i64 0, .int .i64 0, .slice none 0 0, .int .i64 0, .int .i64 0] 38))
  by_cases hbad : 262144 < a0.size ∨ ¬ (fa = 0 ∧ fc = 0)
  · obtain ⟨c, hc, hr⟩ : ∃ c : Int, ((262144 < a0.size ∧ c = 2) ∨ (a0.size ≤ 262144 ∧ ¬ (fa = 0 ∧ fc = 0) ∧ c = 80)) ∧ ((0 : Int), (0 : Int), ([] : List S59), (0 : Int), (0 : Int), c) = (r1, r2, r3, r4, r5, r6) := by
      by_cases h3 : 262144 < a0.size
      · rw [if_pos h3] at h2
        exact ⟨2, .inl ⟨h3, rfl⟩, Option.some.inj h2⟩
      · rw [if_neg h3, if_pos (hbad.resolve_left h3)] at h2
        exact ⟨80, .inr ⟨by omega, hbad.resolve_left h3, rfl⟩, Option.some.inj h2⟩
    injection hr with e1 hr
    injection hr with e2 hr
    injection hr with e3 hr
    injection hr with e4 hr
    injection hr with e5 e6
    subst e1 e2 e3 e4 e5 e6
    have HP := Aside0.mk (fun (W : World) => op_open.bad k a0 l fa fc W h1 c hc)
    have hcn : (c != 0) = true := by rcases hc with ⟨_, rfl⟩ | ⟨_, _, rfl⟩ <;> rfl
    clear h1 h2 hbad hc
    go_enter Try.func33, Try.ntmps33
    go_wp2_with (fail)
    refine (HP.out _).mono ?_
    rintro e w1 ⟨rfl, hB⟩
    have hblk : w1.heap[w.heap.size]? = some (.cells #[.int .i64 0, .int .i64 0, .slice none 0 0, .int .i64 0, .int .i64 0] 38 (0, 0)) := (hB.block _ (by simp)).trans (alloc_at rfl)
    have HB := Aside0.mk (Below.trans HA.out (hB.mono (by simp)))
    have c0 : w1.cell? ⟨w.heap.size, 0, none⟩ = some (.int .i64 0) := blk_cell hblk 0
    have c1 : w1.cell? ⟨w.heap.size, 1, none⟩ = some (.int .i64 0) := blk_cell hblk 1
    have c2 : w1.cell? ⟨w.heap.size, 2, none⟩ = some (.slice none 0 0) := blk_cell hblk 2
    have c3 : w1.cell? ⟨w.heap.size, 3, none⟩ = some (.int .i64 0) := blk_cell hblk 3
    have c4 : w1.cell? ⟨w.heap.size, 4, none⟩ = some (.int .i64 0) := blk_cell hblk 4
    have f0 := blk_frozen hblk 0
    have f1 := blk_frozen hblk 1
    have f2 := blk_frozen hblk 2
    have f3 := blk_frozen hblk 3
    have f4 := blk_frozen hblk 4
    have HBK := Aside0.mk hblk
    clear hB hblk
    go_wp2_with (fail)
    have z := st5_blk HBK.out (.int .i64 0) (.int .i64 0) (.slice none 0 0) (.int .i64 0) (.int .i64 0)
    have zB := st5_below HB.out (Nat.le_refl _) (.int .i64 0) (.int .i64 0) (.slice none 0 0) (.int .i64 0) (.int .i64 0)
    generalize ((((w1.setCell ⟨w.heap.size, 0, none⟩ (.int .i64 0)).setCell ⟨w.heap.size, 1, none⟩ (.int .i64 0)).setCell ⟨w.heap.size, 2, none⟩ (.slice none 0 0)).setCell ⟨w.heap.size, 3, none⟩ (.int .i64 0)).setCell ⟨w.heap.size, 4, none⟩ (.int .i64 0) = wz at *
    have d0 : wz.cell? ⟨w.heap.size, 0, none⟩ = some (.int .i64 0) := blk_cell z 0
    have d1 : wz.cell? ⟨w.heap.size, 1, none⟩ = some (.int .i64 0) := blk_cell z 1
    have d2 : wz.cell? ⟨w.heap.size, 2, none⟩ = some (.slice none 0 0) := blk_cell z 2
    have d3 : wz.cell? ⟨w.heap.size, 3, none⟩ = some (.int .i64 0) := blk_cell z 3
    have d4 : wz.cell? ⟨w.heap.size, 4, none⟩ = some (.int .i64 0) := blk_cell z 4
    refine bodyPost_ret (v := .tuple #[.agg #[.int .i64 0, .int .i64 0, .slice none 0 0, .int .i64 0, .int .i64 0], .int .i64 c]) (by simp [results, Try.results33, go_sem, d0, d1, d2, d3, d4]) rfl ⟨_, rfl, Kd.S_nil _ _ _ _ _, zB⟩
  · have hsz : ¬ 262144 < a0.size := fun h => hbad (.inl h)
    have hz : fa = 0 ∧ fc = 0 := Decidable.not_not.1 (fun h => hbad (.inr h))
    obtain ⟨rfl, rfl⟩ := hz
    rw [if_neg hsz, if_neg (by simp)] at h2
    obtain ⟨⟨rs, s9⟩, h3, h4⟩ := Option.bind_eq_some_iff.1 h2
    dsimp only at h4
    have HP := Aside0.mk (fun (W : World) => op_open.good k a0 l W h1 (by omega))
    unfold rep4 at h3 h4
    dsimp only at h3 h4
    have HL := Aside0.mk h3
    have HE := Aside0.mk h4
    clear h1 h2 h3 h4 hbad hsz
    go_enter Try.func33, Try.ntmps33
    go_wp2_with (fail)
    refine (HP.out _).mono ?_
    rintro e w1 ⟨g, w0, rfl, hR, hB0, hBw⟩
    have HZ : Aside0 (w0.heap[w.heap.size]? = some (.cells #[.int .i64 0, .int .i64 0, .slice none 0 0, .int .i64 0, .int .i64 0] 38 (0, 0))) := Aside0.mk ((hBw.block _ (by simp)).trans (alloc_at rfl))
    have HW := Aside0.mk (Below.trans HA.out (hBw.mono (by simp)))
    have hw0 : w.heap.size < w0.heap.size := blk_lt HZ.out
    have hg0 : w0.heap.size ≤ g := hR.ge
    have HR1 := Aside0.mk hR
    have HB1 := Aside0.mk hB0
    clear hR hB0 hBw HP HA
    go_wp2_with (fail)
    refine (op_reader_num.calls g (l, true) w0 w1 HR1.out HB1.out).mono ?_
    rintro e w2 ⟨rfl, hR, hK, hB⟩
    have HR2 := Aside0.mk hR
    have HB2 := Aside0.mk hB
    clear hR hK hB HR1 HB1
    go_wp2_with (fail)
    refine (op_reader_num.calls g (rnum (l, true)).2 w0 w2 HR2.out HB2.out).mono ?_
    rintro e w3 ⟨rfl, hR, hK, hB⟩
    have HR3 := Aside0.mk hR
    have HB3 := Aside0.mk hB
    clear hR hK hB HR2 HB2
    go_wp2_with (fail)
    refine (op_reader_num.calls g (rnum (rnum (l, true)).2).2 w0 w3 HR3.out HB3.out).mono ?_
    rintro e w4 ⟨rfl, hR, hK, hB⟩
    have HR4 := Aside0.mk hR
    have HB4 := Aside0.mk hB
    clear hR hK hB HR3 HB3
    go_wp2_with (fail)
    refine (op_reader_num.calls g (rnum (rnum (rnum (l, true)).2).2).2 w0 w4 HR4.out HB4.out).mono ?_
    rintro e w5 ⟨rfl, hR, hK, hB⟩
    have HR5 := Aside0.mk hR
    have HB5 := Aside0.mk hB
    clear hR hK hB HR4 HB4
    obtain ⟨cl, ecl⟩ : ∃ c, (rnum (l, true)).1 = c := ⟨_, rfl⟩
    obtain ⟨sq, esq⟩ : ∃ c, (rnum (rnum (l, true)).2).1 = c := ⟨_, rfl⟩
    obtain ⟨at_, eat⟩ : ∃ c, (rnum (rnum (rnum (l, true)).2).2).1 = c := ⟨_, rfl⟩
    obtain ⟨ec, eec⟩ : ∃ c, (rnum (rnum (rnum (rnum (l, true)).2).2).2).1 = c := ⟨_, rfl⟩
    obtain ⟨s2, es2⟩ : ∃ c, (rnum (rnum (rnum (rnum (l, true)).2).2).2).2 = c := ⟨_, rfl⟩
    rw [es2] at HR5 HL
    rw [ecl, esq, eat, eec] at HE ⊢
    clear ecl esq eat eec es2
    go_wp2_with (fail)
    have hg3 : g < w5.heap.size := HR5.out.lt
    have hxg : w5.heap.size ≠ g := by omega
    have BX := Aside0.mk (alloc_at (w := w5) (o := .cells #[.int .i64 cl, .int .i64 sq, .slice none 0 0, .int .i64 at_, .int .i64 ec] 38) rfl)
    refine (op_reader_num.calls g s2 w0 _ (HR5.out.keep (Below.heap_alloc w5 _ g hg3)) (HB5.out.alloc HB5.out.size _)).mono ?_
    rintro e w6 ⟨rfl, hR, hK, hB⟩
    have HR6 := Aside0.mk hR
    have HB6 := Aside0.mk hB
    have BX6 := Aside0.mk (KeepBut.blk hK BX.out hxg (by simp))
    clear hR hK hB HR5 HB5 BX
    have hn := rnum_range s2
    obtain ⟨n, en⟩ : ∃ c, (rnum s2).1 = c := ⟨_, rfl⟩
    obtain ⟨s3, es3⟩ : ∃ c, (rnum s2).2 = c := ⟨_, rfl⟩
    rw [en] at HL hn ⊢
    rw [es3] at HR6 HL
    clear en es3
    obtain ⟨hn0, hn1⟩ := hn
    have hbx : w0.heap.size ≤ w5.heap.size := by omega
    obtain ⟨bx, ebx⟩ : ∃ b, w5.heap.size = b := ⟨_, rfl⟩
    rw [ebx] at BX6 hxg hbx ⊢
    clear ebx hg3
    go_wp2_with (fail)
    go_loopw [29] (fun v wr => ∃ (i : Int) (k' : Nat) (s : List S62 × Bool) (acc : List S59) (vo : Value), v = .int .i64 i ∧ 0 ≤ i ∧ Aside0 (op_DecodeReply.l0 k' n i s acc = some (rs, s9)) ∧ Aside0 (Rd w0 wr g s.1 s.2) ∧ Aside0 (Below w0.heap.size w0 wr) ∧ Aside0 (wr.heap[bx]? = some (.cells #[.int .i64 cl, .int .i64 sq, vo, .int .i64 at_, .int .i64 ec] 38 (0, 0))) ∧ Aside0 (Kd.S k59 59 wr w0.heap.size (fun _ => True) vo acc)) (fun v _ => (n - intOf v).toNat)
    case atStart => exact ⟨0, k, s3, [], .slice none 0 0, rfl, by omega, HL, HR6, HB6, BX6, Aside0.mk (Kd.S_nil _ _ _ _ _)⟩
    case round =>
      obtain ⟨i, k', s, acc, vo, rfl, hi, HI, HR0, HB0, BX0, OS0⟩ := hrel
      clear HL HR6 HB6 BX6
      obtain ⟨Ao, co, rfl⟩ := Kd.S_slice OS0.out
      cases k' with
      | zero => exact absurd HI.out (by simp [op_DecodeReply.l0])
      | succ k' =>
        have hI := HI.out
        unfold op_DecodeReply.l0 at hI
        by_cases hlt : i < n
        · rw [if_pos hlt] at hI
          obtain ⟨A9, c9, hgb, hg9, hc9, hC9⟩ := HR0.out
          have cg : wr.cell? ⟨g, 1, none⟩ = some (.bool s.2) := blk_cell hgb 1
          clear hgb hg9 hc9 hC9
          cases hok : s.2
          · rw [hok] at cg hI
            rw [if_neg (by decide)] at hI
            have HQ := Aside0.mk (Option.some.inj hI)
            clear hI hok
            injection HQ.out with eo es
            have HO := Aside0.mk eo
            have HS := Aside0.mk es
            have hbz : wr.heap[w.heap.size]? = some (.cells #[.int .i64 0, .int .i64 0, .slice none 0 0, .int .i64 0, .int .i64 0] 38 (0, 0)) := (HB0.out.block _ hw0).trans HZ.out
            have f0 := blk_frozen hbz 0
            have f1 := blk_frozen hbz 1
            have f2 := blk_frozen hbz 2
            have f3 := blk_frozen hbz 3
            have f4 := blk_frozen hbz 4
            have e0 : wr.cell? ⟨w.heap.size, 0, none⟩ = some (.int .i64 0) := blk_cell hbz 0
            have e1 : wr.cell? ⟨w.heap.size, 1, none⟩ = some (.int .i64 0) := blk_cell hbz 1
            have e2 : wr.cell? ⟨w.heap.size, 2, none⟩ = some (.slice none 0 0) := blk_cell hbz 2
            have e3 : wr.cell? ⟨w.heap.size, 3, none⟩ = some (.int .i64 0) := blk_cell hbz 3
            have e4 : wr.cell? ⟨w.heap.size, 4, none⟩ = some (.int .i64 0) := blk_cell hbz 4
            have x0 : wr.cell? ⟨bx, 0, none⟩ = some (.int .i64 cl) := blk_cell BX0.out 0
            have x1 : wr.cell? ⟨bx, 1, none⟩ = some (.int .i64 sq) := blk_cell BX0.out 1
            have x2 : wr.cell? ⟨bx, 2, none⟩ = some (.slice Ao acc.length co) := blk_cell BX0.out 2
            have x3 : wr.cell? ⟨bx, 3, none⟩ = some (.int .i64 at_) := blk_cell BX0.out 3
            have x4 : wr.cell? ⟨bx, 4, none⟩ = some (.int .i64 ec) := blk_cell BX0.out 4
            have HBZ := Aside0.mk hbz
            have HBW := Aside0.mk (Below.trans HW.out (HB0.out.mono HW.out.size))
            clear eo es hbz
            go_wp2_with (fail)
            refine (op_reader_whole.calls2 g s w0 wr HR0.out).mono ?_
            rintro e w' ⟨rfl, rfl⟩
            have hE := HE.out
            rw [← HO.out, ← HS.out] at hE
            cases hwh : rwhole s
            · rw [hwh, if_neg (by decide)] at hE
              injection hE with hE
              injection hE with h1 hE
              injection hE with h2 hE
              injection hE with h3 hE
              injection hE with h4 hE
              injection hE with h5 h6
              subst h1 h2 h3 h4 h5 h6
              clear hwh
              go_wp2_with (fail)
              have z := st5_blk HBZ.out (.int .i64 0) (.int .i64 0) (.slice none 0 0) (.int .i64 0) (.int .i64 0)
              have zB := st5_below HBW.out (Nat.le_refl _) (.int .i64 0) (.int .i64 0) (.slice none 0 0) (.int .i64 0) (.int .i64 0)
              generalize ((((wr.setCell ⟨w.heap.size, 0, none⟩ (.int .i64 0)).setCell ⟨w.heap.size, 1, none⟩ (.int .i64 0)).setCell ⟨w.heap.size, 2, none⟩ (.slice none 0 0)).setCell ⟨w.heap.size, 3, none⟩ (.int .i64 0)).setCell ⟨w.heap.size, 4, none⟩ (.int .i64 0) = wz at *
              have d0 : wz.cell? ⟨w.heap.size, 0, none⟩ = some (.int .i64 0) := blk_cell z 0
              have d1 : wz.cell? ⟨w.heap.size, 1, none⟩ = some (.int .i64 0) := blk_cell z 1
              have d2 : wz.cell? ⟨w.heap.size, 2, none⟩ = some (.slice none 0 0) := blk_cell z 2
              have d3 : wz.cell? ⟨w.heap.size, 3, none⟩ = some (.int .i64 0) := blk_cell z 3
              have d4 : wz.cell? ⟨w.heap.size, 4, none⟩ = some (.int .i64 0) := blk_cell z 4
              refine bodyPost_ret (v := .tuple #[.agg #[.int .i64 0, .int .i64 0, .slice none 0 0, .int .i64 0, .int .i64 0], .int .i64 80]) (by simp [results, Try.results33, go_sem, d0, d1, d2, d3, d4]) rfl ⟨_, rfl, Kd.S_nil _ _ _ _ _, zB⟩
            · rw [hwh, if_pos rfl] at hE
              have HC2 := Aside0.mk hE
              have hRd := Kd.S_reads' OS0.out
              have hle := hRd.2.1
              have HAC := Aside0.mk hRd.2.2
              clear hwh hE hRd
              go_wp2_with (fail)
              refine (op_reply.calls cl sq Ao co acc at_ ec _ wr HAC.out hle rfl).mono ?_
              rintro e w5 ⟨rfl, hB5⟩
              have hbz := (hB5.block _ (blk_lt HBZ.out)).trans HBZ.out
              have hbx5 := (hB5.block _ (blk_lt BX0.out)).trans BX0.out
              have HB5 := Aside0.mk (Below.trans HBW.out (hB5.mono HBW.out.size))
              have OS5 := Aside0.mk (Kd.S_below OS0.out hB5)
              clear hB5 f0 f1 f2 f3 f4 e0 e1 e2 e3 e4 x0 x1 x2 x3 x4
              have f0 := blk_frozen hbz 0
              have f1 := blk_frozen hbz 1
              have f2 := blk_frozen hbz 2
              have f3 := blk_frozen hbz 3
              have f4 := blk_frozen hbz 4
              have e0 : w5.cell? ⟨w.heap.size, 0, none⟩ = some (.int .i64 0) := blk_cell hbz 0
              have e1 : w5.cell? ⟨w.heap.size, 1, none⟩ = some (.int .i64 0) := blk_cell hbz 1
              have e2 : w5.cell? ⟨w.heap.size, 2, none⟩ = some (.slice none 0 0) := blk_cell hbz 2
              have e3 : w5.cell? ⟨w.heap.size, 3, none⟩ = some (.int .i64 0) := blk_cell hbz 3
              have e4 : w5.cell? ⟨w.heap.size, 4, none⟩ = some (.int .i64 0) := blk_cell hbz 4
              have x0 : w5.cell? ⟨bx, 0, none⟩ = some (.int .i64 cl) := blk_cell hbx5 0
              have x1 : w5.cell? ⟨bx, 1, none⟩ = some (.int .i64 sq) := blk_cell hbx5 1
              have x2 : w5.cell? ⟨bx, 2, none⟩ = some (.slice Ao acc.length co) := blk_cell hbx5 2
              have x3 : w5.cell? ⟨bx, 3, none⟩ = some (.int .i64 at_) := blk_cell hbx5 3
              have x4 : w5.cell? ⟨bx, 4, none⟩ = some (.int .i64 ec) := blk_cell hbx5 4
              have HBZ5 := Aside0.mk hbz
              clear hbz hbx5
              have hc2 := HC2.out
              cases hrp : repOk cl sq acc at_ ec
              · rw [hrp, if_neg (by decide)] at hc2
                clear hrp
                injection hc2 with hE
                injection hE with h1 hE
                injection hE with h2 hE
                injection hE with h3 hE
                injection hE with h4 hE
                injection hE with h5 h6
                subst h1 h2 h3 h4 h5 h6
                go_wp2_with (fail)
                have z := st5_blk HBZ5.out (.int .i64 0) (.int .i64 0) (.slice none 0 0) (.int .i64 0) (.int .i64 0)
                have zB := st5_below HB5.out (Nat.le_refl _) (.int .i64 0) (.int .i64 0) (.slice none 0 0) (.int .i64 0) (.int .i64 0)
                generalize ((((w5.setCell ⟨w.heap.size, 0, none⟩ (.int .i64 0)).setCell ⟨w.heap.size, 1, none⟩ (.int .i64 0)).setCell ⟨w.heap.size, 2, none⟩ (.slice none 0 0)).setCell ⟨w.heap.size, 3, none⟩ (.int .i64 0)).setCell ⟨w.heap.size, 4, none⟩ (.int .i64 0) = wz at *
                have d0 : wz.cell? ⟨w.heap.size, 0, none⟩ = some (.int .i64 0) := blk_cell z 0
                have d1 : wz.cell? ⟨w.heap.size, 1, none⟩ = some (.int .i64 0) := blk_cell z 1
                have d2 : wz.cell? ⟨w.heap.size, 2, none⟩ = some (.slice none 0 0) := blk_cell z 2
                have d3 : wz.cell? ⟨w.heap.size, 3, none⟩ = some (.int .i64 0) := blk_cell z 3
                have d4 : wz.cell? ⟨w.heap.size, 4, none⟩ = some (.int .i64 0) := blk_cell z 4
                refine bodyPost_ret (v := .tuple #[.agg #[.int .i64 0, .int .i64 0, .slice none 0 0, .int .i64 0, .int .i64 0], .int .i64 80]) (by simp [results, Try.results33, go_sem, d0, d1, d2, d3, d4]) rfl ⟨_, rfl, Kd.S_nil _ _ _ _ _, zB⟩
              · rw [hrp, if_pos rfl] at hc2
                clear hrp
                injection hc2 with hE
                injection hE with h1 hE
                injection hE with h2 hE
                injection hE with h3 hE
                injection hE with h4 hE
                injection hE with h5 h6
                subst h1 h2 h3 h4 h5 h6
                go_wp2_with (fail)
                have z := st5_blk HBZ5.out (.int .i64 cl) (.int .i64 sq) (.slice Ao acc.length co) (.int .i64 at_) (.int .i64 ec)
                have zB := st5_below HB5.out (Nat.le_refl _) (.int .i64 cl) (.int .i64 sq) (.slice Ao acc.length co) (.int .i64 at_) (.int .i64 ec)
                have zR := ress_st5 OS5.out HBZ5.out (.int .i64 cl) (.int .i64 sq) (.slice Ao acc.length co) (.int .i64 at_) (.int .i64 ec)
                generalize ((((w5.setCell ⟨w.heap.size, 0, none⟩ (.int .i64 cl)).setCell ⟨w.heap.size, 1, none⟩ (.int .i64 sq)).setCell ⟨w.heap.size, 2, none⟩ (.slice Ao acc.length co)).setCell ⟨w.heap.size, 3, none⟩ (.int .i64 at_)).setCell ⟨w.heap.size, 4, none⟩ (.int .i64 ec) = wz at *
                have d0 : wz.cell? ⟨w.heap.size, 0, none⟩ = some (.int .i64 cl) := blk_cell z 0
                have d1 : wz.cell? ⟨w.heap.size, 1, none⟩ = some (.int .i64 sq) := blk_cell z 1
                have d2 : wz.cell? ⟨w.heap.size, 2, none⟩ = some (.slice Ao acc.length co) := blk_cell z 2
                have d3 : wz.cell? ⟨w.heap.size, 3, none⟩ = some (.int .i64 at_) := blk_cell z 3
                have d4 : wz.cell? ⟨w.heap.size, 4, none⟩ = some (.int .i64 ec) := blk_cell z 4
                refine bodyPost_ret (v := .tuple #[.agg #[.int .i64 cl, .int .i64 sq, .slice Ao acc.length co, .int .i64 at_, .int .i64 ec], .int .i64 0]) (by simp [results, Try.results33, go_sem, d0, d1, d2, d3, d4]) rfl ⟨_, rfl, Kd.S_lower zR HW.out.size, zB⟩
          · rw [hok] at cg hI
            rw [if_pos rfl] at hI
            obtain ⟨⟨rws, s8⟩, hI1, hI2⟩ := Option.bind_eq_some_iff.1 hI
            dsimp only at hI2
            have hlm : acc.length < 2199023255552 := by
              by_cases hq : acc.length < 2199023255552
              · exact hq
              · rw [if_neg hq] at hI2; cases hI2
            rw [if_pos hlm] at hI2
            have HN := Aside0.mk hI2
            have HN1 := Aside0.mk hI1
            have LMo := Aside0.mk hlm
            clear hI hI1 hI2 hok hlm
            have hgB : g < wr.heap.size := HR0.out.lt
            have hxB : bx < wr.heap.size := blk_lt BX0.out
            have hBw : w0.heap.size ≤ wr.heap.size := HB0.out.size
            have OS1 := Aside0.mk (Kd.S_mono (ok' := fun k => k < wr.heap.size) (Kd.S_bound OS0.out) (fun k hk => hk.2.2.1))
            obtain ⟨B, eB⟩ : ∃ B, wr.heap.size = B := ⟨_, rfl⟩
            rw [eB] at OS1 hgB hxB hBw
            have HeB := Aside0.mk eB
            clear eB
            go_wp2_with (fail)
            refine (op_reader_num.calls g s w0 wr HR0.out HB0.out).mono ?_
            rintro e v2 ⟨rfl, hR, hK, hB⟩
            have HR2 := Aside0.mk hR
            have HB2 := Aside0.mk hB
            have BX2 := Aside0.mk (KeepBut.blk hK BX0.out hxg (by simp))
            have OS2 := Aside0.mk (ress_keep OS1.out (rd_blk HR0.out) hK)
            have hs2 : B ≤ v2.heap.size := HeB.out ▸ hK.1
            clear hR hK hB HR0 HB0 BX0 OS0 OS1 cg HI HeB
            go_wp2_with (fail)
            refine (op_reader_num.calls g (rnum s).2 w0 v2 HR2.out HB2.out).mono ?_
            rintro e v3 ⟨rfl, hR, hK, hB⟩
            have HR3 := Aside0.mk hR
            have HB3 := Aside0.mk hB
            have BX3 := Aside0.mk (KeepBut.blk hK BX2.out hxg (by simp))
            have OS3 := Aside0.mk (ress_keep OS2.out (rd_blk HR2.out) hK)
            have hs3 : B ≤ v3.heap.size := Nat.le_trans hs2 hK.1
            clear hR hK hB HR2 HB2 BX2 OS2
            go_wp2_with (fail)
            refine (op_reader_text.calls g (rnum (rnum s).2).2 w0 v3 HR3.out HB3.out).mono ?_
            rintro e v4 ⟨rfl, hR, hK, hB⟩
            have HR4 := Aside0.mk hR
            have HB4 := Aside0.mk hB
            have BX4 := Aside0.mk (KeepBut.blk hK BX3.out hxg (by simp))
            have OS4 := Aside0.mk (ress_keep OS3.out (rd_blk HR3.out) hK)
            have hs4 : B ≤ v4.heap.size := Nat.le_trans hs3 hK.1
            clear hR hK hB HR3 HB3 BX3 OS3
            obtain ⟨yc, eyc⟩ : ∃ c, (rnum s).1 = c := ⟨_, rfl⟩
            obtain ⟨ys, eys⟩ : ∃ c, (rnum (rnum s).2).1 = c := ⟨_, rfl⟩
            obtain ⟨yv, eyv⟩ : ∃ c, (rtxt (rnum (rnum s).2).2).1 = c := ⟨_, rfl⟩
            obtain ⟨s5, es5⟩ : ∃ c, (rtxt (rnum (rnum s).2).2).2 = c := ⟨_, rfl⟩
            rw [eyc, eys, eyv] at HN ⊢
            rw [es5] at HR4 HN1
            clear eyc eys eyv es5
            go_wp2_with (fail)
            have hy4 : g < v4.heap.size := HR4.out.lt
            have hyg : v4.heap.size ≠ g := by omega
            have BY := Aside0.mk (alloc_at (w := v4) (o := .cells #[.int .i64 yc, .int .i64 ys, .string yv, .slice none 0 0] 59) rfl)
            refine (op_reader_num.calls g s5 w0 _ (HR4.out.keep (Below.heap_alloc v4 _ g hy4)) (HB4.out.alloc HB4.out.size _)).mono ?_
            rintro e v5 ⟨rfl, hR, hK, hB⟩
            have HR5 := Aside0.mk hR
            have HB5 := Aside0.mk hB
            have BX5 := Aside0.mk (KeepBut.blk hK (blk_alloc BX4.out _) hxg (by simp))
            have BY5 := Aside0.mk (KeepBut.blk hK BY.out hyg (by simp))
            have OS5 := Aside0.mk (ress_keep (Kd.S_alloc OS4.out _) (rd_blk (HR4.out.keep (Below.heap_alloc v4 (.cells #[.int .i64 yc, .int .i64 ys, .string yv, .slice none 0 0] 59) g hy4))) hK)
            clear hR hK hB HR4 HB4 BX4 OS4 BY
            have hm := rnum_range s5
            obtain ⟨m, em⟩ : ∃ c, (rnum s5).1 = c := ⟨_, rfl⟩
            obtain ⟨s6, es6⟩ : ∃ c, (rnum s5).2 = c := ⟨_, rfl⟩
            rw [em] at HN1 hm ⊢
            rw [es6] at HR5 HN1
            clear em es6
            obtain ⟨hm0, hm1⟩ := hm
            obtain ⟨by_, eby⟩ : ∃ b, v4.heap.size = b := ⟨_, rfl⟩
            rw [eby] at BY5 hyg hs4 ⊢
            have hBy : B ≤ by_ := hs4
            clear eby hy4 hs2 hs3 hs4
            go_wp2_with (fail)
            obtain ⟨wo, rfl⟩ : ∃ wo : World, wo = wr := ⟨_, rfl⟩
            go_loopw [45] (fun v wr => ∃ (j : Int) (k2 : Nat) (s : List S62 × Bool) (rows : List S76) (vr : Value), v = .int .i64 j ∧ 0 ≤ j ∧ Aside0 (op_DecodeReply.l1 k2 m j s rows = some (rws, s8)) ∧ Aside0 (Rd w0 wr g s.1 s.2) ∧ Aside0 (Below w0.heap.size w0 wr) ∧ Aside0 (wr.heap[bx]? = some (.cells #[.int .i64 cl, .int .i64 sq, .slice Ao acc.length co, .int .i64 at_, .int .i64 ec] 38 (0, 0))) ∧ Aside0 (wr.heap[by_]? = some (.cells #[.int .i64 yc, .int .i64 ys, .string yv, vr] 59 (0, 0))) ∧ Aside0 (Kd.R k76 76 wr B (fun _ => True) vr rows) ∧ Aside0 (Kd.S k59 59 wr w0.heap.size (fun k => k < B) (.slice Ao acc.length co) acc)) (fun v _ => (m - intOf v).toNat)
            case atStart => exact ⟨0, k', s6, [], .slice none 0 0, rfl, by omega, HN1, HR5, HB5, BX5, BY5, Aside0.mk (Kd.R_nil _ _ _ _ _), OS5⟩
            case round =>
              obtain ⟨j, k2, s, rows, vr, rfl, hj, HI, HR0, HB0, BX0, BY0, OW0, OS0⟩ := hrel
              clear HN1 HR5 HB5 BX5 BY5 OS5
              obtain ⟨Ar, cr, rfl⟩ := Kd.R_slice OW0.out
              cases k2 with
              | zero => exact absurd HI.out (by simp [op_DecodeReply.l1])
              | succ k2 =>
                have hI := HI.out
                unfold op_DecodeReply.l1 at hI
                by_cases hltj : j < m
                · rw [if_pos hltj] at hI
                  obtain ⟨A9, c9, hgb, hg9, hc9, hC9⟩ := HR0.out
                  have cg : wr.cell? ⟨g, 1, none⟩ = some (.bool s.2) := blk_cell hgb 1
                  clear hgb hg9 hc9 hC9
                  cases hok : s.2
                  · rw [hok] at cg hI
                    rw [if_neg (by decide)] at hI
                    have HQ := Aside0.mk (Option.some.inj hI)
                    clear hI hok
                    injection HQ.out with er es
                    subst er es
                    have x0 : wr.cell? ⟨bx, 2, none⟩ = some (.slice Ao acc.length co) := blk_cell BX0.out 2
                    have y0 : wr.cell? ⟨by_, 0, none⟩ = some (.int .i64 yc) := blk_cell BY0.out 0
                    have y1 : wr.cell? ⟨by_, 1, none⟩ = some (.int .i64 ys) := blk_cell BY0.out 1
                    have y2 : wr.cell? ⟨by_, 2, none⟩ = some (.string yv) := blk_cell BY0.out 2
                    have y3 : wr.cell? ⟨by_, 3, none⟩ = some (.slice Ar rows.length cr) := blk_cell BY0.out 3
                    have HVo := (Kd.S_R OS0.out).1
                    have HVO := Aside0.mk HVo
                    clear HVo
                    go_wp2_with (((with_reducible refine gate_builtin (b := .append) (xs := #[.tmp 66, .tmp 68]) rfl ?_); at_builtin; refine Kd.S_append k59 (w0 := w0) w0.heap.size rfl (.tmp 66) (.tmp 68) 34 59 (.agg #[(.int .i64 0), (.int .i64 0), (.string ⟨#[]⟩), (.slice none 0 0)]) 56 rfl Try.underlying34 info59 rfl (by decide) (by omega) (.slice Ao acc.length co) acc (⟨yc, ys, yv, rows⟩ : S59) [.int .i64 yc, .int .i64 ys, .string yv, .slice Ar rows.length cr] (fun _ => True) (fun k => B ≤ k) rfl rfl ?aP ?aK (fun _ _ => trivial) ?aO ?aB ?aS ?aL ?_; (case aP => exact k59_mkM _ _ _ (⟨yc, ys, yv, rows⟩ : S59) (Kd.R_lower (Kd.R_mono (Kd.R_bound OW0.out) (fun k hk => hk.2.1)) hBw)); (case aK => exact fun k hk => ⟨trivial, fun he => by have := HVO.out k he.symm; omega⟩); (case aO => exact Kd.S_mono OS0.out (fun k hk => ⟨trivial, fun h => by omega⟩)); (case aB => exact HB0.out); (case aS => exact HB0.out.size); (case aL => have := LMo.out; omega); intro v1 w8 ho hb hg hat; obtain ⟨Ap, np, cp, ep⟩ := R_form3 (Kd.S_R ho); subst ep; have BX8 := Aside0.mk (blk_grown BX0.out hg (Kd.S_ne OS0.out BX0.out (by decide))); have HR8 := Aside0.mk (rd_grownG HR0.out (Kd.S_R OS0.out) (by decide) hg); have HB8 := Aside0.mk hb; have OS8 := Aside0.mk ho; have sX8 := blk_cell BX8.out 2; have fX8 := blk_frozen BX8.out 2; clear ho hb hg hat x0 y0 y1 y2 y3))
                    have hxg2 : g ≠ bx := Ne.symm hxg
                    have BX9 := Aside0.mk (blk_put BX8.out 2 (.slice Ap np cp) (cs' := #[.int .i64 cl, .int .i64 sq, .slice Ap np cp, .int .i64 at_, .int .i64 ec]) (by simp))
                    have HR9 := Aside0.mk (HR8.out.keep (Below.heap_setCell w8 ⟨bx, 2, none⟩ (.slice Ap np cp) g hxg2))
                    have HB9 := Aside0.mk (HB8.out.setCell (p := ⟨bx, 2, none⟩) hbx (.slice Ap np cp))
                    have OS9 := Aside0.mk (Kd.S_set OS8.out BX8.out (fun q hq => by rcases ress_E q hq with rfl | rfl <;> decide) 2 (.slice Ap np cp))
                    go_roundw
                    case rel => exact ⟨i + 1, k', s, acc ++ [⟨yc, ys, yv, rows⟩], .slice Ap np cp, by go_num, by omega, HN, HR9, HB9, BX9, OS9⟩
                    case measure => simp [intOf]; omega
                  · rw [hok] at cg hI
                    rw [if_pos rfl] at hI
                    have hlm : rows.length < 2199023255552 := by
                      by_cases hq : rows.length < 2199023255552
                      · exact hq
                      · rw [if_neg hq] at hI; cases hI
                    rw [if_pos hlm] at hI
                    have HNj := Aside0.mk hI
                    have LM := Aside0.mk hlm
                    clear hI hok hlm
                    go_wp2_with (fail)
                    have n0 := Aside0.mk (HR0.out.keep (w1 := wr.drew) rfl)
                    have n1 := Aside0.mk (below_drew1 HB0.out)
                    have n2 := Aside0.mk (blk_drew BX0.out)
                    have n3 := Aside0.mk (Kd.R_drew OW0.out)
                    have n4 := Aside0.mk (blk_drew BY0.out)
                    have n5 := Aside0.mk (Kd.S_drew OS0.out)
                    clear HR0 HB0 BX0 OW0 BY0 OS0 cg HI
                    have HR0 := n0
                    have HB0 := n1
                    have BX0 := n2
                    have OW0 := n3
                    have BY0 := n4
                    have OS0 := n5
                    clear n0 n1 n2 n3 n4 n5
                    have sX0 := blk_cell BY0.out 3
                    refine start_ (n := 13) (S := fun w' => w'.cell? ⟨by_, 3, none⟩ = some (.slice Ar rows.length cr)) (ds := [12]) #[false, false, false, false, false, false, false, false, false, false, false, false, false] (by kernel_rfl) rfl rfl (sX0) (fun hHeld => ?_)
                    generalize wr.drew = wB at *
                    refine pure_ (i := 0) (N := some 52) (v := ?_) (a' := ?_) #[true, false, false, false, false, false, false, false, false, false, false, false, false] rfl rfl (by kernel_rfl) (fun _ _ _ h => h) (Or.inl ⟨by rfl, ?_⟩) ?_ ?_
                    rotate_left
                    · intro w'
                      go_simp
                      with_reducible rfl
                    rotate_left
                    · simp only [Act.put, List.setIfInBounds_toArray, List.set_cons_zero, List.set_cons_succ, i64_w, i32_w]
                      rfl
                    refine pure_ (i := 2) (N := some 54) (v := ?_) (a' := ?_) #[true, false, true, false, false, false, false, false, false, false, false, false, false] rfl rfl (by kernel_rfl) (fun _ _ _ h => h) (Or.inl ⟨by rfl, ?_⟩) ?_ ?_
                    rotate_left
                    · intro w'
                      go_simp
                      with_reducible rfl
                    rotate_left
                    · simp only [Act.put, List.setIfInBounds_toArray, List.set_cons_zero, List.set_cons_succ, i64_w, i32_w]
                      rfl
                    refine pure_ (i := 4) (N := some 56) (v := ?_) (a' := ?_) #[true, false, true, false, true, false, false, false, false, false, false, false, false] rfl rfl (by kernel_rfl) (fun _ _ _ h => h) (Or.inl ⟨by rfl, ?_⟩) ?_ ?_
                    rotate_left
                    · intro w'
                      go_simp
                      with_reducible rfl
                    rotate_left
                    · simp only [Act.put, List.setIfInBounds_toArray, List.set_cons_zero, List.set_cons_succ, i64_w, i32_w]
                      rfl
                    refine pure_ (i := 6) (N := some 58) (v := ?_) (a' := ?_) #[true, false, true, false, true, false, true, false, false, false, false, false, false] rfl rfl (by kernel_rfl) (fun _ _ _ h => h) (Or.inl ⟨by rfl, ?_⟩) ?_ ?_
                    rotate_left
                    · intro w'
                      go_simp
                      with_reducible rfl
                    rotate_left
                    · simp only [Act.put, List.setIfInBounds_toArray, List.set_cons_zero, List.set_cons_succ, i64_w, i32_w]
                      rfl
                    refine take_ (i := 1) (N := some 53) (v := ?_) (a' := ?_) #[true, true, true, false, true, false, true, false, false, false, false, false, false] rfl rfl (by kernel_rfl) (fun _ _ _ h => h) (Or.inl ⟨by rfl, ?_⟩) hHeld ?_ ?_
                    rotate_left
                    · intro w' s0
                      go_simp
                      with_reducible rfl
                    rotate_left
                    · simp only [Act.put, List.setIfInBounds_toArray, List.set_cons_zero, List.set_cons_succ, i64_w, i32_w]
                      rfl
                    refine one_ (i := 3) (N := some 55) #[true, true, true, true, true, false, true, false, false, false, false, false, false] rfl rfl (by kernel_rfl) (by decide) (fun K hK => ?_)
                    refine goes_ Try.func45 (by kernel_rfl) rfl #[.pointer (some ⟨g, 0, none⟩)] (by rfl) rfl rfl (by simp only [List.map_toArray, List.map_cons, List.map_nil]; rfl) ?_
                    with_reducible refine (op_reader_text.calls g s w0 _ HR0.out HB0.out).mono ?_
                    rintro e wq1 ⟨rfl, hR, hK, hB⟩
                    refine ⟨_, rfl, ?_⟩
                    have HR1 := Aside0.mk hR
                    have HB1 := Aside0.mk hB
                    have BX1 := Aside0.mk (KeepBut.blk hK BX0.out hxg (by simp))
                    have BY1 := Aside0.mk (KeepBut.blk hK BY0.out hyg (by simp))
                    have OW1 := Aside0.mk (rows_keep OW0.out (rd_blk HR0.out) hK)
                    have OS1 := Aside0.mk (ress_keep OS0.out (rd_blk HR0.out) hK)
                    have sX1 := blk_cell BY1.out 3
                    clear hR hK hB HR0 HB0 BX0 BY0 OW0 OS0
                    refine hK.out _ _ (sX1) (fun hHeld => ?_)
                    clear hK K
                    refine norm_ (a' := ?_) ?_ ?_
                    rotate_left
                    · show Act.put _ (some 55) _ = _
                      simp only [Act.put, List.setIfInBounds_toArray, List.set_cons_zero, List.set_cons_succ, i64_w, i32_w]
                      rfl
                    refine one_ (i := 5) (N := some 57) #[true, true, true, true, true, true, true, false, false, false, false, false, false] rfl rfl (by kernel_rfl) (by decide) (fun K hK => ?_)
                    refine goes_ Try.func44 (by kernel_rfl) rfl #[.pointer (some ⟨g, 0, none⟩)] (by rfl) rfl rfl (by simp only [List.map_toArray, List.map_cons, List.map_nil]; rfl) ?_
                    with_reducible refine (op_reader_num.calls g (rtxt s).2 w0 _ HR1.out HB1.out).mono ?_
                    rintro e wq2 ⟨rfl, hR, hK, hB⟩
                    refine ⟨_, rfl, ?_⟩
                    have HR2 := Aside0.mk hR
                    have HB2 := Aside0.mk hB
                    have BX2 := Aside0.mk (KeepBut.blk hK BX1.out hxg (by simp))
                    have BY2 := Aside0.mk (KeepBut.blk hK BY1.out hyg (by simp))
                    have OW2 := Aside0.mk (rows_keep OW1.out (rd_blk HR1.out) hK)
                    have OS2 := Aside0.mk (ress_keep OS1.out (rd_blk HR1.out) hK)
                    have sX2 := blk_cell BY2.out 3
                    clear hR hK hB HR1 HB1 BX1 BY1 OW1 OS1
                    refine hK.out _ _ (sX2) (fun hHeld => ?_)
                    clear hK K
                    refine norm_ (a' := ?_) ?_ ?_
                    rotate_left
                    · show Act.put _ (some 57) _ = _
                      simp only [Act.put, List.setIfInBounds_toArray, List.set_cons_zero, List.set_cons_succ, i64_w, i32_w]
                      rfl
                    refine one_ (i := 7) (N := some 59) #[true, true, true, true, true, true, true, true, false, false, false, false, false] rfl rfl (by kernel_rfl) (by decide) (fun K hK => ?_)
                    refine goes_ Try.func45 (by kernel_rfl) rfl #[.pointer (some ⟨g, 0, none⟩)] (by rfl) rfl rfl (by simp only [List.map_toArray, List.map_cons, List.map_nil]; rfl) ?_
                    with_reducible refine (op_reader_text.calls g (rnum (rtxt s).2).2 w0 _ HR2.out HB2.out).mono ?_
                    rintro e wq3 ⟨rfl, hR, hK, hB⟩
                    refine ⟨_, rfl, ?_⟩
                    have HR3 := Aside0.mk hR
                    have HB3 := Aside0.mk hB
                    have BX3 := Aside0.mk (KeepBut.blk hK BX2.out hxg (by simp))
                    have BY3 := Aside0.mk (KeepBut.blk hK BY2.out hyg (by simp))
                    have OW3 := Aside0.mk (rows_keep OW2.out (rd_blk HR2.out) hK)
                    have OS3 := Aside0.mk (ress_keep OS2.out (rd_blk HR2.out) hK)
                    have sX3 := blk_cell BY3.out 3
                    clear hR hK hB HR2 HB2 BX2 BY2 OW2 OS2
                    refine hK.out _ _ (sX3) (fun hHeld => ?_)
                    clear hK K
                    refine norm_ (a' := ?_) ?_ ?_
                    rotate_left
                    · show Act.put _ (some 59) _ = _
                      simp only [Act.put, List.setIfInBounds_toArray, List.set_cons_zero, List.set_cons_succ, i64_w, i32_w]
                      rfl
                    refine pure_ (i := 8) (N := some 60) (v := ?_) (a' := ?_) #[true, true, true, true, true, true, true, true, true, false, false, false, false] rfl rfl (by kernel_rfl) (fun _ _ _ h => h) (Or.inl ⟨by rfl, ?_⟩) ?_ ?_
                    rotate_left
                    · intro w'
                      go_simp
                      with_reducible rfl
                    rotate_left
                    · simp only [Act.put, List.setIfInBounds_toArray, List.set_cons_zero, List.set_cons_succ, i64_w, i32_w]
                      rfl
                    refine one_ (i := 9) (N := some 61) #[true, true, true, true, true, true, true, true, true, true, false, false, false] rfl rfl (by kernel_rfl) (by decide) (fun K hK => ?_)
                    refine value_ (w1 := ?_) (v := ?_) (by rfl) rfl ?_ ?_
                    rotate_left 2
                    · go_simp
                      constructor
                      · rfl
                      · rfl
                    have BY4 := Aside0.mk (blk_alloc BY3.out (.cells #[.string (rrow s).1.f0, .int .i64 (rrow s).1.f1, .string (rrow s).1.f2] 76))
                    have sX4 := blk_cell BY4.out 3
                    refine hK.out _ _ (sX4) (fun hHeld => ?_)
                    clear hK K
                    refine norm_ (a' := ?_) ?_ ?_
                    rotate_left
                    · show Act.put _ (some 61) _ = _
                      simp only [Act.put, List.setIfInBounds_toArray, List.set_cons_zero, List.set_cons_succ, i64_w, i32_w]
                      rfl
                    refine one_ (i := 10) (N := some 62) #[true, true, true, true, true, true, true, true, true, true, true, false, false] rfl rfl (by kernel_rfl) (by decide) (fun K hK => ?_)
                    refine Kd.R_append_step k76 (w0 := wq3) B (by rfl) (.tmp 53) (.tmp 61) 57 76 (.agg #[(.string ⟨#[]⟩), (.int .i64 0), (.string ⟨#[]⟩)]) 40 rfl Try.underlying57 row_info rfl (by decide) (by omega) (.slice Ar rows.length cr) rows (rrow s).1 [.string (rrow s).1.f0, .int .i64 (rrow s).1.f1, .string (rrow s).1.f2] (fun _ => True) (fun _ => False) rfl rfl ?aP (fun _ hk => hk.elim) (fun _ _ => trivial) ?aO ?aB ?aS ?aL ?_
                    (case aP => exact k76_mkM _ _ _ (rrow s).1)
                    (case aO => exact OW3.out)
                    (case aB => exact Below.refl _ _)
                    (case aS => exact Nat.le_of_lt (Nat.lt_of_le_of_lt hBy (blk_lt BY3.out)))
                    (case aL => have := LM.out; omega)
                    intro v1 w8 ho hb hg hat
                    obtain ⟨Ap, np, cp, ep⟩ := R_form3 ho
                    subst ep
                    have hrow := Kd.R_base OW3.out
                    have BY8 := Aside0.mk (blk_grown BY3.out hg (Kd.R_ne OW3.out BY3.out (by decide)))
                    have BX8 := Aside0.mk (blk_grown BX3.out hg (Kd.R_ne OW3.out BX3.out (by decide)))
                    have HR8 := Aside0.mk (rd_grownG HR3.out OW3.out (by decide) hg)
                    have HB8 := Aside0.mk (HB3.out.grown hg HB3.out.size (fun k hk => Nat.le_trans hBw (hrow k hk)))
                    have OS8 := Aside0.mk (Kd.S_grown OS3.out hg (fun k hk he => by have := hrow k he.symm; omega))
                    have OW8 := Aside0.mk ho
                    have sX8 := blk_cell BY8.out 3
                    have fX8 := blk_frozen BY8.out 3
                    clear ho hb hg hat hrow
                    refine hK.out _ _ (sX8) (fun hHeld => ?_)
                    clear hK K
                    refine norm_ (a' := ?_) ?_ ?_
                    rotate_left
                    · show Act.put _ (some 62) _ = _
                      simp only [Act.put, List.setIfInBounds_toArray, List.set_cons_zero, List.set_cons_succ, i64_w, i32_w]
                      rfl
                    refine pure_ (i := 11) (N := some 63) (v := ?_) (a' := ?_) #[true, true, true, true, true, true, true, true, true, true, true, true, false] rfl rfl (by kernel_rfl) (fun _ _ _ h => h) (Or.inl ⟨by rfl, ?_⟩) ?_ ?_
                    rotate_left
                    · intro w'
                      go_simp
                      with_reducible rfl
                    rotate_left
                    · simp only [Act.put, List.setIfInBounds_toArray, List.set_cons_zero, List.set_cons_succ, i64_w, i32_w]
                      rfl
                    refine last_ (i := 12) (N := none) #[true, true, true, true, true, true, true, true, true, true, true, true, true] rfl rfl (by kernel_rfl) (by decide) (fun K hK => ?_)
                    refine skip_ (w1 := ?_) (by rfl) rfl ?_ ?_
                    rotate_left
                    · go_simp
                      rfl
                    refine hK.out _ _ ?_
                    clear hK K
                    refine done_ (by kernel_rfl) ?_
                    go_wp2_with (fail)
                    have hyg2 : g ≠ by_ := Ne.symm hyg
                    have hxy : bx ≠ by_ := by omega
                    have BY9 := Aside0.mk (blk_put BY8.out 3 (.slice Ap np cp) (cs' := #[.int .i64 yc, .int .i64 ys, .string yv, .slice Ap np cp]) (by simp))
                    have BX9 := Aside0.mk (blk_far BX8.out (p := ⟨by_, 3, none⟩) hxy (.slice Ap np cp))
                    have HR9 := Aside0.mk (HR8.out.keep (Below.heap_setCell w8 ⟨by_, 3, none⟩ (.slice Ap np cp) g hyg2))
                    have HB9 := Aside0.mk (HB8.out.setCell (p := ⟨by_, 3, none⟩) (Nat.le_trans hBw hBy) (.slice Ap np cp))
                    have OW9 := Aside0.mk (Kd.R_set OW8.out BY8.out (fun q hq => by rw [rows_E q hq]; decide) 3 (.slice Ap np cp))
                    have OS9 := Aside0.mk (Kd.S_far OS8.out (p := ⟨by_, 3, none⟩) (fun k hk => by show k ≠ by_; omega) (.slice Ap np cp))
                    go_roundw
                    case rel => exact ⟨j + 1, k2, (rrow s).2, rows ++ [(rrow s).1], .slice Ap np cp, by go_num, by omega, HNj, HR9, HB9, BX9, BY9, OW9, OS9⟩
                    case measure => simp [intOf]; omega
                · rw [if_neg hltj] at hI
                  have HQ := Aside0.mk (Option.some.inj hI)
                  have q9 : decide (j < m) = false := decide_eq_false hltj
                  clear hI
                  injection HQ.out with er es
                  subst er es
                  have x0 : wr.cell? ⟨bx, 2, none⟩ = some (.slice Ao acc.length co) := blk_cell BX0.out 2
                  have y0 : wr.cell? ⟨by_, 0, none⟩ = some (.int .i64 yc) := blk_cell BY0.out 0
                  have y1 : wr.cell? ⟨by_, 1, none⟩ = some (.int .i64 ys) := blk_cell BY0.out 1
                  have y2 : wr.cell? ⟨by_, 2, none⟩ = some (.string yv) := blk_cell BY0.out 2
                  have y3 : wr.cell? ⟨by_, 3, none⟩ = some (.slice Ar rows.length cr) := blk_cell BY0.out 3
                  have HVo := (Kd.S_R OS0.out).1
                  have HVO := Aside0.mk HVo
                  clear HVo
                  go_wp2_with (((with_reducible refine gate_builtin (b := .append) (xs := #[.tmp 66, .tmp 68]) rfl ?_); at_builtin; refine Kd.S_append k59 (w0 := w0) w0.heap.size rfl (.tmp 66) (.tmp 68) 34 59 (.agg #[(.int .i64 0), (.int .i64 0), (.string ⟨#[]⟩), (.slice none 0 0)]) 56 rfl Try.underlying34 info59 rfl (by decide) (by omega) (.slice Ao acc.length co) acc (⟨yc, ys, yv, rows⟩ : S59) [.int .i64 yc, .int .i64 ys, .string yv, .slice Ar rows.length cr] (fun _ => True) (fun k => B ≤ k) rfl rfl ?aP ?aK (fun _ _ => trivial) ?aO ?aB ?aS ?aL ?_; (case aP => exact k59_mkM _ _ _ (⟨yc, ys, yv, rows⟩ : S59) (Kd.R_lower (Kd.R_mono (Kd.R_bound OW0.out) (fun k hk => hk.2.1)) hBw)); (case aK => exact fun k hk => ⟨trivial, fun he => by have := HVO.out k he.symm; omega⟩); (case aO => exact Kd.S_mono OS0.out (fun k hk => ⟨trivial, fun h => by omega⟩)); (case aB => exact HB0.out); (case aS => exact HB0.out.size); (case aL => have := LMo.out; omega); intro v1 w8 ho hb hg hat; obtain ⟨Ap, np, cp, ep⟩ := R_form3 (Kd.S_R ho); subst ep; have BX8 := Aside0.mk (blk_grown BX0.out hg (Kd.S_ne OS0.out BX0.out (by decide))); have HR8 := Aside0.mk (rd_grownG HR0.out (Kd.S_R OS0.out) (by decide) hg); have HB8 := Aside0.mk hb; have OS8 := Aside0.mk ho; have sX8 := blk_cell BX8.out 2; have fX8 := blk_frozen BX8.out 2; clear ho hb hg hat x0 y0 y1 y2 y3))
                  have hxg2 : g ≠ bx := Ne.symm hxg
                  have BX9 := Aside0.mk (blk_put BX8.out 2 (.slice Ap np cp) (cs' := #[.int .i64 cl, .int .i64 sq, .slice Ap np cp, .int .i64 at_, .int .i64 ec]) (by simp))
                  have HR9 := Aside0.mk (HR8.out.keep (Below.heap_setCell w8 ⟨bx, 2, none⟩ (.slice Ap np cp) g hxg2))
                  have HB9 := Aside0.mk (HB8.out.setCell (p := ⟨bx, 2, none⟩) hbx (.slice Ap np cp))
                  have OS9 := Aside0.mk (Kd.S_set OS8.out BX8.out (fun q hq => by rcases ress_E q hq with rfl | rfl <;> decide) 2 (.slice Ap np cp))
                  go_roundw
                  case rel => exact ⟨i + 1, k', s, acc ++ [⟨yc, ys, yv, rows⟩], .slice Ap np cp, by go_num, by omega, HN, HR9, HB9, BX9, OS9⟩
                  case measure => simp [intOf]; omega
        · rw [if_neg hlt] at hI
          have HQ := Aside0.mk (Option.some.inj hI)
          have q9 : decide (i < n) = false := decide_eq_false hlt
          clear hI
          injection HQ.out with eo es
          have HO := Aside0.mk eo
          have HS := Aside0.mk es
          have hbz : wr.heap[w.heap.size]? = some (.cells #[.int .i64 0, .int .i64 0, .slice none 0 0, .int .i64 0, .int .i64 0] 38 (0, 0)) := (HB0.out.block _ hw0).trans HZ.out
          have f0 := blk_frozen hbz 0
          have f1 := blk_frozen hbz 1
          have f2 := blk_frozen hbz 2
          have f3 := blk_frozen hbz 3
          have f4 := blk_frozen hbz 4
          have e0 : wr.cell? ⟨w.heap.size, 0, none⟩ = some (.int .i64 0) := blk_cell hbz 0
          have e1 : wr.cell? ⟨w.heap.size, 1, none⟩ = some (.int .i64 0) := blk_cell hbz 1
          have e2 : wr.cell? ⟨w.heap.size, 2, none⟩ = some (.slice none 0 0) := blk_cell hbz 2
          have e3 : wr.cell? ⟨w.heap.size, 3, none⟩ = some (.int .i64 0) := blk_cell hbz 3
          have e4 : wr.cell? ⟨w.heap.size, 4, none⟩ = some (.int .i64 0) := blk_cell hbz 4
          have x0 : wr.cell? ⟨bx, 0, none⟩ = some (.int .i64 cl) := blk_cell BX0.out 0
          have x1 : wr.cell? ⟨bx, 1, none⟩ = some (.int .i64 sq) := blk_cell BX0.out 1
          have x2 : wr.cell? ⟨bx, 2, none⟩ = some (.slice Ao acc.length co) := blk_cell BX0.out 2
          have x3 : wr.cell? ⟨bx, 3, none⟩ = some (.int .i64 at_) := blk_cell BX0.out 3
          have x4 : wr.cell? ⟨bx, 4, none⟩ = some (.int .i64 ec) := blk_cell BX0.out 4
          have HBZ := Aside0.mk hbz
          have HBW := Aside0.mk (Below.trans HW.out (HB0.out.mono HW.out.size))
          clear eo es hbz
          go_wp2_with (fail)
          refine (op_reader_whole.calls2 g s w0 wr HR0.out).mono ?_
          rintro e w' ⟨rfl, rfl⟩
          have hE := HE.out
          rw [← HO.out, ← HS.out] at hE
          cases hwh : rwhole s
          · rw [hwh, if_neg (by decide)] at hE
            injection hE with hE
            injection hE with h1 hE
            injection hE with h2 hE
            injection hE with h3 hE
            injection hE with h4 hE
            injection hE with h5 h6
            subst h1 h2 h3 h4 h5 h6
            clear hwh
            go_wp2_with (fail)
            have z := st5_blk HBZ.out (.int .i64 0) (.int .i64 0) (.slice none 0 0) (.int .i64 0) (.int .i64 0)
            have zB := st5_below HBW.out (Nat.le_refl _) (.int .i64 0) (.int .i64 0) (.slice none 0 0) (.int .i64 0) (.int .i64 0)
            generalize ((((wr.setCell ⟨w.heap.size, 0, none⟩ (.int .i64 0)).setCell ⟨w.heap.size, 1, none⟩ (.int .i64 0)).setCell ⟨w.heap.size, 2, none⟩ (.slice none 0 0)).setCell ⟨w.heap.size, 3, none⟩ (.int .i64 0)).setCell ⟨w.heap.size, 4, none⟩ (.int .i64 0) = wz at *
            have d0 : wz.cell? ⟨w.heap.size, 0, none⟩ = some (.int .i64 0) := blk_cell z 0
            have d1 : wz.cell? ⟨w.heap.size, 1, none⟩ = some (.int .i64 0) := blk_cell z 1
            have d2 : wz.cell? ⟨w.heap.size, 2, none⟩ = some (.slice none 0 0) := blk_cell z 2
            have d3 : wz.cell? ⟨w.heap.size, 3, none⟩ = some (.int .i64 0) := blk_cell z 3
            have d4 : wz.cell? ⟨w.heap.size, 4, none⟩ = some (.int .i64 0) := blk_cell z 4
            refine bodyPost_ret (v := .tuple #[.agg #[.int .i64 0, .int .i64 0, .slice none 0 0, .int .i64 0, .int .i64 0], .int .i64 80]) (by simp [results, Try.results33, go_sem, d0, d1, d2, d3, d4]) rfl ⟨_, rfl, Kd.S_nil _ _ _ _ _, zB⟩
          · rw [hwh, if_pos rfl] at hE
            have HC2 := Aside0.mk hE
            have hRd := Kd.S_reads' OS0.out
            have hle := hRd.2.1
            have HAC := Aside0.mk hRd.2.2
            clear hwh hE hRd
            go_wp2_with (fail)
            refine (op_reply.calls cl sq Ao co acc at_ ec _ wr HAC.out hle rfl).mono ?_
            rintro e w5 ⟨rfl, hB5⟩
            have hbz := (hB5.block _ (blk_lt HBZ.out)).trans HBZ.out
            have hbx5 := (hB5.block _ (blk_lt BX0.out)).trans BX0.out
            have HB5 := Aside0.mk (Below.trans HBW.out (hB5.mono HBW.out.size))
            have OS5 := Aside0.mk (Kd.S_below OS0.out hB5)
            clear hB5 f0 f1 f2 f3 f4 e0 e1 e2 e3 e4 x0 x1 x2 x3 x4
            have f0 := blk_frozen hbz 0
            have f1 := blk_frozen hbz 1
            have f2 := blk_frozen hbz 2
            have f3 := blk_frozen hbz 3
            have f4 := blk_frozen hbz 4
            have e0 : w5.cell? ⟨w.heap.size, 0, none⟩ = some (.int .i64 0) := blk_cell hbz 0
            have e1 : w5.cell? ⟨w.heap.size, 1, none⟩ = some (.int .i64 0) := blk_cell hbz 1
            have e2 : w5.cell? ⟨w.heap.size, 2, none⟩ = some (.slice none 0 0) := blk_cell hbz 2
            have e3 : w5.cell? ⟨w.heap.size, 3, none⟩ = some (.int .i64 0) := blk_cell hbz 3
            have e4 : w5.cell? ⟨w.heap.size, 4, none⟩ = some (.int .i64 0) := blk_cell hbz 4
            have x0 : w5.cell? ⟨bx, 0, none⟩ = some (.int .i64 cl) := blk_cell hbx5 0
            have x1 : w5.cell? ⟨bx, 1, none⟩ = some (.int .i64 sq) := blk_cell hbx5 1
            have x2 : w5.cell? ⟨bx, 2, none⟩ = some (.slice Ao acc.length co) := blk_cell hbx5 2
            have x3 : w5.cell? ⟨bx, 3, none⟩ = some (.int .i64 at_) := blk_cell hbx5 3
            have x4 : w5.cell? ⟨bx, 4, none⟩ = some (.int .i64 ec) := blk_cell hbx5 4
            have HBZ5 := Aside0.mk hbz
            clear hbz hbx5
            have hc2 := HC2.out
            cases hrp : repOk cl sq acc at_ ec
            · rw [hrp, if_neg (by decide)] at hc2
              clear hrp
              injection hc2 with hE
              injection hE with h1 hE
              injection hE with h2 hE
              injection hE with h3 hE
              injection hE with h4 hE
              injection hE with h5 h6
              subst h1 h2 h3 h4 h5 h6
              go_wp2_with (fail)
              have z := st5_blk HBZ5.out (.int .i64 0) (.int .i64 0) (.slice none 0 0) (.int .i64 0) (.int .i64 0)
              have zB := st5_below HB5.out (Nat.le_refl _) (.int .i64 0) (.int .i64 0) (.slice none 0 0) (.int .i64 0) (.int .i64 0)
              generalize ((((w5.setCell ⟨w.heap.size, 0, none⟩ (.int .i64 0)).setCell ⟨w.heap.size, 1, none⟩ (.int .i64 0)).setCell ⟨w.heap.size, 2, none⟩ (.slice none 0 0)).setCell ⟨w.heap.size, 3, none⟩ (.int .i64 0)).setCell ⟨w.heap.size, 4, none⟩ (.int .i64 0) = wz at *
              have d0 : wz.cell? ⟨w.heap.size, 0, none⟩ = some (.int .i64 0) := blk_cell z 0
              have d1 : wz.cell? ⟨w.heap.size, 1, none⟩ = some (.int .i64 0) := blk_cell z 1
              have d2 : wz.cell? ⟨w.heap.size, 2, none⟩ = some (.slice none 0 0) := blk_cell z 2
              have d3 : wz.cell? ⟨w.heap.size, 3, none⟩ = some (.int .i64 0) := blk_cell z 3
              have d4 : wz.cell? ⟨w.heap.size, 4, none⟩ = some (.int .i64 0) := blk_cell z 4
              refine bodyPost_ret (v := .tuple #[.agg #[.int .i64 0, .int .i64 0, .slice none 0 0, .int .i64 0, .int .i64 0], .int .i64 80]) (by simp [results, Try.results33, go_sem, d0, d1, d2, d3, d4]) rfl ⟨_, rfl, Kd.S_nil _ _ _ _ _, zB⟩
            · rw [hrp, if_pos rfl] at hc2
              clear hrp
              injection hc2 with hE
              injection hE with h1 hE
              injection hE with h2 hE
              injection hE with h3 hE
              injection hE with h4 hE
              injection hE with h5 h6
              subst h1 h2 h3 h4 h5 h6
              go_wp2_with (fail)
              have z := st5_blk HBZ5.out (.int .i64 cl) (.int .i64 sq) (.slice Ao acc.length co) (.int .i64 at_) (.int .i64 ec)
              have zB := st5_below HB5.out (Nat.le_refl _) (.int .i64 cl) (.int .i64 sq) (.slice Ao acc.length co) (.int .i64 at_) (.int .i64 ec)
              have zR := ress_st5 OS5.out HBZ5.out (.int .i64 cl) (.int .i64 sq) (.slice Ao acc.length co) (.int .i64 at_) (.int .i64 ec)
              generalize ((((w5.setCell ⟨w.heap.size, 0, none⟩ (.int .i64 cl)).setCell ⟨w.heap.size, 1, none⟩ (.int .i64 sq)).setCell ⟨w.heap.size, 2, none⟩ (.slice Ao acc.length co)).setCell ⟨w.heap.size, 3, none⟩ (.int .i64 at_)).setCell ⟨w.heap.size, 4, none⟩ (.int .i64 ec) = wz at *
              have d0 : wz.cell? ⟨w.heap.size, 0, none⟩ = some (.int .i64 cl) := blk_cell z 0
              have d1 : wz.cell? ⟨w.heap.size, 1, none⟩ = some (.int .i64 sq) := blk_cell z 1
              have d2 : wz.cell? ⟨w.heap.size, 2, none⟩ = some (.slice Ao acc.length co) := blk_cell z 2
              have d3 : wz.cell? ⟨w.heap.size, 3, none⟩ = some (.int .i64 at_) := blk_cell z 3
              have d4 : wz.cell? ⟨w.heap.size, 4, none⟩ = some (.int .i64 ec) := blk_cell z 4
              refine bodyPost_ret (v := .tuple #[.agg #[.int .i64 cl, .int .i64 sq, .slice Ao acc.length co, .int .i64 at_, .int .i64 ec], .int .i64 0]) (by simp [results, Try.results33, go_sem, d0, d1, d2, d3, d4]) rfl ⟨_, rfl, Kd.S_lower zR HW.out.size, zB⟩

end Go.Proofs.Ytcpenjbgiecgnaa.PAll
