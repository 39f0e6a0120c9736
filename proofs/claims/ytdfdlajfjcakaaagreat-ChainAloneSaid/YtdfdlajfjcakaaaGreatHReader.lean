-- written by a program of ours (wip/printx: the kit's print, changed in a few places)
import Derived.Test.YtdfdlajfjcakaaaGreatPAllx0
import Derived.Test.YtdfdlajfjcakaaaGreatPAllx1040
import Derived.Test.YtdfdlajfjcakaaaGreatHCheck
import Derived.Test.YtdfdlajfjcakaaaGreatHWriter
namespace Go.Proofs.YtdfdlajfjcakaaaGreat.PAll
open Go.RowKit Go.Proofs.YtdfdlajfjcakaaaGreat.Extra Go.Proofs.YtdfdlajfjcakaaaGreatW.PrintWords Go.Proofs.YtdfdlajfjcakaaaGreatW.PrintLast Go.Proofs.YtdfdlajfjcakaaaGreatW.PrintMore
attribute [local go_sem] max2_int min2_int max_two min_two max_three min_three max_four min_four   -- for this text's walks alone
set_option linter.unusedVariables false
set_option linter.unusedSimpArgs false

/-- A reader of fields at block g: what its list leads to lay there in w0. -/
def Rd (w0 w : World) (g : Nat) (l : List S136) (ok : Bool) : Prop :=
  ∃ A c, w.heap[g]? = some (.cells #[.slice A l.length c, .bool ok] 166 (0, 0)) ∧ w0.heap.size ≤ g ∧ l.length ≤ c ∧ Kd.C k136 w0 A l.length l
/-- The field that is read; the list and the mark behind it. -/
def fldOk (t : Bool) (x : S136) : Bool := (x.f0 == t) && decide (0 ≤ x.f1 ∧ x.f1 ≤ 1099511627776)
def rdX (t : Bool) : List S136 → S136
  | [] => ⟨false, 0, ⟨#[]⟩⟩
  | x :: _ => if fldOk t x = true then x else ⟨false, 0, ⟨#[]⟩⟩
def rdL (t : Bool) : List S136 → List S136
  | [] => []
  | x :: l => if fldOk t x = true then l else []
def rdO (t : Bool) : List S136 → Bool → Bool
  | [], _ => false
  | x :: _, ok => if fldOk t x = true then ok else false
theorem Rd.keep {w0 w w1 : World} {g : Nat} {l : List S136} {ok : Bool} (h : Rd w0 w g l ok) (hk : w1.heap[g]? = w.heap[g]?) : Rd w0 w1 g l ok := by
  obtain ⟨A, c, h1, h2⟩ := h
  exact ⟨A, c, hk.trans h1, h2⟩
theorem Rd.lt {w0 w : World} {g : Nat} {l : List S136} {ok : Bool} (h : Rd w0 w g l ok) : g < w.heap.size := by
  obtain ⟨A, c, h1, _⟩ := h
  exact blk_lt h1
theorem Rd.ge {w0 w : World} {g : Nat} {l : List S136} {ok : Bool} (h : Rd w0 w g l ok) : w0.heap.size ≤ g := h.choose_spec.choose_spec.2.1
theorem st3_blk {w : World} {b t : Nat} {u0 u1 u2 : Value} (h : w.heap[b]? = some (.cells #[u0, u1, u2] t (0, 0))) (v0 v1 v2 : Value) :
    (((w.setCell ⟨b, 0, none⟩ v0).setCell ⟨b, 1, none⟩ v1).setCell ⟨b, 2, none⟩ v2).heap[b]? = some (.cells #[v0, v1, v2] t (0, 0)) := by
  have := blk_set (blk_set (blk_set h 0 v0) 1 v1) 2 v2
  simpa using this
theorem st3_far (w : World) {b k : Nat} (h : k ≠ b) (v0 v1 v2 : Value) : (((w.setCell ⟨b, 0, none⟩ v0).setCell ⟨b, 1, none⟩ v1).setCell ⟨b, 2, none⟩ v2).heap[k]? = w.heap[k]? :=
  (Below.heap_setCell _ ⟨b, 2, none⟩ v2 k h).trans ((Below.heap_setCell _ ⟨b, 1, none⟩ v1 k h).trans (Below.heap_setCell w ⟨b, 0, none⟩ v0 k h))
theorem st3_cell (w : World) {b : Nat} {p : Addr} (h : p.block ≠ b) (v0 v1 v2 : Value) : (((w.setCell ⟨b, 0, none⟩ v0).setCell ⟨b, 1, none⟩ v1).setCell ⟨b, 2, none⟩ v2).cell? p = w.cell? p :=
  World.cell?_of_block (st3_far w h v0 v1 v2)
theorem st3_keep (w : World) (b : Nat) (v0 v1 v2 : Value) : KeepBut w (((w.setCell ⟨b, 0, none⟩ v0).setCell ⟨b, 1, none⟩ v1).setCell ⟨b, 2, none⟩ v2) b none :=
  (((KeepBut.refl w b none).set_ 0 v0).set_ 1 v1).set_ 2 v2
theorem rd_refused {w0 w wA : World} {g t : Nat} {u0 u1 u2 v0 v1 v2 p q : Value} (hX : wA.heap[w.heap.size]? = some (.cells #[u0, u1, u2] t (0, 0))) (hG : wA.heap[g]? = some (.cells #[p, q] 166 (0, 0))) (hB : Below w.heap.size w wA) (hB0 : Below w0.heap.size w0 wA) (hg : w0.heap.size ≤ g) (hlt : g < w.heap.size) (hgb : g ≠ w.heap.size) :
    (((((wA.setCell ⟨g, 1, none⟩ (.bool false)).setCell ⟨g, 0, none⟩ (.slice none 0 0)).setCell ⟨w.heap.size, 0, none⟩ v0).setCell ⟨w.heap.size, 1, none⟩ v1).setCell ⟨w.heap.size, 2, none⟩ v2).heap[w.heap.size]? = some (.cells #[v0, v1, v2] t (0, 0)) ∧
    (((((wA.setCell ⟨g, 1, none⟩ (.bool false)).setCell ⟨g, 0, none⟩ (.slice none 0 0)).setCell ⟨w.heap.size, 0, none⟩ v0).setCell ⟨w.heap.size, 1, none⟩ v1).setCell ⟨w.heap.size, 2, none⟩ v2).heap[g]? = some (.cells #[.slice none 0 0, .bool false] 166 (0, 0)) ∧
    KeepBut w (((((wA.setCell ⟨g, 1, none⟩ (.bool false)).setCell ⟨g, 0, none⟩ (.slice none 0 0)).setCell ⟨w.heap.size, 0, none⟩ v0).setCell ⟨w.heap.size, 1, none⟩ v1).setCell ⟨w.heap.size, 2, none⟩ v2) g none ∧
    Below w0.heap.size w0 (((((wA.setCell ⟨g, 1, none⟩ (.bool false)).setCell ⟨g, 0, none⟩ (.slice none 0 0)).setCell ⟨w.heap.size, 0, none⟩ v0).setCell ⟨w.heap.size, 1, none⟩ v1).setCell ⟨w.heap.size, 2, none⟩ v2) := by
  have hXg : ((wA.setCell ⟨g, 1, none⟩ (.bool false)).setCell ⟨g, 0, none⟩ (.slice none 0 0)).heap[w.heap.size]? = some (.cells #[u0, u1, u2] t (0, 0)) := (Below.heap_setCell _ ⟨g, 0, none⟩ _ _ (Ne.symm hgb)).trans ((Below.heap_setCell wA ⟨g, 1, none⟩ _ _ (Ne.symm hgb)).trans hX)
  have hGg : ((wA.setCell ⟨g, 1, none⟩ (.bool false)).setCell ⟨g, 0, none⟩ (.slice none 0 0)).heap[g]? = some (.cells #[.slice none 0 0, .bool false] 166 (0, 0)) := by
    have := blk_set (blk_set hG 1 (.bool false)) 0 (.slice none 0 0)
    simpa using this
  have hge : w0.heap.size ≤ w.heap.size := by omega
  refine ⟨st3_blk hXg v0 v1 v2, (st3_far _ hgb v0 v1 v2).trans hGg, ⟨?_, fun i hi hne _ => ?_⟩, ?_⟩
  · have := hB.size
    simpa [World.setCell] using this
  · have hib : i ≠ w.heap.size := by omega
    exact (st3_far _ hib v0 v1 v2).trans ((Below.heap_setCell _ ⟨g, 0, none⟩ _ _ hne).trans ((Below.heap_setCell wA ⟨g, 1, none⟩ _ _ hne).trans (hB.block i hi)))
  · exact ((((hB0.setCell hg _).setCell hg _).setCell hge _).setCell hge _).setCell hge _
theorem rd_read {w0 w wC : World} {g t : Nat} {u0 u1 u2 v0 v1 v2 p q : Value} (hX : wC.heap[w.heap.size]? = some (.cells #[u0, u1, u2] t (0, 0))) (hG : wC.heap[g]? = some (.cells #[p, q] 166 (0, 0))) (hB : Below w.heap.size w wC) (hB0 : Below w0.heap.size w0 wC) (hg : w0.heap.size ≤ g) (hlt : g < w.heap.size) (hgb : g ≠ w.heap.size) (v : Value) :
    ((((wC.setCell ⟨g, 0, none⟩ v).setCell ⟨w.heap.size, 0, none⟩ v0).setCell ⟨w.heap.size, 1, none⟩ v1).setCell ⟨w.heap.size, 2, none⟩ v2).heap[w.heap.size]? = some (.cells #[v0, v1, v2] t (0, 0)) ∧
    ((((wC.setCell ⟨g, 0, none⟩ v).setCell ⟨w.heap.size, 0, none⟩ v0).setCell ⟨w.heap.size, 1, none⟩ v1).setCell ⟨w.heap.size, 2, none⟩ v2).heap[g]? = some (.cells #[v, q] 166 (0, 0)) ∧
    KeepBut w ((((wC.setCell ⟨g, 0, none⟩ v).setCell ⟨w.heap.size, 0, none⟩ v0).setCell ⟨w.heap.size, 1, none⟩ v1).setCell ⟨w.heap.size, 2, none⟩ v2) g none ∧
    Below w0.heap.size w0 ((((wC.setCell ⟨g, 0, none⟩ v).setCell ⟨w.heap.size, 0, none⟩ v0).setCell ⟨w.heap.size, 1, none⟩ v1).setCell ⟨w.heap.size, 2, none⟩ v2) := by
  have hXg : (wC.setCell ⟨g, 0, none⟩ v).heap[w.heap.size]? = some (.cells #[u0, u1, u2] t (0, 0)) := (Below.heap_setCell _ ⟨g, 0, none⟩ _ _ (Ne.symm hgb)).trans hX
  have hGg : (wC.setCell ⟨g, 0, none⟩ v).heap[g]? = some (.cells #[v, q] 166 (0, 0)) := by
    have := blk_set hG 0 v
    simpa using this
  have hge : w0.heap.size ≤ w.heap.size := by omega
  refine ⟨st3_blk hXg v0 v1 v2, (st3_far _ hgb v0 v1 v2).trans hGg, ⟨?_, fun i hi hne _ => ?_⟩, ?_⟩
  · have := hB.size
    simpa [World.setCell] using this
  · have hib : i ≠ w.heap.size := by omega
    exact (st3_far _ hib v0 v1 v2).trans ((Below.heap_setCell _ ⟨g, 0, none⟩ _ _ hne).trans (hB.block i hi))
  · exact (((hB0.setCell hg _).setCell hge _).setCell hge _).setCell hge _
theorem rd_keep (w : World) (g : Nat) (u v : Value) (o : Obj) : KeepBut w (((w.setCell ⟨g, 1, none⟩ u).setCell ⟨g, 0, none⟩ v).alloc o) g none :=
  KeepBut.trans (((KeepBut.refl w g none).set_ 1 u).set_ 0 v) (KeepBut.of_below ((Below.refl _ _).alloc (Nat.le_refl _) o) g none) (.inl rfl)
set_option maxHeartbeats 4000000 in
set_option maxRecDepth 100000 in
theorem op_reader_field.calls (g : Nat) (l : List S136) (ok t : Bool) (w0 w : World) (hI : Rd w0 w g l ok) (hB : Below w0.heap.size w0 w) :
    Calls Tryz.prog 102 #[.pointer (some ⟨g, 0, none⟩), .bool t] w fun e w' => e = .returned (.agg #[.bool (rdX t l).f0, .int .i64 (rdX t l).f1, .string (rdX t l).f2]) ∧ Rd w0 w' g (rdL t l) (rdO t l ok) ∧ KeepBut w w' g none ∧ Below w0.heap.size w0 w' := by
  have hu := Tryz.underlying136
  obtain ⟨A, c, hb, hg, hc, hC⟩ := hI
  have hfg : w.frozen? ⟨g, 0, none⟩ = false := blk_frozen hb 0
  have hfg1 : w.frozen? ⟨g, 1, none⟩ = false := blk_frozen hb 1
  have c0 : w.cell? ⟨g, 0, none⟩ = some (.slice A l.length c) := blk_cell hb 0
  have c1 : w.cell? ⟨g, 1, none⟩ = some (.bool ok) := blk_cell hb 1
  have hlt : g < w.heap.size := blk_lt hb
  have HBK := Aside0.mk hb
  have HB := Aside0.mk hB
  have HG := Aside0.mk hg
  have HC := Aside0.mk hC
  clear hb hB hg hC
  cases l with
  | nil =>
    simp only [List.length_nil] at c0
    go_enter Tryz.func102, Tryz.ntmps102
    go_wp2_with (fail)
    refine bodyPost_ret (v := .agg #[.bool false, .int .i64 0, .string (⟨#[]⟩ : ByteArray)]) (by simp [results, Tryz.results102, go_sem]) rfl ⟨rfl, ?_, ?_, ?_⟩
    · exact ⟨none, 0, blk_alloc (blk_set (blk_set HBK.out 1 (.bool false)) 0 (.slice none 0 0)) _, HG.out, Nat.le_refl _, Kd.C_nil _ _⟩
    · exact rd_keep w g _ _ _
    · exact (((HB.out.setCell HG.out _).setCell HG.out _).alloc (by simpa [World.setCell] using HB.out.size) _)
  | cons x l =>
    simp only [List.length_cons] at c0
    obtain ⟨ad, hA, x0, x1, x2⟩ := at_T136 (Kd.C_below HC.out HB.out) 0 (by omega) (by simp)
    have e0 : ad.add ((0 : Int).toNat * 3) = ad := by simp [Addr.add]
    have e1 : rd_T136 (x :: l) 0 = x := rfl
    rw [e0, e1] at x0 x1 x2
    clear e0 e1
    subst hA
    have q0 : ((l.length : Int) + 1 == 0) = false := beq_eq_false_iff_ne.2 (by omega)
    have ha := World.block_lt_of_cell? _ _ x0
    have q1 : 0 < l.length + 1 := by omega
    by_cases h1 : x.f0 = t
    · subst h1
      cases q2 : decide (0 ≤ x.f1 ∧ x.f1 ≤ 1099511627776)
      · have H3 : Aside0 (fldOk x.f0 x = false) := Aside0.mk (by unfold fldOk; rw [q2, Bool.and_false])
        go_enter Tryz.func102, Tryz.ntmps102
        go_wp2_with (go_at_call 40; refine (op_in.calls _ _ _ _ _ (op_Check.in_f _ _ _)).mono ?_; rintro e wq ⟨rfl, hDq⟩; obtain ⟨nq, rfl⟩ := hDq.out; clear hDq)
        have hgb : g ≠ w.heap.size := by omega
        have BX := Aside0.mk (blk_drewN (blk_new w (.cells #[.bool false, .int .i64 0, .string (⟨#[]⟩ : ByteArray)] 136)) nq)
        have BG := Aside0.mk (blk_drewN (blk_alloc HBK.out (.cells #[.bool false, .int .i64 0, .string (⟨#[]⟩ : ByteArray)] 136)) nq)
        have BB := Aside0.mk (((Below.refl w.heap.size w).alloc (Nat.le_refl _) (.cells #[.bool false, .int .i64 0, .string (⟨#[]⟩ : ByteArray)] 136)) |> fun h => pw_below_drewN h nq)
        have BB0 := Aside0.mk ((HB.out.alloc HB.out.size (.cells #[.bool false, .int .i64 0, .string (⟨#[]⟩ : ByteArray)] 136)) |> fun h => pw_below_drewN h nq)
        generalize (w.alloc (.cells #[.bool false, .int .i64 0, .string (⟨#[]⟩ : ByteArray)] 136)).drewN nq = wA at *
        obtain ⟨z1, z2, z3, z4⟩ := rd_refused (w := w) (w0 := w0) (v0 := .bool false) (v1 := .int .i64 0) (v2 := .string (⟨#[]⟩ : ByteArray)) BX.out BG.out BB.out BB0.out HG.out hlt hgb
        generalize (((((wA.setCell ⟨g, 1, none⟩ (.bool false)).setCell ⟨g, 0, none⟩ (.slice none 0 0)).setCell ⟨w.heap.size, 0, none⟩ (.bool false)).setCell ⟨w.heap.size, 1, none⟩ (.int .i64 0)).setCell ⟨w.heap.size, 2, none⟩ (.string (⟨#[]⟩ : ByteArray))) = wz at *
        have d0 : wz.cell? ⟨w.heap.size, 0, none⟩ = some (.bool false) := blk_cell z1 0
        have d1 : wz.cell? ⟨w.heap.size, 1, none⟩ = some (.int .i64 0) := blk_cell z1 1
        have d2 : wz.cell? ⟨w.heap.size, 2, none⟩ = some (.string (⟨#[]⟩ : ByteArray)) := blk_cell z1 2
        refine bodyPost_ret (v := .agg #[.bool false, .int .i64 0, .string (⟨#[]⟩ : ByteArray)]) (by simp [results, Tryz.results102, go_sem, d0, d1, d2]) rfl ⟨?_, ?_, ?_, ?_⟩
        · simp only [rdX, H3.out]
          rfl
        · simp only [rdL, rdO, H3.out]
          exact ⟨none, 0, z2, HG.out, Nat.le_refl _, Kd.C_nil _ _⟩
        · exact z3
        · exact z4
      · have H3 : Aside0 (fldOk x.f0 x = true) := Aside0.mk (by unfold fldOk; rw [q2, beq_self_eq_true]; rfl)
        by_cases hc1 : c = 1
        · subst hc1
          have hc4 : (1 : Int) ≤ (l.length : Int) + 1 := by omega
          go_enter Tryz.func102, Tryz.ntmps102
          go_wp2_with (go_at_call 40; refine (op_in.calls _ _ _ _ _ (op_Check.in_f _ _ _)).mono ?_; rintro e wq ⟨rfl, hDq⟩; obtain ⟨nq, rfl⟩ := hDq.out; clear hDq)
          have BX := Aside0.mk (blk_drew (blk_drewN (blk_new w (.cells #[.bool false, .int .i64 0, .string (⟨#[]⟩ : ByteArray)] 136)) nq))
          have BG := Aside0.mk (blk_drew (blk_drewN (blk_alloc HBK.out (.cells #[.bool false, .int .i64 0, .string (⟨#[]⟩ : ByteArray)] 136)) nq))
          have BB := Aside0.mk (((Below.refl w.heap.size w).alloc (Nat.le_refl _) (.cells #[.bool false, .int .i64 0, .string (⟨#[]⟩ : ByteArray)] 136)) |> fun h => below_drew1 (pw_below_drewN h nq))
          have BB0 := Aside0.mk ((HB.out.alloc HB.out.size (.cells #[.bool false, .int .i64 0, .string (⟨#[]⟩ : ByteArray)] 136)) |> fun h => below_drew1 (pw_below_drewN h nq))
          have hge : w0.heap.size ≤ w.heap.size := HB.out.size
          have sB0 := (BB.out.cell (p := ⟨g, 0, none⟩) hlt).trans c0
          have sB1 := (BB.out.cell (p := ad) ha).trans x0
          have sB2 := (BB.out.cell (p := ⟨ad.block, ad.off + 1, none⟩) ha).trans x1
          have sB3 := (BB.out.cell (p := ⟨ad.block, ad.off + 2, none⟩) ha).trans x2
          have hgb : g ≠ w.heap.size := by omega
          have hab : ad.block ≠ w.heap.size := by omega
          generalize ((w.alloc (.cells #[.bool false, .int .i64 0, .string (⟨#[]⟩ : ByteArray)] 136)).drewN nq) = wA at *
          refine start_ (n := 16) (S := fun w' => w'.cell? ⟨g, 0, none⟩ = some (.slice (some ad) (l.length + 1) 1) ∧ w'.cell? ad = some (.bool x.f0) ∧ w'.cell? ⟨ad.block, ad.off + 1, none⟩ = some (.int .i64 x.f1) ∧ w'.cell? ⟨ad.block, ad.off + 2, none⟩ = some (.string x.f2)) (ds := [15]) #[false, false, false, false, false, false, false, false, false, false, false, false, false, false, false, false] (by kernel_rfl) rfl rfl ⟨sB0, sB1, sB2, sB3⟩ (fun hHeld => ?_)
          generalize wA.drew = wB at *
          have fX0 := blk_frozen BX.out 0
          have fX1 := blk_frozen BX.out 1
          have fX2 := blk_frozen BX.out 2
          have cX0 := blk_cell BX.out 0
          have cX1 := blk_cell BX.out 1
          have cX2 := blk_cell BX.out 2
          refine pure_ (i := 0) (N := some 40) (v := ?_) (a' := ?_) #[true, false, false, false, false, false, false, false, false, false, false, false, false, false, false, false] rfl rfl (by kernel_rfl) (fun _ _ _ h => h) (Or.inl ⟨by rfl, ?_⟩) ?_ ?_
          rotate_left
          · intro w'
            go_simp
            with_reducible rfl
          rotate_left
          · simp only [Act.put, List.setIfInBounds_toArray, List.set_cons_zero, List.set_cons_succ, i64_w, i32_w]
            rfl
          refine pure_ (i := 1) (N := some 41) (v := ?_) (a' := ?_) #[true, true, false, false, false, false, false, false, false, false, false, false, false, false, false, false] rfl rfl (by kernel_rfl) (fun _ _ _ h => h) (Or.inl ⟨by rfl, ?_⟩) ?_ ?_
          rotate_left
          · intro w'
            go_simp
            with_reducible rfl
          rotate_left
          · simp only [Act.put, List.setIfInBounds_toArray, List.set_cons_zero, List.set_cons_succ, i64_w, i32_w]
            rfl
          refine pure_ (i := 2) (N := some 42) (v := ?_) (a' := ?_) #[true, true, true, false, false, false, false, false, false, false, false, false, false, false, false, false] rfl rfl (by kernel_rfl) (fun _ _ _ h => h) (Or.inl ⟨by rfl, ?_⟩) ?_ ?_
          rotate_left
          · intro w'
            go_simp
            with_reducible rfl
          rotate_left
          · simp only [Act.put, List.setIfInBounds_toArray, List.set_cons_zero, List.set_cons_succ, i64_w, i32_w]
            rfl
          refine pure_ (i := 3) (N := some 43) (v := ?_) (a' := ?_) #[true, true, true, true, false, false, false, false, false, false, false, false, false, false, false, false] rfl rfl (by kernel_rfl) (fun _ _ _ h => h) (Or.inl ⟨by rfl, ?_⟩) ?_ ?_
          rotate_left
          · intro w'
            go_simp
            with_reducible rfl
          rotate_left
          · simp only [Act.put, List.setIfInBounds_toArray, List.set_cons_zero, List.set_cons_succ, i64_w, i32_w]
            rfl
          refine pure_ (i := 7) (N := some 47) (v := ?_) (a' := ?_) #[true, true, true, true, false, false, false, true, false, false, false, false, false, false, false, false] rfl rfl (by kernel_rfl) (fun _ _ _ h => h) (Or.inl ⟨by rfl, ?_⟩) ?_ ?_
          rotate_left
          · intro w'
            go_simp
            with_reducible rfl
          rotate_left
          · simp only [Act.put, List.setIfInBounds_toArray, List.set_cons_zero, List.set_cons_succ, i64_w, i32_w]
            rfl
          refine pure_ (i := 8) (N := some 48) (v := ?_) (a' := ?_) #[true, true, true, true, false, false, false, true, true, false, false, false, false, false, false, false] rfl rfl (by kernel_rfl) (fun _ _ _ h => h) (Or.inl ⟨by rfl, ?_⟩) ?_ ?_
          rotate_left
          · intro w'
            go_simp
            with_reducible rfl
          rotate_left
          · simp only [Act.put, List.setIfInBounds_toArray, List.set_cons_zero, List.set_cons_succ, i64_w, i32_w]
            rfl
          refine pure_ (i := 9) (N := some 49) (v := ?_) (a' := ?_) #[true, true, true, true, false, false, false, true, true, true, false, false, false, false, false, false] rfl rfl (by kernel_rfl) (fun _ _ _ h => h) (Or.inl ⟨by rfl, ?_⟩) ?_ ?_
          rotate_left
          · intro w'
            go_simp
            with_reducible rfl
          rotate_left
          · simp only [Act.put, List.setIfInBounds_toArray, List.set_cons_zero, List.set_cons_succ, i64_w, i32_w]
            rfl
          refine take_ (i := 4) (N := some 44) (v := ?_) (a' := ?_) #[true, true, true, true, true, false, false, true, true, true, false, false, false, false, false, false] rfl rfl (by kernel_rfl) (fun _ _ _ h => h) (Or.inl ⟨by rfl, ?_⟩) hHeld ?_ ?_
          rotate_left
          · rintro w' ⟨s0, s1, s2, s3⟩
            go_simp
            with_reducible rfl
          rotate_left
          · simp only [Act.put, List.setIfInBounds_toArray, List.set_cons_zero, List.set_cons_succ, i64_w, i32_w]
            rfl
          refine pure_ (i := 5) (N := some 45) (v := ?_) (a' := ?_) #[true, true, true, true, true, true, false, true, true, true, false, false, false, false, false, false] rfl rfl (by kernel_rfl) (fun _ _ _ h => h) (Or.inl ⟨by rfl, ?_⟩) ?_ ?_
          rotate_left
          · intro w'
            go_simp
            with_reducible rfl
          rotate_left
          · simp only [Act.put, List.setIfInBounds_toArray, List.set_cons_zero, List.set_cons_succ, i64_w, i32_w]
            rfl
          refine take_ (i := 6) (N := some 46) (v := ?_) (a' := ?_) #[true, true, true, true, true, true, true, true, true, true, false, false, false, false, false, false] rfl rfl (by kernel_rfl) (fun _ _ _ h => h) (Or.inl ⟨by rfl, ?_⟩) hHeld ?_ ?_
          rotate_left
          · rintro w' ⟨s0, s1, s2, s3⟩
            go_simp
            with_reducible rfl
          rotate_left
          · simp only [Act.put, List.setIfInBounds_toArray, List.set_cons_zero, List.set_cons_succ, i64_w, i32_w]
            rfl
          refine take_ (i := 10) (N := some 50) (v := ?_) (a' := ?_) #[true, true, true, true, true, true, true, true, true, true, true, false, false, false, false, false] rfl rfl (by kernel_rfl) (fun _ _ _ h => h) (Or.inl ⟨by rfl, ?_⟩) hHeld ?_ ?_
          rotate_left
          · rintro w' ⟨s0, s1, s2, s3⟩
            go_simp
            with_reducible rfl
          rotate_left
          · simp only [Act.put, List.setIfInBounds_toArray, List.set_cons_zero, List.set_cons_succ, i64_w, i32_w]
            rfl
          refine pure_ (i := 11) (N := some 51) (v := ?_) (a' := ?_) #[true, true, true, true, true, true, true, true, true, true, true, true, false, false, false, false] rfl rfl (by kernel_rfl) (fun _ _ _ h => h) (Or.inl ⟨by rfl, ?_⟩) ?_ ?_
          rotate_left
          · intro w'
            go_simp
            with_reducible rfl
          rotate_left
          · simp only [Act.put, List.setIfInBounds_toArray, List.set_cons_zero, List.set_cons_succ, i64_w, i32_w]
            rfl
          refine one_ (i := 12) (N := none) #[true, true, true, true, true, true, true, true, true, true, true, true, true, false, false, false] rfl rfl (by kernel_rfl) (by decide) (fun K hK => ?_)
          refine skip_ (w1 := ?_) (by rfl) rfl ?_ ?_
          rotate_left
          · go_simp
            rfl
          have BX2 := Aside0.mk (st3_blk BX.out (.bool x.f0) (.int .i64 x.f1) (.string x.f2))
          have BG2 := Aside0.mk ((st3_far wB hgb (.bool x.f0) (.int .i64 x.f1) (.string x.f2)).trans BG.out)
          have KB2 := Aside0.mk (((BB.out.setCell (p := ⟨w.heap.size, 0, none⟩) (Nat.le_refl _) (.bool x.f0)).setCell (p := ⟨w.heap.size, 1, none⟩) (Nat.le_refl _) (.int .i64 x.f1)).setCell (p := ⟨w.heap.size, 2, none⟩) (Nat.le_refl _) (.string x.f2))
          have KB3 := Aside0.mk (((BB0.out.setCell (p := ⟨w.heap.size, 0, none⟩) hge (.bool x.f0)).setCell (p := ⟨w.heap.size, 1, none⟩) hge (.int .i64 x.f1)).setCell (p := ⟨w.heap.size, 2, none⟩) hge (.string x.f2))
          have sC0 := (st3_cell wB (p := ⟨g, 0, none⟩) hgb (.bool x.f0) (.int .i64 x.f1) (.string x.f2)).trans hHeld.1
          have sC1 := (st3_cell wB (p := ad) hab (.bool x.f0) (.int .i64 x.f1) (.string x.f2)).trans hHeld.2.1
          have sC2 := (st3_cell wB (p := ⟨ad.block, ad.off + 1, none⟩) hab (.bool x.f0) (.int .i64 x.f1) (.string x.f2)).trans hHeld.2.2.1
          have sC3 := (st3_cell wB (p := ⟨ad.block, ad.off + 2, none⟩) hab (.bool x.f0) (.int .i64 x.f1) (.string x.f2)).trans hHeld.2.2.2
          generalize ((wB.setCell ⟨w.heap.size, 0, none⟩ (.bool x.f0)).setCell ⟨w.heap.size, 1, none⟩ (.int .i64 x.f1)).setCell ⟨w.heap.size, 2, none⟩ (.string x.f2) = wC at *
          have fC := blk_frozen BG2.out 0
          refine hK.out _ _ ⟨sC0, sC1, sC2, sC3⟩ (fun hHeld => ?_)
          clear hK K
          refine pure_ (i := 13) (N := some 52) (v := ?_) (a' := ?_) #[true, true, true, true, true, true, true, true, true, true, true, true, true, true, false, false] rfl rfl (by kernel_rfl) (fun _ _ _ h => h) (Or.inl ⟨by rfl, ?_⟩) ?_ ?_
          rotate_left
          · intro w'
            go_simp
            with_reducible rfl
          rotate_left
          · simp only [Act.put, List.setIfInBounds_toArray, List.set_cons_zero, List.set_cons_succ, i64_w, i32_w]
            rfl
          refine pure_ (i := 14) (N := some 53) (v := ?_) (a' := ?_) #[true, true, true, true, true, true, true, true, true, true, true, true, true, true, true, false] rfl rfl (by kernel_rfl) (fun _ _ _ h => h) (Or.inl ⟨by rfl, ?_⟩) ?_ ?_
          rotate_left
          · intro w'
            go_simp
            with_reducible rfl
          rotate_left
          · simp only [Act.put, List.setIfInBounds_toArray, List.set_cons_zero, List.set_cons_succ, i64_w, i32_w]
            rfl
          refine last_ (i := 15) (N := none) #[true, true, true, true, true, true, true, true, true, true, true, true, true, true, true, true] rfl rfl (by kernel_rfl) (by decide) (fun K hK => ?_)
          refine skip_ (w1 := ?_) (by rfl) rfl ?_ ?_
          rotate_left
          · go_simp
            rfl
          refine hK.out _ _ ?_
          clear hK K
          refine done_ (by kernel_rfl) ?_

          have cD0 : wC.cell? ⟨w.heap.size, 0, none⟩ = some (.bool x.f0) := blk_cell BX2.out 0
          have cD1 : wC.cell? ⟨w.heap.size, 1, none⟩ = some (.int .i64 x.f1) := blk_cell BX2.out 1
          have cD2 : wC.cell? ⟨w.heap.size, 2, none⟩ = some (.string x.f2) := blk_cell BX2.out 2
          have fD0 := blk_frozen BX2.out 0
          have fD1 := blk_frozen BX2.out 1
          have fD2 := blk_frozen BX2.out 2
          go_wp2_with (fail)
          obtain ⟨z1, z2, z3, z4⟩ := rd_read (w := w) (w0 := w0) (v0 := .bool x.f0) (v1 := .int .i64 x.f1) (v2 := .string x.f2) BX2.out BG2.out KB2.out KB3.out HG.out hlt hgb (.slice (some ad) l.length 0)
          generalize ((((wC.setCell ⟨g, 0, none⟩ (.slice (some ad) l.length 0)).setCell ⟨w.heap.size, 0, none⟩ (.bool x.f0)).setCell ⟨w.heap.size, 1, none⟩ (.int .i64 x.f1)).setCell ⟨w.heap.size, 2, none⟩ (.string x.f2)) = wz at *
          have d0 : wz.cell? ⟨w.heap.size, 0, none⟩ = some (.bool x.f0) := blk_cell z1 0
          have d1 : wz.cell? ⟨w.heap.size, 1, none⟩ = some (.int .i64 x.f1) := blk_cell z1 1
          have d2 : wz.cell? ⟨w.heap.size, 2, none⟩ = some (.string x.f2) := blk_cell z1 2
          refine bodyPost_ret (v := .agg #[.bool x.f0, .int .i64 x.f1, .string x.f2]) (by simp [results, Tryz.results102, go_sem, d0, d1, d2]) rfl ⟨?_, ?_, ?_, ?_⟩
          · simp only [rdX, H3.out, if_true]
          · simp only [rdL, rdO, H3.out, if_true]
            exact ⟨_, _, z2, HG.out, by first | omega | (simp only [List.length_cons] at hc; omega), (by
                have hd := Kd.C_drop (m := 1) (c := 1) HC.out (by simp) hc
                simp only [List.drop_succ_cons, List.drop_zero, if_true, if_false, if_true, Option.map_some] at hd
                exact hd)⟩
          · exact z3
          · exact z4
        · have hc2 : l.length + 1 ≤ c := by simpa using hc
          have hc3 : (1 : Int) ≤ (c : Int) := by omega
          have hc4 : (1 : Int) ≤ (l.length : Int) + 1 := by omega
          go_enter Tryz.func102, Tryz.ntmps102
          go_wp2_with (go_at_call 40; refine (op_in.calls _ _ _ _ _ (op_Check.in_f _ _ _)).mono ?_; rintro e wq ⟨rfl, hDq⟩; obtain ⟨nq, rfl⟩ := hDq.out; clear hDq)
          have BX := Aside0.mk (blk_drew (blk_drewN (blk_new w (.cells #[.bool false, .int .i64 0, .string (⟨#[]⟩ : ByteArray)] 136)) nq))
          have BG := Aside0.mk (blk_drew (blk_drewN (blk_alloc HBK.out (.cells #[.bool false, .int .i64 0, .string (⟨#[]⟩ : ByteArray)] 136)) nq))
          have BB := Aside0.mk (((Below.refl w.heap.size w).alloc (Nat.le_refl _) (.cells #[.bool false, .int .i64 0, .string (⟨#[]⟩ : ByteArray)] 136)) |> fun h => below_drew1 (pw_below_drewN h nq))
          have BB0 := Aside0.mk ((HB.out.alloc HB.out.size (.cells #[.bool false, .int .i64 0, .string (⟨#[]⟩ : ByteArray)] 136)) |> fun h => below_drew1 (pw_below_drewN h nq))
          have hge : w0.heap.size ≤ w.heap.size := HB.out.size
          have sB0 := (BB.out.cell (p := ⟨g, 0, none⟩) hlt).trans c0
          have sB1 := (BB.out.cell (p := ad) ha).trans x0
          have sB2 := (BB.out.cell (p := ⟨ad.block, ad.off + 1, none⟩) ha).trans x1
          have sB3 := (BB.out.cell (p := ⟨ad.block, ad.off + 2, none⟩) ha).trans x2
          have hgb : g ≠ w.heap.size := by omega
          have hab : ad.block ≠ w.heap.size := by omega
          generalize ((w.alloc (.cells #[.bool false, .int .i64 0, .string (⟨#[]⟩ : ByteArray)] 136)).drewN nq) = wA at *
          refine start_ (n := 16) (S := fun w' => w'.cell? ⟨g, 0, none⟩ = some (.slice (some ad) (l.length + 1) c) ∧ w'.cell? ad = some (.bool x.f0) ∧ w'.cell? ⟨ad.block, ad.off + 1, none⟩ = some (.int .i64 x.f1) ∧ w'.cell? ⟨ad.block, ad.off + 2, none⟩ = some (.string x.f2)) (ds := [15]) #[false, false, false, false, false, false, false, false, false, false, false, false, false, false, false, false] (by kernel_rfl) rfl rfl ⟨sB0, sB1, sB2, sB3⟩ (fun hHeld => ?_)
          generalize wA.drew = wB at *
          have fX0 := blk_frozen BX.out 0
          have fX1 := blk_frozen BX.out 1
          have fX2 := blk_frozen BX.out 2
          have cX0 := blk_cell BX.out 0
          have cX1 := blk_cell BX.out 1
          have cX2 := blk_cell BX.out 2
          refine pure_ (i := 0) (N := some 40) (v := ?_) (a' := ?_) #[true, false, false, false, false, false, false, false, false, false, false, false, false, false, false, false] rfl rfl (by kernel_rfl) (fun _ _ _ h => h) (Or.inl ⟨by rfl, ?_⟩) ?_ ?_
          rotate_left
          · intro w'
            go_simp
            with_reducible rfl
          rotate_left
          · simp only [Act.put, List.setIfInBounds_toArray, List.set_cons_zero, List.set_cons_succ, i64_w, i32_w]
            rfl
          refine pure_ (i := 1) (N := some 41) (v := ?_) (a' := ?_) #[true, true, false, false, false, false, false, false, false, false, false, false, false, false, false, false] rfl rfl (by kernel_rfl) (fun _ _ _ h => h) (Or.inl ⟨by rfl, ?_⟩) ?_ ?_
          rotate_left
          · intro w'
            go_simp
            with_reducible rfl
          rotate_left
          · simp only [Act.put, List.setIfInBounds_toArray, List.set_cons_zero, List.set_cons_succ, i64_w, i32_w]
            rfl
          refine pure_ (i := 2) (N := some 42) (v := ?_) (a' := ?_) #[true, true, true, false, false, false, false, false, false, false, false, false, false, false, false, false] rfl rfl (by kernel_rfl) (fun _ _ _ h => h) (Or.inl ⟨by rfl, ?_⟩) ?_ ?_
          rotate_left
          · intro w'
            go_simp
            with_reducible rfl
          rotate_left
          · simp only [Act.put, List.setIfInBounds_toArray, List.set_cons_zero, List.set_cons_succ, i64_w, i32_w]
            rfl
          refine pure_ (i := 3) (N := some 43) (v := ?_) (a' := ?_) #[true, true, true, true, false, false, false, false, false, false, false, false, false, false, false, false] rfl rfl (by kernel_rfl) (fun _ _ _ h => h) (Or.inl ⟨by rfl, ?_⟩) ?_ ?_
          rotate_left
          · intro w'
            go_simp
            with_reducible rfl
          rotate_left
          · simp only [Act.put, List.setIfInBounds_toArray, List.set_cons_zero, List.set_cons_succ, i64_w, i32_w]
            rfl
          refine pure_ (i := 7) (N := some 47) (v := ?_) (a' := ?_) #[true, true, true, true, false, false, false, true, false, false, false, false, false, false, false, false] rfl rfl (by kernel_rfl) (fun _ _ _ h => h) (Or.inl ⟨by rfl, ?_⟩) ?_ ?_
          rotate_left
          · intro w'
            go_simp
            with_reducible rfl
          rotate_left
          · simp only [Act.put, List.setIfInBounds_toArray, List.set_cons_zero, List.set_cons_succ, i64_w, i32_w]
            rfl
          refine pure_ (i := 8) (N := some 48) (v := ?_) (a' := ?_) #[true, true, true, true, false, false, false, true, true, false, false, false, false, false, false, false] rfl rfl (by kernel_rfl) (fun _ _ _ h => h) (Or.inl ⟨by rfl, ?_⟩) ?_ ?_
          rotate_left
          · intro w'
            go_simp
            with_reducible rfl
          rotate_left
          · simp only [Act.put, List.setIfInBounds_toArray, List.set_cons_zero, List.set_cons_succ, i64_w, i32_w]
            rfl
          refine pure_ (i := 9) (N := some 49) (v := ?_) (a' := ?_) #[true, true, true, true, false, false, false, true, true, true, false, false, false, false, false, false] rfl rfl (by kernel_rfl) (fun _ _ _ h => h) (Or.inl ⟨by rfl, ?_⟩) ?_ ?_
          rotate_left
          · intro w'
            go_simp
            with_reducible rfl
          rotate_left
          · simp only [Act.put, List.setIfInBounds_toArray, List.set_cons_zero, List.set_cons_succ, i64_w, i32_w]
            rfl
          refine take_ (i := 4) (N := some 44) (v := ?_) (a' := ?_) #[true, true, true, true, true, false, false, true, true, true, false, false, false, false, false, false] rfl rfl (by kernel_rfl) (fun _ _ _ h => h) (Or.inl ⟨by rfl, ?_⟩) hHeld ?_ ?_
          rotate_left
          · rintro w' ⟨s0, s1, s2, s3⟩
            go_simp
            with_reducible rfl
          rotate_left
          · simp only [Act.put, List.setIfInBounds_toArray, List.set_cons_zero, List.set_cons_succ, i64_w, i32_w]
            rfl
          refine pure_ (i := 5) (N := some 45) (v := ?_) (a' := ?_) #[true, true, true, true, true, true, false, true, true, true, false, false, false, false, false, false] rfl rfl (by kernel_rfl) (fun _ _ _ h => h) (Or.inl ⟨by rfl, ?_⟩) ?_ ?_
          rotate_left
          · intro w'
            go_simp
            with_reducible rfl
          rotate_left
          · simp only [Act.put, List.setIfInBounds_toArray, List.set_cons_zero, List.set_cons_succ, i64_w, i32_w]
            rfl
          refine take_ (i := 6) (N := some 46) (v := ?_) (a' := ?_) #[true, true, true, true, true, true, true, true, true, true, false, false, false, false, false, false] rfl rfl (by kernel_rfl) (fun _ _ _ h => h) (Or.inl ⟨by rfl, ?_⟩) hHeld ?_ ?_
          rotate_left
          · rintro w' ⟨s0, s1, s2, s3⟩
            go_simp
            with_reducible rfl
          rotate_left
          · simp only [Act.put, List.setIfInBounds_toArray, List.set_cons_zero, List.set_cons_succ, i64_w, i32_w]
            rfl
          refine take_ (i := 10) (N := some 50) (v := ?_) (a' := ?_) #[true, true, true, true, true, true, true, true, true, true, true, false, false, false, false, false] rfl rfl (by kernel_rfl) (fun _ _ _ h => h) (Or.inl ⟨by rfl, ?_⟩) hHeld ?_ ?_
          rotate_left
          · rintro w' ⟨s0, s1, s2, s3⟩
            go_simp
            with_reducible rfl
          rotate_left
          · simp only [Act.put, List.setIfInBounds_toArray, List.set_cons_zero, List.set_cons_succ, i64_w, i32_w]
            rfl
          refine pure_ (i := 11) (N := some 51) (v := ?_) (a' := ?_) #[true, true, true, true, true, true, true, true, true, true, true, true, false, false, false, false] rfl rfl (by kernel_rfl) (fun _ _ _ h => h) (Or.inl ⟨by rfl, ?_⟩) ?_ ?_
          rotate_left
          · intro w'
            go_simp
            with_reducible rfl
          rotate_left
          · simp only [Act.put, List.setIfInBounds_toArray, List.set_cons_zero, List.set_cons_succ, i64_w, i32_w]
            rfl
          refine one_ (i := 12) (N := none) #[true, true, true, true, true, true, true, true, true, true, true, true, true, false, false, false] rfl rfl (by kernel_rfl) (by decide) (fun K hK => ?_)
          refine skip_ (w1 := ?_) (by rfl) rfl ?_ ?_
          rotate_left
          · go_simp
            rfl
          have BX2 := Aside0.mk (st3_blk BX.out (.bool x.f0) (.int .i64 x.f1) (.string x.f2))
          have BG2 := Aside0.mk ((st3_far wB hgb (.bool x.f0) (.int .i64 x.f1) (.string x.f2)).trans BG.out)
          have KB2 := Aside0.mk (((BB.out.setCell (p := ⟨w.heap.size, 0, none⟩) (Nat.le_refl _) (.bool x.f0)).setCell (p := ⟨w.heap.size, 1, none⟩) (Nat.le_refl _) (.int .i64 x.f1)).setCell (p := ⟨w.heap.size, 2, none⟩) (Nat.le_refl _) (.string x.f2))
          have KB3 := Aside0.mk (((BB0.out.setCell (p := ⟨w.heap.size, 0, none⟩) hge (.bool x.f0)).setCell (p := ⟨w.heap.size, 1, none⟩) hge (.int .i64 x.f1)).setCell (p := ⟨w.heap.size, 2, none⟩) hge (.string x.f2))
          have sC0 := (st3_cell wB (p := ⟨g, 0, none⟩) hgb (.bool x.f0) (.int .i64 x.f1) (.string x.f2)).trans hHeld.1
          have sC1 := (st3_cell wB (p := ad) hab (.bool x.f0) (.int .i64 x.f1) (.string x.f2)).trans hHeld.2.1
          have sC2 := (st3_cell wB (p := ⟨ad.block, ad.off + 1, none⟩) hab (.bool x.f0) (.int .i64 x.f1) (.string x.f2)).trans hHeld.2.2.1
          have sC3 := (st3_cell wB (p := ⟨ad.block, ad.off + 2, none⟩) hab (.bool x.f0) (.int .i64 x.f1) (.string x.f2)).trans hHeld.2.2.2
          generalize ((wB.setCell ⟨w.heap.size, 0, none⟩ (.bool x.f0)).setCell ⟨w.heap.size, 1, none⟩ (.int .i64 x.f1)).setCell ⟨w.heap.size, 2, none⟩ (.string x.f2) = wC at *
          have fC := blk_frozen BG2.out 0
          refine hK.out _ _ ⟨sC0, sC1, sC2, sC3⟩ (fun hHeld => ?_)
          clear hK K
          refine pure_ (i := 13) (N := some 52) (v := ?_) (a' := ?_) #[true, true, true, true, true, true, true, true, true, true, true, true, true, true, false, false] rfl rfl (by kernel_rfl) (fun _ _ _ h => h) (Or.inl ⟨by rfl, ?_⟩) ?_ ?_
          rotate_left
          · intro w'
            go_simp
            with_reducible rfl
          rotate_left
          · simp only [Act.put, List.setIfInBounds_toArray, List.set_cons_zero, List.set_cons_succ, i64_w, i32_w]
            rfl
          refine pure_ (i := 14) (N := some 53) (v := ?_) (a' := ?_) #[true, true, true, true, true, true, true, true, true, true, true, true, true, true, true, false] rfl rfl (by kernel_rfl) (fun _ _ _ h => h) (Or.inl ⟨by rfl, ?_⟩) ?_ ?_
          rotate_left
          · intro w'
            go_simp
            with_reducible rfl
          rotate_left
          · simp only [Act.put, List.setIfInBounds_toArray, List.set_cons_zero, List.set_cons_succ, i64_w, i32_w]
            rfl
          refine last_ (i := 15) (N := none) #[true, true, true, true, true, true, true, true, true, true, true, true, true, true, true, true] rfl rfl (by kernel_rfl) (by decide) (fun K hK => ?_)
          refine skip_ (w1 := ?_) (by rfl) rfl ?_ ?_
          rotate_left
          · go_simp
            rfl
          refine hK.out _ _ ?_
          clear hK K
          refine done_ (by kernel_rfl) ?_

          have cD0 : wC.cell? ⟨w.heap.size, 0, none⟩ = some (.bool x.f0) := blk_cell BX2.out 0
          have cD1 : wC.cell? ⟨w.heap.size, 1, none⟩ = some (.int .i64 x.f1) := blk_cell BX2.out 1
          have cD2 : wC.cell? ⟨w.heap.size, 2, none⟩ = some (.string x.f2) := blk_cell BX2.out 2
          have fD0 := blk_frozen BX2.out 0
          have fD1 := blk_frozen BX2.out 1
          have fD2 := blk_frozen BX2.out 2
          go_wp2_with (fail)
          obtain ⟨z1, z2, z3, z4⟩ := rd_read (w := w) (w0 := w0) (v0 := .bool x.f0) (v1 := .int .i64 x.f1) (v2 := .string x.f2) BX2.out BG2.out KB2.out KB3.out HG.out hlt hgb (.slice (some ⟨ad.block, ad.off + 3, none⟩) l.length (c - 1))
          generalize ((((wC.setCell ⟨g, 0, none⟩ (.slice (some ⟨ad.block, ad.off + 3, none⟩) l.length (c - 1))).setCell ⟨w.heap.size, 0, none⟩ (.bool x.f0)).setCell ⟨w.heap.size, 1, none⟩ (.int .i64 x.f1)).setCell ⟨w.heap.size, 2, none⟩ (.string x.f2)) = wz at *
          have d0 : wz.cell? ⟨w.heap.size, 0, none⟩ = some (.bool x.f0) := blk_cell z1 0
          have d1 : wz.cell? ⟨w.heap.size, 1, none⟩ = some (.int .i64 x.f1) := blk_cell z1 1
          have d2 : wz.cell? ⟨w.heap.size, 2, none⟩ = some (.string x.f2) := blk_cell z1 2
          refine bodyPost_ret (v := .agg #[.bool x.f0, .int .i64 x.f1, .string x.f2]) (by simp [results, Tryz.results102, go_sem, d0, d1, d2]) rfl ⟨?_, ?_, ?_, ?_⟩
          · simp only [rdX, H3.out, if_true]
          · simp only [rdL, rdO, H3.out, if_true]
            exact ⟨_, _, z2, HG.out, by first | omega | (simp only [List.length_cons] at hc; omega), (by
                have hd := Kd.C_drop (m := 1) (c := c) HC.out (by simp) hc
                rw [if_neg hc1] at hd
                exact hd)⟩
          · exact z3
          · exact z4
    · have h2 : (x.f0 == t) = false := beq_eq_false_iff_ne.2 h1
      have h3 : fldOk t x = false := by unfold fldOk; rw [h2]; rfl
      have H3 := Aside0.mk h3
      clear h1 h3
      go_enter Tryz.func102, Tryz.ntmps102
      go_wp2_with (fail)
      refine bodyPost_ret (v := .agg #[.bool false, .int .i64 0, .string (⟨#[]⟩ : ByteArray)]) (by simp [results, Tryz.results102, go_sem]) rfl ⟨?_, ?_, ?_, ?_⟩
      · simp only [rdX, H3.out]
        rfl
      · simp only [rdL, rdO, H3.out]
        exact ⟨none, 0, blk_alloc (blk_set (blk_set HBK.out 1 (.bool false)) 0 (.slice none 0 0)) _, HG.out, Nat.le_refl _, Kd.C_nil _ _⟩
      · exact rd_keep w g _ _ _
      · exact (((HB.out.setCell HG.out _).setCell HG.out _).alloc (by simpa [World.setCell] using HB.out.size) _)
/-- What a read comes to, of a list and a mark: the value, the list and the mark behind it. -/
def rnum (s : List S136 × Bool) : Int × (List S136 × Bool) := ((rdX false s.1).f1, (rdL false s.1, rdO false s.1 s.2))
def rtxt (s : List S136 × Bool) : ByteArray × (List S136 × Bool) := ((rdX true s.1).f2, (rdL true s.1, rdO true s.1 s.2))
theorem fld_n (a b c : Value) (w : World) : (Instr.field 136 (.agg #[a, b, c]) 1).run Tryz.prog w = .ok b w := by kernel_rfl
theorem fld_s (a b c : Value) (w : World) : (Instr.field 136 (.agg #[a, b, c]) 2).run Tryz.prog w = .ok c w := by kernel_rfl
set_option maxRecDepth 100000 in
set_option maxHeartbeats 1000000 in
theorem op_reader_num.calls (g : Nat) (s : List S136 × Bool) (w0 w : World) (hI : Rd w0 w g s.1 s.2) (hB : Below w0.heap.size w0 w) :
    Calls Tryz.prog 92 #[.pointer (some ⟨g, 0, none⟩)] w fun e w' => e = .returned (.int .i64 (rnum s).1) ∧ Rd w0 w' g (rnum s).2.1 (rnum s).2.2 ∧ KeepBut w w' g none ∧ Below w0.heap.size w0 w' := by
  have hu := Tryz.underlying136
  have HP := Aside0.mk (op_reader_field.calls g s.1 s.2 false w0 w hI hB)
  clear hI hB
  show Calls _ _ _ w fun e w' => e = .returned (.int .i64 (rdX false s.1).f1) ∧ Rd w0 w' g (rdL false s.1) (rdO false s.1 s.2) ∧ KeepBut w w' g none ∧ Below w0.heap.size w0 w'
  generalize rdX false s.1 = X at *
  generalize rdL false s.1 = Y at *
  generalize rdO false s.1 s.2 = Z at *
  go_enter Tryz.func92, Tryz.ntmps92
  go_wp2_with (fail)
  refine HP.out.mono ?_
  rintro e w' ⟨rfl, h1, h2, h3⟩
  have H1 := Aside0.mk h1
  have H2 := Aside0.mk h2
  have H3 := Aside0.mk h3
  clear h1 h2 h3
  have hf1 := fld_n
  have hf2 := fld_s
  go_wp2
  go_ret
  exact ⟨rfl, H1.out, H2.out, H3.out⟩
set_option maxRecDepth 100000 in
set_option maxHeartbeats 1000000 in
theorem op_reader_text.calls (g : Nat) (s : List S136 × Bool) (w0 w : World) (hI : Rd w0 w g s.1 s.2) (hB : Below w0.heap.size w0 w) :
    Calls Tryz.prog 93 #[.pointer (some ⟨g, 0, none⟩)] w fun e w' => e = .returned (.string (rtxt s).1) ∧ Rd w0 w' g (rtxt s).2.1 (rtxt s).2.2 ∧ KeepBut w w' g none ∧ Below w0.heap.size w0 w' := by
  have hu := Tryz.underlying136
  have HP := Aside0.mk (op_reader_field.calls g s.1 s.2 true w0 w hI hB)
  clear hI hB
  show Calls _ _ _ w fun e w' => e = .returned (.string (rdX true s.1).f2) ∧ Rd w0 w' g (rdL true s.1) (rdO true s.1 s.2) ∧ KeepBut w w' g none ∧ Below w0.heap.size w0 w'
  generalize rdX true s.1 = X at *
  generalize rdL true s.1 = Y at *
  generalize rdO true s.1 s.2 = Z at *
  go_enter Tryz.func93, Tryz.ntmps93
  go_wp2_with (fail)
  refine HP.out.mono ?_
  rintro e w' ⟨rfl, h1, h2, h3⟩
  have H1 := Aside0.mk h1
  have H2 := Aside0.mk h2
  have H3 := Aside0.mk h3
  clear h1 h2 h3
  have hf1 := fld_n
  have hf2 := fld_s
  go_wp2
  go_ret
  exact ⟨rfl, H1.out, H2.out, H3.out⟩
/-- Was all read? -/
def rwhole (s : List S136 × Bool) : Bool := s.2 && s.1.isEmpty
theorem op_reader_whole.calls2 (g : Nat) (s : List S136 × Bool) (w0 w : World) (hI : Rd w0 w g s.1 s.2) :
    Calls Tryz.prog 94 #[.pointer (some ⟨g, 0, none⟩)] w fun e w' => e = .returned (.bool (rwhole s)) ∧ w = w' := by
  obtain ⟨l, ok⟩ := s
  obtain ⟨A, c, hb, hg, hc, hC⟩ := hI
  have c0 : w.cell? ⟨g, 0, none⟩ = some (.slice A l.length c) := blk_cell hb 0
  have c1 : w.cell? ⟨g, 1, none⟩ = some (.bool ok) := blk_cell hb 1
  have hm : l.length ≤ 9223372036854775807 := hC.2.1
  clear hb hg hC hc
  cases ok
  · go_enter Tryz.func94, Tryz.ntmps94
    go_wp2
    go_ret
    exact ⟨rfl, rfl⟩
  · cases l with
    | nil =>
      simp only [List.length_nil] at c0
      go_enter Tryz.func94, Tryz.ntmps94
      go_wp2
      go_ret
      exact ⟨rfl, rfl⟩
    | cons x l =>
      simp only [List.length_cons] at c0 hm
      have q0 : ((l.length : Int) + 1 == 0) = false := beq_eq_false_iff_ne.2 (by omega)
      go_enter Tryz.func94, Tryz.ntmps94
      go_wp2
      go_ret
      exact ⟨rfl, rfl⟩

end Go.Proofs.YtdfdlajfjcakaaaGreat.PAll
