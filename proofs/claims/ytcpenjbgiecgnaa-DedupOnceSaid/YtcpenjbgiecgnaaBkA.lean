import Derived.Test.YtcpenjbgiecgnaaOQueue
import Derived.Test.YtcpenjbgiecgnaaOMap
import Derived.WalkSpells
import Derived.Test.YtcpenjbgiecgnaaQA
namespace Go.Proofs.Ytcpenjbgiecgnaa
open Go Go.RowKit
open Go.Proofs.YtcpenjbgiecgnaaW.PrintLast
set_option linter.unusedVariables false
set_option linter.unusedSimpArgs false

theorem pw_drewN {B : Nat} {a w : World} (h : Below B a w) (n : Nat) : Below B a (w.drewN n) := ⟨h.os, h.tape, h.output, h.size, h.block⟩
theorem below_next {a b c : World} (h : Below a.heap.size a b) (k : Below b.heap.size b c) : Below a.heap.size a c := h.trans (k.mono h.size)
theorem ret_int {k : IntKind} {a b : Int} (h : a = b) : Ending.returned (.int k a) = .returned (.int k b) := by rw [h]
theorem ret_bool {a b : Bool} (h : a = b) : Ending.returned (.bool a) = .returned (.bool b) := by rw [h]
/-! Replies of one result without rows. -/
def RC (x : Int × Option Addr × Nat) : List Value := [.int .i64 0, .int .i64 x.1, .string ⟨#[]⟩, .slice x.2.1 0 x.2.2]
theorem info_res : (Try.prog.info? 59).map (fun i => (i.zero, i.size, i.bytes)) = some (some (.agg #[.int .i64 0, .int .i64 0, .string ⟨#[]⟩, .slice none 0 0]), 4, 56) := by kernel_rfl
theorem one_res : ∀ (x : Int × Option Addr × Nat), ∀ u ∈ RC x, u.oneCell' = true := by
  intro x u hu
  simp [RC] at hu
  rcases hu with rfl | rfl | rfl | rfl <;> rfl
def One (w : World) (rv : Value) (n : Int) : Prop := ∃ A c, Row w 59 4 RC rv [(n, A, c)]
theorem One.form {w : World} {rv : Value} {n : Int} (h : One w rv n) : ∃ g c, rv = .slice (some ⟨g, 0, none⟩) 1 c ∧ g < w.heap.size ∧ 1 ≤ c := by
  obtain ⟨A, c0, h⟩ := h
  obtain ⟨g, c, hv, hg, hc⟩ := Row.form h (by simp)
  exact ⟨g, c, hv, hg, hc⟩
theorem row_cells {w : World} {g n' c c4 : Nat} {A4 : Option Addr} {n : Int} (h : Row w 59 4 RC (.slice (some ⟨g, 0, none⟩) n' c) [(n, A4, c4)]) : w.cell? ⟨g, 0, none⟩ = some (.int .i64 0) ∧ w.cell? ⟨g, 1, none⟩ = some (.int .i64 n) ∧ w.cell? ⟨g, 2, none⟩ = some (.string ⟨#[]⟩) ∧ w.cell? ⟨g, 3, none⟩ = some (.slice A4 0 c4) := by
  have a0 := Row.cell h (fun _ => rfl) 0 0 (by simp) (by omega)
  have a1 := Row.cell h (fun _ => rfl) 0 1 (by simp) (by omega)
  have a2 := Row.cell h (fun _ => rfl) 0 2 (by simp) (by omega)
  have a3 := Row.cell h (fun _ => rfl) 0 3 (by simp) (by omega)
  exact ⟨by simpa [RC] using a0, by simpa [RC] using a1, by simpa [RC] using a2, by simpa [RC] using a3⟩
theorem One.kept {w w' : World} {S : Nat → Prop} {v : Value} {n : Int} (h : One w v n) (hk : Kept w w' S) (hS : ∀ k, v.ownBlock = some k → ¬ S k) : One w' v n := by
  obtain ⟨A, c, h⟩ := h
  exact ⟨A, c, Row.kept h hk hS⟩
theorem One.alloc {w : World} {v : Value} {n : Int} (h : One w v n) (o : Obj) : One (w.alloc o) v n := by
  obtain ⟨A, c, h⟩ := h
  exact ⟨A, c, Row.alloc h o⟩
theorem clone_rows (A : Option Addr) (c : Nat) (w : World) :
    Calls Try.prog 27 #[.slice A 0 c] w fun e w' => ∃ A' c', e = .returned (.slice A' 0 c') ∧ Below w.heap.size w w' := by
  have he := fun (w : World) (n c : Nat) => Lib.run_eql_slice_nil (P := Try.prog) w 57 76 A n c 0 0 Try.underlying57
  cases A with
  | none =>
    go_enter Try.func27, Try.ntmps27
    go_wp2
    go_ret
    exact ⟨none, 0, rfl, Below.refl _ _⟩
  | some a =>
    go_enter Try.func27, Try.ntmps27
    go_wp2
    go_ret
    exact ⟨_, _, rfl, (Below.refl _ _).alloc (Nat.le_refl _) _⟩
set_option maxHeartbeats 4000000 in
theorem clone_res (rv : Value) (n : Int) (w : World) (h : One w rv n) :
    Calls Try.prog 26 #[rv] w fun e w' => ∃ v', e = .returned v' ∧ One w' v' n ∧ Below w.heap.size w w' ∧ ∀ k, v'.ownBlock = some k → w.heap.size ≤ k := by
  obtain ⟨g, c, rfl, hgl, hc⟩ := h.form
  obtain ⟨A4, c4, h⟩ := h
  have he := fun (w : World) (n c : Nat) => Lib.run_eql_slice_nil (P := Try.prog) w 34 59 (some ⟨g, 0, none⟩) n c 0 0 Try.underlying34
  have hn := Lib.hid ((Row.alloc h (.cells #[] 59)).news)
  have hm := Lib.hid (Row.empty w 59 4 RC)
  clear h
  go_enter Try.func26, Try.ntmps26
  go_wp2_with (first
    | (refine Row.append_list (by rfl) (.tmp 5) (.tmp 6) 34 59 (.agg #[.int .i64 0, .int .i64 0, .string ⟨#[]⟩, .slice none 0 0]) 4 56 (by rfl) Try.underlying34 info_res rfl (by decide) (by decide) (.slice (some ⟨w.heap.size, 0, none⟩) 0 0) [] [(n, A4, c4)] (by rfl) ⟨g, 0, none⟩ 1 c (by rfl) hm.out rfl (fun _ => rfl) hn.out one_res (by simp) ?_
       intro v1 w1 hR hg hat
       have HR := Lib.hid hR
       have HG := Lib.hid hg
       have HA := Lib.hid hat
       clear hR hg hat)
    | fail)
  go_wp2
  go_ret
  exact ⟨_, rfl, ⟨A4, c4, by have := HR.out; rw [List.nil_append] at this; exact this⟩, ((Below.refl _ _).alloc (Nat.le_refl _) _).grown HG.out (by simp) (fun k hk => by simp [Value.ownBlock] at hk; omega), fun k (hk : v1.ownBlock = some k) => by
    rcases HA.out with h | h
    · rw [h] at hk; simp [Value.ownBlock] at hk; omega
    · rw [h] at hk; simp at hk; omega⟩
theorem set5 {w : World} {b ty : Nat} {a0 a1 a2 a3 a4 : Value} (h : Blk w b ty #[a0, a1, a2, a3, a4]) (x0 x1 x2 x3 x4 : Value) :
    Blk (((((w.setCell ⟨b, 0, none⟩ x0).setCell ⟨b, 1, none⟩ x1).setCell ⟨b, 2, none⟩ x2).setCell ⟨b, 3, none⟩ x3).setCell ⟨b, 4, none⟩ x4) b ty #[x0, x1, x2, x3, x4] ∧
    Kept w (((((w.setCell ⟨b, 0, none⟩ x0).setCell ⟨b, 1, none⟩ x1).setCell ⟨b, 2, none⟩ x2).setCell ⟨b, 3, none⟩ x3).setCell ⟨b, 4, none⟩ x4) (fun k => k = b) := by
  refine ⟨?_, (((((Kept.refl w fun k => k = b).setCell (p := ⟨b, 0, none⟩) (.inl rfl) x0).setCell (p := ⟨b, 1, none⟩) (.inl rfl) x1).setCell (p := ⟨b, 2, none⟩) (.inl rfl) x2).setCell (p := ⟨b, 3, none⟩) (.inl rfl) x3).setCell (p := ⟨b, 4, none⟩) (.inl rfl) x4⟩
  have := ((((h.set_ 0 x0).set_ 1 x1).set_ 2 x2).set_ 3 x3).set_ 4 x4
  simpa using this
set_option maxRecDepth 100000 in
set_option maxHeartbeats 4000000 in
theorem copied_calls (c n : Int) (rv : Value) (w : World) (h : One w rv n) :
    Calls Try.prog 17 #[.agg #[.int .i64 c, .int .i64 n, rv, .int .i64 0, .int .i64 0]] w fun e w' => ∃ v', e = .returned (.agg #[.int .i64 c, .int .i64 n, v', .int .i64 0, .int .i64 0]) ∧ One w' v' n ∧ Below w.heap.size w w' ∧ ∀ k, v'.ownBlock = some k → w.heap.size ≤ k := by
  obtain ⟨g, cp, rfl, hgl, hcp⟩ := h.form
  have HX := Lib.hid ((Blk.new w 38 #[.int .i64 c, .int .i64 n, .slice (some ⟨g, 0, none⟩) 1 cp, .int .i64 0, .int .i64 0]).alloc (.cells #[.int .i64 0, .int .i64 0, .slice none 0 0, .int .i64 0, .int .i64 0] 38))
  have HY := Lib.hid (show Blk _ (w.heap.size + 1) 38 _ from by have := Blk.new (w.alloc (.cells #[.int .i64 c, .int .i64 n, .slice (some ⟨g, 0, none⟩) 1 cp, .int .i64 0, .int .i64 0] 38)) 38 #[.int .i64 0, .int .i64 0, .slice none 0 0, .int .i64 0, .int .i64 0]; rw [World.size_alloc] at this; exact this)
  have H1 := Lib.hid ((One.alloc h (.cells #[.int .i64 c, .int .i64 n, .slice (some ⟨g, 0, none⟩) 1 cp, .int .i64 0, .int .i64 0] 38)).alloc (.cells #[.int .i64 0, .int .i64 0, .slice none 0 0, .int .i64 0, .int .i64 0] 38))
  have HB := Lib.hid (((Below.refl w.heap.size w).alloc (Nat.le_refl _) (.cells #[.int .i64 c, .int .i64 n, .slice (some ⟨g, 0, none⟩) 1 cp, .int .i64 0, .int .i64 0] 38)).alloc (by simp) (.cells #[.int .i64 0, .int .i64 0, .slice none 0 0, .int .i64 0, .int .i64 0] 38))
  have hsz : ((w.alloc (.cells #[.int .i64 c, .int .i64 n, .slice (some ⟨g, 0, none⟩) 1 cp, .int .i64 0, .int .i64 0] 38)).alloc (.cells #[.int .i64 0, .int .i64 0, .slice none 0 0, .int .i64 0, .int .i64 0] 38)).heap.size = w.heap.size + 2 := by simp
  clear h
  go_enter Try.func17, Try.ntmps17
  have hcl := clone_res (.slice (some ⟨g, 0, none⟩) 1 cp) n _ H1.out
  go_wp2_with (fail)
  generalize ((w.alloc (.cells #[.int .i64 c, .int .i64 n, .slice (some ⟨g, 0, none⟩) 1 cp, .int .i64 0, .int .i64 0] 38)).alloc (.cells #[.int .i64 0, .int .i64 0, .slice none 0 0, .int .i64 0, .int .i64 0] 38)) = wa at *
  refine hcl.mono ?_
  rintro e w2 ⟨v2, rfl, h2, hb2, hf2⟩
  obtain ⟨g2, c2, rfl, hg2l, hc2⟩ := One.form h2
  have hg2 : wa.heap.size ≤ g2 := hf2 g2 (by simp [Value.ownBlock])
  have HX2 := Lib.hid (HX.out.kept (Kept.of_below hb2 fun _ => False) (fun h => h))
  have hY : Blk wa (w.heap.size + 1) 38 #[.int .i64 0, .int .i64 0, .slice none 0 0, .int .i64 0, .int .i64 0] := HY.out
  have HY2 := Lib.hid (hY.kept (Kept.of_below hb2 fun _ => False) (fun h => h))
  have HB2 := Lib.hid (HB.out.trans (hb2.mono HB.out.size))
  have H2 := Lib.hid h2
  clear hcl h2 hb2 hf2 hY HX HY HB H1
  have x2 := HX2.out.cell 2
  have z2 := HX2.out.frozen 2
  have hxl := HX2.out.lt
  have HX3 := Lib.hid (HX2.out.set_ 2 (.slice (some ⟨g2, 0, none⟩) 1 c2))
  have hk3 := (Kept.refl w2 fun k => k = w.heap.size).setCell (p := ⟨w.heap.size, 2, none⟩) (.inl rfl) (.slice (some ⟨g2, 0, none⟩) 1 c2)
  have H3 := Lib.hid (show One _ (.slice (some ⟨g2, 0, none⟩) 1 c2) n from One.kept H2.out hk3 (fun k e => by simp [Value.ownBlock] at e; omega))
  have HY3 := Lib.hid (HY2.out.kept hk3 (by omega))
  have HB3 := Lib.hid (HB2.out.setCell (p := ⟨w.heap.size, 2, none⟩) (Nat.le_refl _) (.slice (some ⟨g2, 0, none⟩) 1 c2))
  clear hk3
  have c2x := HX3.out.cell 2
  go_wp2_with (fail)
  generalize hw3 : w2.setCell ⟨w.heap.size, 2, none⟩ (.slice (some ⟨g2, 0, none⟩) 1 c2) = w3 at *
  have hs3 : w3.heap.size = w2.heap.size := by rw [← hw3]; simp [World.setCell]
  clear hw3 x2 z2 HX2 HY2 HB2 H2
  go_loopg [3, 4, 12] 1 (fun gg _ _ s12 wr => ∃ (k : Nat), k ≤ 1 ∧ 1 - k ≤ gg ∧ s12 = .int .i64 k ∧ Hid (Kept w3 wr (fun k => k = g2)) ∧ Hid (One wr (.slice (some ⟨g2, 0, none⟩) 1 c2) n))
  case atStart => exact ⟨0, Nat.zero_le _, by omega, by go_num, Lib.hid (Kept.refl _ _), H3⟩
  case round =>
    obtain ⟨k, hk, hgg, rfl, HK, HO⟩ := hrel
    have HXr := HX3.out.kept HK.out (by omega)
    have k2' := HXr.cell 2
    have hxr := HXr.lt
    by_cases hlt : k < 1
    · obtain rfl : k = 0 := by omega
      obtain ⟨A4, c4, ho⟩ := HO.out
      obtain ⟨a0, a1, a2, a3⟩ := row_cells ho
      have hgr : g2 < wr.heap.size := Row.lt ho (by simp [Value.ownBlock])
      have HBX := Lib.hid (Blk.new wr 59 #[.int .i64 0, .int .i64 n, .string ⟨#[]⟩, .slice A4 0 c4])
      have HOA := Lib.hid (Row.alloc ho (.cells #[.int .i64 0, .int .i64 n, .string ⟨#[]⟩, .slice A4 0 c4] 59))
      have HXA := Lib.hid (HXr.alloc (.cells #[.int .i64 0, .int .i64 n, .string ⟨#[]⟩, .slice A4 0 c4] 59))
      have HKA := Lib.hid (HK.out.alloc (.cells #[.int .i64 0, .int .i64 n, .string ⟨#[]⟩, .slice A4 0 c4] 59))
      clear HXr
      go_wp2_with (fail)
      generalize wr.alloc (.cells #[.int .i64 0, .int .i64 n, .string ⟨#[]⟩, .slice A4 0 c4] 59) = wb at *
      have b3 := HBX.out.cell 3
      have k2 := HXA.out.cell 2
      obtain ⟨d0, d1, d2, d3⟩ := row_cells HOA.out
      have f3 := Row.frozen HOA.out 3
      have hgb : g2 < wb.heap.size := Row.lt HOA.out (by simp [Value.ownBlock])
      clear a0 a1 a2 a3 d0 d1 d2 ho
      refine start_ (n := 9) (S := fun w' => w'.cell? ⟨w.heap.size, 2, none⟩ = some (.slice (some ⟨g2, 0, none⟩) 1 c2) ∧ w'.cell? ⟨wr.heap.size, 3, none⟩ = some (.slice A4 0 c4)) (ds := [8]) #[false, false, false, false, false, false, false, false, false] (by kernel_rfl) rfl rfl ⟨k2, b3⟩ (fun hHeld => ?_)
      refine pure_ (i := 0) (N := some 17) (v := ?_) (a' := ?_) #[true, false, false, false, false, false, false, false, false] rfl rfl (by kernel_rfl) (fun _ _ _ h => h) (Or.inl ⟨by rfl, ?_⟩) ?_ ?_
      rotate_left
      · intro w'
        go_simp
        with_reducible rfl
      rotate_left
      · simp only [Act.put, List.setIfInBounds_toArray, List.set_cons_zero, List.set_cons_succ, i64_w, i32_w]
        rfl
      refine pure_ (i := 2) (N := some 19) (v := ?_) (a' := ?_) #[true, false, true, false, false, false, false, false, false] rfl rfl (by kernel_rfl) (fun _ _ _ h => h) (Or.inl ⟨by rfl, ?_⟩) ?_ ?_
      rotate_left
      · intro w'
        go_simp
        with_reducible rfl
      rotate_left
      · simp only [Act.put, List.setIfInBounds_toArray, List.set_cons_zero, List.set_cons_succ, i64_w, i32_w]
        rfl
      refine pure_ (i := 3) (N := some 20) (v := ?_) (a' := ?_) #[true, false, true, true, false, false, false, false, false] rfl rfl (by kernel_rfl) (fun _ _ _ h => h) (Or.inl ⟨by rfl, ?_⟩) ?_ ?_
      rotate_left
      · intro w'
        go_simp
        with_reducible rfl
      rotate_left
      · simp only [Act.put, List.setIfInBounds_toArray, List.set_cons_zero, List.set_cons_succ, i64_w, i32_w]
        rfl
      refine take_ (i := 1) (N := some 18) (v := ?_) (a' := ?_) #[true, true, true, true, false, false, false, false, false] rfl rfl (by kernel_rfl) (fun _ _ _ h => h) (Or.inl ⟨by rfl, ?_⟩) hHeld ?_ ?_
      rotate_left
      · rintro w' ⟨s0, s1⟩
        go_simp
        with_reducible rfl
      rotate_left
      · simp only [Act.put, List.setIfInBounds_toArray, List.set_cons_zero, List.set_cons_succ, i64_w, i32_w]
        rfl
      refine take_ (i := 4) (N := some 21) (v := ?_) (a' := ?_) #[true, true, true, true, true, false, false, false, false] rfl rfl (by kernel_rfl) (fun _ _ _ h => h) (Or.inl ⟨by rfl, ?_⟩) hHeld ?_ ?_
      rotate_left
      · rintro w' ⟨s0, s1⟩
        go_simp
        with_reducible rfl
      rotate_left
      · simp only [Act.put, List.setIfInBounds_toArray, List.set_cons_zero, List.set_cons_succ, i64_w, i32_w]
        rfl
      refine one_ (i := 5) (N := some 22) #[true, true, true, true, true, true, false, false, false] rfl rfl (by kernel_rfl) (by decide) (fun K hK => ?_)
      refine goes_ Try.func27 (by kernel_rfl) rfl #[.slice A4 0 c4] (by rfl) rfl rfl (by simp only [List.map_toArray, List.map_cons, List.map_nil]; rfl) ?_
      with_reducible refine (clone_rows A4 c4 _).mono ?_
      rintro e w7 ⟨A7, c7, rfl, hb7⟩
      have HK7 := Lib.hid ((Kept.refl wb fun _ => False).drew.trans (Kept.of_below hb7 fun _ => False))
      have k27 := (HXA.out.kept HK7.out (fun h => h)).cell 2
      have b37 := (HBX.out.kept HK7.out (fun h => h)).cell 3
      have hgb7 : g2 < w7.heap.size := Nat.lt_of_lt_of_le hgb HK7.out.size
      have f37 := Row.frozen (Row.kept HOA.out HK7.out (fun _ _ h => h)) 3
      have d37 := (row_cells (Row.kept HOA.out HK7.out (fun _ _ h => h))).2.2.2
      clear hb7
      refine ⟨_, rfl, ?_⟩
      refine hK.out _ _ ⟨k27, b37⟩ (fun hHeld => ?_)
      clear hK K
      refine norm_ (a' := ?_) ?_ ?_
      rotate_left
      · show Act.put _ (some 22) _ = _
        simp only [Act.put, List.setIfInBounds_toArray, List.set_cons_zero, List.set_cons_succ, i64_w, i32_w]
        rfl
      refine pure_ (i := 6) (N := some 23) (v := ?_) (a' := ?_) #[true, true, true, true, true, true, true, false, false] rfl rfl (by kernel_rfl) (fun _ _ _ h => h) (Or.inl ⟨by rfl, ?_⟩) ?_ ?_
      rotate_left
      · intro w'
        go_simp
        with_reducible rfl
      rotate_left
      · simp only [Act.put, List.setIfInBounds_toArray, List.set_cons_zero, List.set_cons_succ, i64_w, i32_w]
        rfl
      refine pure_ (i := 7) (N := some 24) (v := ?_) (a' := ?_) #[true, true, true, true, true, true, true, true, false] rfl rfl (by kernel_rfl) (fun _ _ _ h => h) (Or.inl ⟨by rfl, ?_⟩) ?_ ?_
      rotate_left
      · intro w'
        go_simp
        with_reducible rfl
      rotate_left
      · simp only [Act.put, List.setIfInBounds_toArray, List.set_cons_zero, List.set_cons_succ, i64_w, i32_w]
        rfl
      refine last_ (i := 8) (N := none) #[true, true, true, true, true, true, true, true, true] rfl rfl (by kernel_rfl) (by decide) (fun K hK => ?_)
      refine skip_ (w1 := ?_) (by rfl) rfl ?_ ?_
      rotate_left
      · go_simp
        rfl
      refine hK.out _ _ ?_
      clear hK K
      refine done_ (by kernel_rfl) ?_
      have HO9 := Lib.hid (show One (w7.setCell ⟨g2, 3, none⟩ (.slice A7 0 c7)) (.slice (some ⟨g2, 0, none⟩) 1 c2) n from by
        have := Row.set_one (Row.kept HOA.out HK7.out (fun _ _ h => h)) (fun _ => rfl) 0 3 (n, A7, c7) (.slice A7 0 c7) (by simp) (by decide) rfl
        exact ⟨A7, c7, this⟩)
      have HK9 := Lib.hid ((HKA.out.then_ HK7.out (fun _ h => h.elim)).setCell (p := ⟨g2, 3, none⟩) (.inl rfl) (.slice A7 0 c7))
      go_wp2
      go_roundg (1 - 1)
      case measure => omega
      case rel => exact ⟨1, Nat.le_refl _, by omega, by go_num, HK9, HO9⟩
    · obtain rfl : k = 1 := by omega
      have HYr := Lib.hid (HY3.out.kept HK.out (by omega))
      have q0 := HXr.cell 0
      have q1 := HXr.cell 1
      have q3 := HXr.cell 3
      have q4 := HXr.cell 4
      have p0 := HYr.out.frozen 0
      have p1 := HYr.out.frozen 1
      have p2 := HYr.out.frozen 2
      have p3 := HYr.out.frozen 3
      have p4 := HYr.out.frozen 4
      have r0 := HYr.out.cell 0
      have r1 := HYr.out.cell 1
      have r2 := HYr.out.cell 2
      have r3 := HYr.out.cell 3
      have r4 := HYr.out.cell 4
      have hyl := HYr.out.lt
      go_wp2
      have h5 := set5 HYr.out (.int .i64 c) (.int .i64 n) (.slice (some ⟨g2, 0, none⟩) 1 c2) (.int .i64 0) (.int .i64 0)
      have HB := Lib.hid (HB3.out.trans (HK.out.below (by omega) (fun k hk => by omega)))
      have HO5 := Lib.hid (One.kept HO.out h5.2 (fun k e => by simp [Value.ownBlock] at e; omega))
      generalize (((((wr.setCell ⟨w.heap.size + 1, 0, none⟩ (.int .i64 c)).setCell ⟨w.heap.size + 1, 1, none⟩ (.int .i64 n)).setCell ⟨w.heap.size + 1, 2, none⟩ (.slice (some ⟨g2, 0, none⟩) 1 c2)).setCell ⟨w.heap.size + 1, 3, none⟩ (.int .i64 0)).setCell ⟨w.heap.size + 1, 4, none⟩ (.int .i64 0)) = W5 at h5 HO5 ⊢
      have g0 := h5.1.cell 0
      have g1 := h5.1.cell 1
      have g3 := h5.1.cell 2
      have g4 := h5.1.cell 3
      have g5 := h5.1.cell 4
      refine bodyPost_ret (v := .agg #[.int .i64 c, .int .i64 n, .slice (some ⟨g2, 0, none⟩) 1 c2, .int .i64 0, .int .i64 0]) ?_ rfl ⟨_, rfl, HO5.out, HB.out.trans (h5.2.below (by omega) (fun k hk => by omega)), fun k e => by simp [Value.ownBlock] at e; omega⟩
      simp [results, Try.results17, go_sem, g0, g1, g3, g4, g5]
end Go.Proofs.Ytcpenjbgiecgnaa
