import Derived.Test.YtaaeiljeanfinaaNetX
namespace Go.Proofs.Ytaaeiljeanfinaa
open Go Go.RowKit
set_option linter.unusedVariables false
set_option linter.unusedSimpArgs false

theorem set4 (g k m c : Nat) (dk : List Letter) (hk : k < dk.length) : ∀ W : World, Row W 38 4 Letter.cells (.slice (some ⟨g, 0, none⟩) m c) dk →
    Row ((((W.setCell ⟨g, k * 4, none⟩ (.int .i64 (-7))).setCell ⟨g, k * 4 + 1, none⟩ (.int .i64 0)).setCell ⟨g, k * 4 + 2, none⟩ (.int .i64 0)).setCell ⟨g, k * 4 + 3, none⟩ (.string ⟨#[]⟩)) 38 4 Letter.cells (.slice (some ⟨g, 0, none⟩) m c) (dk.set k ⟨-7, 0, 0, ⟨#[]⟩⟩) := by
  intro W hW
  rw [setCells_four]
  exact (hW.set_ (fun _ => rfl) one_letter k ⟨-7, 0, 0, ⟨#[]⟩⟩ hk).1
set_option maxHeartbeats 2000000 in
set_option maxRecDepth 1000000 in
theorem same_walk (B : Nat) (w0 w : World) (F G : Nat → Prop) (g h n : Nat) (s : NetS) (r : RefS) (hB : BothF B w0 w F G g h s r) (hS : Same n s r) :
    Calls Try.prog 22 #[.pointer (some ⟨g, 0, none⟩), .pointer (some ⟨h, 0, none⟩)] w fun e w' => e = .returned (.bool true) ∧ Below w.heap.size w w' := by
  have HB := Lib.hid hB
  have HS := Lib.hid hS
  have hlet := net_letters F g s w hB.net (by have := hS.len; omega)
  obtain ⟨vl, vc, bs, N, hb0, r1, r2, r3, hg', f1, f2⟩ := hB.ref
  have hhl := hb0.lt
  have hc1 := hb0.cell 1
  obtain ⟨A, c, rfl⟩ := r1.shape
  have R1 := Lib.hid r1
  obtain ⟨l, hl⟩ : ∃ l, l = s.l := ⟨_, rfl⟩
  have hrl : r.l = l := by rw [hl]; exact hS.l.symm
  rw [hrl] at R1 hc1
  rw [← hl] at hlet
  have hll : l.length ≤ 4096 := by rw [hl]; exact hS.len
  obtain ⟨m, hm⟩ : ∃ m, l.length = m := ⟨_, rfl⟩
  have HM := Lib.hid hm
  rw [hm] at hll hc1 R1
  clear hB hS hb0 r1 r2 r3 hrl hl hm
  go_enter Try.func22, Try.ntmps22
  go_wp2_with (fail)
  refine hlet.mono ?_
  rintro e w1 ⟨v, rfl, hr, hb', hn⟩
  obtain ⟨A1, c1, rfl⟩ := hr.shape_n HM.out
  have HR := Lib.hid hr
  have HN := Lib.hid hn
  have HW1 := Lib.hid hb'
  have hcw : w1.cell? ⟨h, 1, none⟩ = _ := (hb'.cell (p := ⟨h, 1, none⟩) hhl).trans hc1
  clear hr hn hb' hlet
  go_wp2
  go_loopg [6] m (fun gg s6 wr => ∃ (k : Nat) (dk : List Letter), k ≤ m ∧ m - k ≤ gg ∧ s6 = .int .i64 k ∧ Hid (Row wr 38 4 Letter.cells (.slice A1 m c1) dk) ∧ Hid (dk.drop k = l.drop k ∧ dk.length = m) ∧ Hid (Below w.heap.size w wr))
  case atStart => exact ⟨0, l, Nat.zero_le _, by omega, rfl, HR, Lib.hid ⟨rfl, HM.out⟩, HW1⟩
  case round =>
    obtain ⟨k, dk, hk, hg, rfl, HRr, HD, HW⟩ := hrel
    by_cases hlt : k < m
    · have hltz : (k : Int) < (m : Int) := by omega
      have h0z : (0 : Int) ≤ (k : Int) := by omega
      have hkd : k < dk.length := by rw [HD.out.2]; exact hlt
      have hkl : k < l.length := by rw [HM.out]; exact hlt
      have hx : dk[k] = l[k] := by
        have := HD.out.1
        rw [List.drop_eq_getElem_cons hkd, List.drop_eq_getElem_cons hkl] at this
        injection this
      obtain ⟨gb, c2, hv, hgl, hcl⟩ := HRr.out.form (by omega)
      injection hv with hA hm2 hc
      subst hA hc
      have r1 := R1.out.kept (Kept.of_below HW.out fun _ => False) (fun _ _ h => h)
      obtain ⟨gr, c3, hv3, hgl3, hcl3⟩ := r1.form (by omega)
      injection hv3 with hA3 hm3 hc3
      subst hA3 hc3
      clear hm2 hm3
      have c0 := HRr.out.cell (fun _ => rfl) k 0 hkd (by omega)
      have c1' := HRr.out.cell (fun _ => rfl) k 1 hkd (by omega)
      have c2' := HRr.out.cell (fun _ => rfl) k 2 hkd (by omega)
      have c3' := HRr.out.cell (fun _ => rfl) k 3 hkd (by omega)
      have d0 := r1.cell (fun _ => rfl) k 0 hkl (by omega)
      have d1 := r1.cell (fun _ => rfl) k 1 hkl (by omega)
      have d2 := r1.cell (fun _ => rfl) k 2 hkl (by omega)
      have d3 := r1.cell (fun _ => rfl) k 3 hkl (by omega)
      rw [hx] at c0 c1' c2' c3'
      have hHW : wr.cell? ⟨h, 1, none⟩ = _ := (HW.out.cell (p := ⟨h, 1, none⟩) hhl).trans hc1
      have hset := Lib.hid (set4 gb k m c1 dk hkd)
      have hd2 := Lib.hid (show (dk.set k ⟨-7, 0, 0, ⟨#[]⟩⟩).drop (k + 1) = l.drop (k + 1) ∧ (dk.set k ⟨-7, 0, 0, ⟨#[]⟩⟩).length = m from ⟨by rw [List.drop_set_of_lt (by omega), ← List.drop_drop, HD.out.1, List.drop_drop], by rw [List.length_set]; exact HD.out.2⟩)
      have hgbl := Lib.hid (show w.heap.size ≤ gb from HN.out gb rfl)
      generalize l[k] = x at c0 c1' c2' c3' d0 d1 d2 d3
      simp only [Letter.cells, List.getElem?_cons_zero, List.getElem?_cons_succ, Nat.add_zero, Nat.mul_one] at c0 c1' c2' c3' d0 d1 d2 d3
      have hbb : (x.body.toList == x.body.toList) = true := by simp
      have HKD := Lib.hid hkd
      clear r1 hx hkd hkl
      have hfz := HRr.out.frozen
      have hhr := lt_of_cell hHW
      have hgrl := lt_of_cell d0
      have hgbw := lt_of_cell c0
      have n0 := World.new_ne wr _ c0
      have n1 := World.new_ne wr _ c1'
      have n2 := World.new_ne wr _ c2'
      have n3 := World.new_ne wr _ c3'
      have n4 := World.new_ne wr _ d0
      have n5 := World.new_ne wr _ d1
      have n6 := World.new_ne wr _ d2
      have n7 := World.new_ne wr _ d3
      have n8 := World.new_ne wr _ hHW
      go_wp2_with (fail)
      go_region_held3 (fun W => W.cell? ⟨gb, k * 4, none⟩ = some (.int .i64 x.id) ∧ W.cell? ⟨gb, k * 4 + 1, none⟩ = some (.int .i64 x.src) ∧ W.cell? ⟨gb, k * 4 + 2, none⟩ = some (.int .i64 x.dst) ∧ W.cell? ⟨gb, k * 4 + 3, none⟩ = some (.string x.body) ∧ W.cell? ⟨h, 1, none⟩ = some (.slice (some ⟨gr, 0, none⟩) m c) ∧ W.cell? ⟨gr, k * 4, none⟩ = some (.int .i64 x.id) ∧ W.cell? ⟨gr, k * 4 + 1, none⟩ = some (.int .i64 x.src) ∧ W.cell? ⟨gr, k * 4 + 2, none⟩ = some (.int .i64 x.dst) ∧ W.cell? ⟨gr, k * 4 + 3, none⟩ = some (.string x.body)) (go_keep) (fail)
      all_goals
        clear n0 n1 n2 n3 n4 n5 n6 n7 n8
        go_wp2
        go_roundg (m - (k + 1))
        case measure => omega
        case rel => exact ⟨k + 1, dk.set k ⟨-7, 0, 0, ⟨#[]⟩⟩, by omega, Nat.le_refl _, by go_num, Lib.hid ((((hset.out _ HRr.out).alloc _).alloc _).drew), hd2, Lib.hid ((((((HW.out.setCell hgbl.out _).setCell hgbl.out _).setCell hgbl.out _).setCell hgbl.out _).alloc (by have := HW.out.size; simp; omega) _).alloc (by have := HW.out.size; simp; omega) _).drew⟩
    · have hltz : ¬ ((k : Int) < (m : Int)) := by omega
      go_wp2
      go_ret
      exact ⟨rfl, HW.out⟩

end Go.Proofs.Ytaaeiljeanfinaa
