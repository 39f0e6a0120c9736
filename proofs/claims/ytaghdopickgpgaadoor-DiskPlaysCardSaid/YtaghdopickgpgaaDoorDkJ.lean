import Derived.Test.YtaghdopickgpgaaDoorDkI
namespace Go.Proofs.YtaghdopickgpgaaDoor
open Go Go.RowKit
set_option linter.unusedVariables false
set_option linter.unusedSimpArgs false

def syncF (p : ByteArray × DF) : ByteArray × DF := (p.1, ⟨p.2.has, p.2.has.size⟩)
def half (fs : Files) (left : Lit → Bool) : Files := fs.map fun p => if left (klit p.1) = true then p else syncF p
def DkS.synced (s : DkS) : DkS := { s with fs := s.fs.map syncF }
def DkS.sync (s : DkS) : DkS × Int := if s.tick.down = true then (s.tick, 21) else (s.tick.synced, 0)
theorem half_all {fs : Files} {left : Lit → Bool} (h : ∀ p ∈ fs, left (klit p.1) = true) : half fs left = fs := by
  unfold half
  conv => rhs; rw [← List.map_id fs]
  exact List.map_congr_left fun p hp => by rw [if_pos (h p hp)]; rfl
theorem half_none {fs : Files} {left : Lit → Bool} (h : ∀ k, left k = false) : half fs left = fs.map syncF := List.map_congr_left fun p _ => by rw [if_neg (by rw [h]; simp)]
theorem half_key (fs : Files) (left : Lit → Bool) (p : ByteArray × DF) : (if left (klit p.1) = true then p else syncF p).1 = p.1 := by split <;> rfl
theorem half_step {fs : Files} (hnd : fs.Pairwise fun p q => p.1 ≠ q.1) {left : Lit → Bool} {p : ByteArray × DF} (hp : p ∈ half fs left) (hl : left (klit p.1) = true) :
    (half fs left).map (fun q => if q.1 = p.1 then (p.1, (⟨p.2.has, p.2.has.size⟩ : DF)) else q) = half fs (fun z => left z && !z.sameKey (klit p.1)) := by
  have hmem : p ∈ fs := by
    obtain ⟨q, hq, e⟩ := List.mem_map.1 hp
    have hqp : q.1 = p.1 := by rw [← e, half_key fs left]
    rw [hqp, if_pos hl] at e
    exact e ▸ hq
  unfold half
  rw [List.map_map]
  refine List.map_congr_left fun q hq => ?_
  show (if (if left (klit q.1) = true then q else syncF q).1 = p.1 then _ else _) = _
  rw [half_key fs left]
  show (if q.1 = p.1 then (p.1, (⟨p.2.has, p.2.has.size⟩ : DF)) else if left (klit q.1) = true then q else syncF q) = if (left (klit q.1) && !(klit q.1).sameKey (klit p.1)) = true then q else syncF q
  rw [klit_same]
  by_cases hqp : q.1 = p.1
  · have : q = p := by
      rcases Classical.em (q = p) with h | h
      · exact h
      · exfalso
        obtain ⟨i, hi, e1⟩ := List.getElem_of_mem hq
        obtain ⟨j, hj, e2⟩ := List.getElem_of_mem hmem
        have hij : i ≠ j := fun e => h (by subst e; exact e1.symm.trans e2)
        have hpw := List.pairwise_iff_getElem.1 hnd
        rcases Nat.lt_or_gt_of_ne hij with hlt | hlt
        · exact hpw i j hi hj hlt (by rw [e1, e2]; exact hqp)
        · exact hpw j i hj hi hlt (by rw [e1, e2]; exact hqp.symm)
    subst this
    rw [if_pos rfl, if_neg (by simp)]
    rfl
  · rw [if_neg hqp]
    simp only [decide_eq_false hqp, Bool.not_false, Bool.and_true]
set_option maxRecDepth 100000 in
set_option maxHeartbeats 1000000 in
theorem disk_sync (F : Nat → Prop) (g : Nat) (s : DkS) (w : World) (h : DkAt w F g s) (hs : s.Ok) :
    Calls Tryd.prog 14 #[.pointer (some ⟨g, 0, none⟩)] w fun e w' => e = .returned (.int .i64 s.sync.2) ∧ DkPost w F g s.sync.1 w' := by
  have hr := disk_ready F g s w h hs.l0 hs.l1
  have hfs := hs.n
  rw [← tick_fs] at hfs
  have hnd := sorted_nodup hs.tick.sorted
  have hsmall : ∀ p ∈ s.tick.fs, p.2.has.size ≤ 262144 := fun p hp => by have h1 := total_mem hp; have := hs.tick.used; have := hs.tick.u1; have := hs.tick.r1; omega
  unfold DkS.sync
  generalize s.tick = s2 at *
  have HS := Lib.hid hsmall
  have HND := Lib.hid hnd
  clear h hs hsmall hnd
  cases hd : s2.down with
  | true =>
    rw [hd] at hr
    go_enter Tryd.func14, Tryd.ntmps14
    go_wp2_with (fail)
    refine hr.mono ?_
    rintro e w2 ⟨rfl, hp⟩
    have HP := Lib.hid hp
    clear hp hr
    go_wp2
    go_ret
    exact ⟨rfl, HP.out⟩
  | false =>
    rw [hd] at hr
    go_enter Tryd.func14, Tryd.ntmps14
    go_wp2_with (fail)
    refine hr.mono ?_
    rintro e w2 ⟨rfl, hp⟩
    obtain ⟨hk2, b, hb, hm, hg, f1, fz⟩ := hp
    have hne := blk_map hb hm
    have c2 := hb.cell 2
    have hlt := hb.lt
    have HK := Lib.hid hk2
    have HB := Lib.hid hb
    have HM := Lib.hid hm
    have HFZ := Lib.hid fz
    clear hr hk2 hb hm fz
    go_wp2_with (first | (at_range; refine SMap.range_ (by rfl) (.tmp 11) 60 64 (by rfl) Tryd.underlying9 Tryd.underlying60 (by rfl) HM.out ?_) | fail)
    intro w3 left0 hr0 hall hg3 hs3
    have hk3 := HK.out.grown hg3 (fun k e => by cases e)
    have hb3 := HB.out.kept ((Kept.refl w2 fun _ => False).grown hg3 (fun k e => by cases e)) (fun h => h)
    have hww : w.heap.size ≤ w2.heap.size := HK.out.size
    have HR0 := Lib.hid hr0
    have HALL := Lib.hid hall
    have HK3 := Lib.hid hk3
    have HB3 := Lib.hid hb3
    have hgb : g ≠ w2.heap.size := by omega
    have hbb : b ≠ w2.heap.size := by have := HM.out.lt; omega
    clear hr0 hall hk3 hb3 hg3
    go_wp2_with (fail)
    go_loopg [3, 4] s2.fs.length (fun gg _ _ wr => ∃ (left : Lit → Bool) (cnt : Nat), cnt ≤ gg ∧ Hid (SRange wr 9 b w2.heap.size DF.val (half s2.fs left) left cnt) ∧ Hid (Kept w wr F) ∧ Hid (Blk wr g 62 #[.int .i64 s2.room, .int .i64 s2.used, .map (some b), .bool s2.fused, .bool s2.down, .int .i64 s2.left]) ∧ w3.heap.size ≤ wr.heap.size)
    case atStart => exact ⟨left0, s2.fs.length, Nat.le_refl _, Lib.hid (by rw [half_all fun p hp => HALL.out p.1 p.2 hp]; exact HR0.out), HK3, HB3, Nat.le_refl _⟩
    case round =>
      obtain ⟨left, cnt, hcnt, HSR, HKr, HBr, hwr⟩ := hrel
      go_wp2_with (first | (at_next; refine SRange.next_ (by rfl) (.tmp 12) (by rfl) Tryd.underlying9 (by rfl) HSR.out ?_ ?_) | fail)
      · intro hc hl
        have hfin : Hid (DkPost w F g s2.synced wr) := Lib.hid ⟨HKr.out, b, HBr.out, by have := HSR.out.smap; rw [half_none hl] at this; exact this, hg, f1, fun k h => by have := HFZ.out k h; omega⟩
        clear hl
        go_wp2
        go_ret
        exact ⟨rfl, hfin.out⟩
      · intro pk pf w4 cnt' hp hsz hlk hrg hlt4 hg4 hs4 hen
        have hk4 := Lib.hid (HKr.out.grown hg4 (fun k e => by cases e; exact .inr hww))
        have hb4 := HBr.out.kept ((Kept.refl wr fun k => k = w2.heap.size).grown hg4 (fun k e => by cases e; exact .inl rfl)) hgb
        have hlt5 := hb4.lt
        have HRG := Lib.hid hrg
        have HSTEP := Lib.hid (half_step HND.out (p := (pk, pf)) hp hlk)
        have hpm : ∃ q ∈ half s2.fs left, q.1 = pk := ⟨(pk, pf), hp, rfl⟩
        have HPM := Lib.hid hpm
        have HLK := Lib.hid hlk
        clear hp hlk hrg hg4 hpm
        have hx4 := Lib.hid (Blk.new w4 64 #[.string pf.has, .int .i64 pf.safe])
        have hk5 := Lib.hid (hk4.out.alloc (.cells #[.string pf.has, .int .i64 pf.safe] 64))
        have hb5 := hb4.alloc (.cells #[.string pf.has, .int .i64 pf.safe] 64)
        have HRG5 := Lib.hid (HRG.out.kept (((Kept.refl w4 fun _ => False).alloc (.cells #[.string pf.has, .int .i64 pf.safe] 64)).drewN 1) (fun h => h) (fun h => h))
        have hen2 : (Instr.entry (.pointer (some ⟨w2.heap.size, 0, none⟩))).run Tryd.prog w4 = .ok (.tuple #[.string pk, .agg #[.string pf.has, .int .i64 pf.safe]]) w4 := hen
        have hsz4 : (w4.alloc (.cells #[.string pf.has, .int .i64 pf.safe] 64)).heap.size = w4.heap.size + 1 := by simp
        clear hen
        go_wp2_with (fail)
        have hhl : (half s2.fs left).length = s2.fs.length := List.length_map ..
        obtain ⟨w6, hrun, hr6, hg6, hs6⟩ := SRange.store_run Tryd.underlying9 Tryd.underlying60 HRG5.out (by rw [hhl]; simp only [maxLen]; omega) pk ⟨pf.has, pf.has.size⟩ hsz HPM.out
        have hr6 := Lib.hid hr6
        have hg6 := Lib.hid hg6
        have x0 := hx4.out.cell 0
        have x1 := hx4.out.cell 1
        rw [hs4] at x0 x1
        clear HPM HLK HRG HRG5
        generalize (w4.alloc (.cells #[.string pf.has, .int .i64 pf.safe] 64)) = w5 at *
        have d2 : w5.drew.cell? ⟨g, 2, none⟩ = some (.map (some b)) := by
          have := hb5.cell 2
          simpa using this
        have hrun2 : (Instr.mapUpdate 60 (.map (some b)) (.string pk) (.agg #[.string pf.has, .int .i64 (pf.has.size : Int)])).run Tryd.prog w5.drew = .ok () w6 := hrun
        have HB5 := Lib.hid hb5
        clear hrun hb5 hb4
        go_region
        have hk6 := (Kept.refl (w5.drewN 1) fun k => k = b).grown hg6.out (fun k e => by cases e; exact .inl rfl)
        have hb6 := Lib.hid ((HB5.out.drewN 1).kept hk6 hne)
        have HK6 := Lib.hid ((hk5.out.drewN 1).grown hg6.out (fun k e => by cases e; exact .inl f1))
        have hsz6 : w3.heap.size ≤ w6.heap.size := by
          have : w6.heap.size = w5.heap.size := hs6
          omega
        go_wp2
        go_roundg cnt'
        case measure => omega
        case rel => exact ⟨_, cnt', Nat.le_refl _, Lib.hid (by have := hr6.out; rw [HSTEP.out] at this; exact this), HK6, hb6, hsz6⟩
end Go.Proofs.YtaghdopickgpgaaDoor
