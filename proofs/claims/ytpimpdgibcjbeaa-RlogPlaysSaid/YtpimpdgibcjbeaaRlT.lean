import Derived.Test.YtpimpdgibcjbeaaRlS
namespace Go.Proofs.Ytpimpdgibcjbeaa
open Go Go.RowKit Go.Shelf
set_option linter.unusedVariables false
set_option linter.unusedSimpArgs false
attribute [local go_sem] Oper.semAt_some

/-! The log from its last entry down. -/
def toD (s : LogS) (x : Nat × Ent) : Int × Int := (wrap64 (wrap64 (s.base + (x.1 : Int)) + 1), x.2.term)
def dn (s : LogS) (k : Nat) : Int × Int := toD s (bk s.l k)
def cntD (s : LogS) (above : Int) : Nat := min s.l.length (s.last - above).toNat
theorem dn_at (s : LogS) (k : Nat) (hb0 : 0 ≤ s.base) (hl : s.base + s.l.length ≤ 1048576) (hk : k < s.l.length) : dn s k = (s.last - k, (s.l[s.l.length - 1 - k]?.getD ⟨0, ⟨#[]⟩⟩).term) := by
  unfold dn toD bk LogS.last
  have : wrap64 (wrap64 (s.base + ((s.l.length - 1 - k : Nat) : Int)) + 1) = s.base + s.l.length - k := by
    unfold wrap64
    omega
  simp only [this]
theorem upto_map {α β : Type} (f : Nat → α) (g : α → β) (k : Nat) : (upto f k).map g = upto (fun j => g (f j)) k := by simp [upto, List.map_map]; try rfl
theorem upto_snoc {α : Type} {f : Nat → α} {k : Nat} {ini : List α} {x : α} (h : ini ++ [x] = upto f (k + 1)) : ini = upto f k ∧ x = f k := by
  rw [upto_succ] at h
  have := List.append_inj' h rfl
  exact ⟨this.1, by simpa using this.2⟩
theorem mem_upto {α : Type} {f : Nat → α} {k : Nat} {x : α} : x ∈ upto f k ↔ ∃ j, j < k ∧ x = f j := by
  simp only [upto, List.mem_map, List.mem_range]
  exact ⟨fun ⟨j, h, e⟩ => ⟨j, h, e.symm⟩, fun ⟨j, h, e⟩ => ⟨j, h, e.symm⟩⟩

set_option maxRecDepth 100000 in
set_option maxHeartbeats 4000000 in
theorem down_stops (n : Nat) (hn : 6 ≤ n) (C Bl Ba g : Nat) (s : LogS) (vl : Value) (above : Int) (hb0 : 0 ≤ s.base) (hl : s.base + s.l.length ≤ 1048576) (w : World)
    (hBl : w.cell? ⟨Bl, 0, none⟩ = some (.pointer (some ⟨g, 0, none⟩))) (hBa : w.cell? ⟨Ba, 0, none⟩ = some (.int .i64 above)) (hb : Blk w g 62 #[.int .i64 s.base, .int .i64 s.term, vl]) (hr : Row w 44 2 Ent.cells vl s.l) :
    SeqO C Fence.wide n Try.prog 43 #[.pointer (some ⟨Bl, 0, none⟩), .pointer (some ⟨Ba, 0, none⟩)] (fun x : Int × Int => #[Value.int .i64 x.1, .int .i64 x.2]) CellsStay
      (fun ys => ys = upto (dn s) (cntD s above)) (fun pre => ∃ k, k < cntD s above ∧ pre = upto (dn s) (k + 1)) s.l.length w := fun l J Jx W hW hC hJ hJx hY h0 => by
  have HBl := (hW.cell (p := ⟨Bl, 0, none⟩) (World.block_lt_of_cell? w _ hBl)).trans hBl
  have HBa := (hW.cell (p := ⟨Ba, 0, none⟩) (World.block_lt_of_cell? w _ hBa)).trans hBa
  have hbW : Blk W g _ _ := hb.kept (Kept.of_below hW fun _ => False) (fun h => h)
  have hrW : Row W _ _ _ _ _ := hr.kept (Kept.of_below hW fun _ => False) (fun _ _ h => h)
  obtain ⟨A, c, rfl⟩ := hrW.shape
  have g2 := hbW.cell 2
  have hgW := hbW.lt
  have HBlt := World.block_lt_of_cell? W _ HBl
  have HBat := World.block_lt_of_cell? W _ HBa
  have h1 : 1 ≤ n := by omega
  have hf : Fence.wide.fn 44 := trivial
  have HbW := Lib.hid hbW
  have HrW := Lib.hid hrW
  have HY := Lib.hid hY
  clear hb hr hBl hBa hW hbW hY
  show CallsIn Fence.wide n Try.prog _ #[.func (.yield l) #[] #[], .pointer (some ⟨Bl, 0, none⟩), .pointer (some ⟨Ba, 0, none⟩)] W _
  refine callsIn_of_wp_marks Try.func43 rfl trivial ?_ rfl
  simp only [Try.ntmps43, List.size_toArray, List.length_cons, List.length_nil, Nat.reduceAdd, Nat.reduceSub, Array.replicate_succ, Array.replicate_zero, List.push_toArray, List.append_toArray, List.nil_append, List.cons_append]
  gi_wp2_with (gi_at_call 44; refine (backward_in (n - 1) _ _ _ _).mono ?_; rintro e w' ⟨rfl, rfl⟩)
  obtain ⟨W2, hW2⟩ : ∃ W2, (W.alloc (.cells #[.func (.yield l) #[] #[]] 58)).alloc (.cells #[.slice A s.l.length c] 36) = W2 := ⟨_, rfl⟩
  have hS2 : W2.heap.size = W.heap.size + 2 := by rw [← hW2]; simp
  have hc0 : CellsStay W W2 := by rw [← hW2]; exact ((CellsStay.refl W).alloc _).alloc _
  have bY : W2.cell? ⟨W.heap.size, 0, none⟩ = some (.func (.yield l) #[] #[]) := by
    rw [← hW2]
    exact ((Boxed.new W 58 (.func (.yield l) #[] #[])).alloc _).cell
  have bS : W2.cell? ⟨W.heap.size + 1, 0, none⟩ = some (.slice A s.l.length c) := by
    rw [← hW2]
    have := (Boxed.new (W.alloc (.cells #[.func (.yield l) #[] #[]] 58)) 36 (.slice A s.l.length c)).cell
    rwa [World.size_alloc] at this
  have hJ2 : OwnFrom W2.heap.size J := of_less hJ (by omega)
  have hJx2 : OwnFrom W2.heap.size Jx := of_less hJx (by omega)
  have hj0 : J [] W2 := by rw [← hW2]; exact hJ.alloc _ (hJ.alloc _ h0)
  rw [hW2]
  refine range_own rfl h1 (gf := 52) (lb := #[.pointer (some ⟨W.heap.size + 1, 0, none⟩)]) rfl trivial (enters_of Try.func52 (by kernel_rfl) rfl)
    (backward_stops (n - 1) (by omega) _ (W.heap.size + 1) c A s.l (by omega) W2 (by omega) bS (fun h => by
      obtain ⟨gb, c', hv, _, _⟩ := HrW.out.form h
      injection hv with hA _ _
      refine ⟨gb, hA, fun j u hu => hc0.cell ?_⟩
      have := HrW.out
      rw [hA] at this
      have hn := this.news j u hu
      rwa [addr0] at hn))
    (fun h k => h.trans k) (fun X o o' ho hc => (CellsStay.refl X).putObj o' ho hc) (Below.refl _ _) (fun _ => rfl)
    (fun pre X => J (pre.map (toD s)) X ∧ (∀ y ∈ pre, above < (toD s y).1) ∧ CellsStay W2 X)
    (fun pre X => ∃ ini x, pre = ini ++ [x] ∧ (∀ y ∈ ini, above < (toD s y).1) ∧ (((toD s x).1 ≤ above ∧ J (ini.map (toD s)) X) ∨ (above < (toD s x).1 ∧ Jx (pre.map (toD s)) X)))
    (fun pre X Y row hs hg hr => ⟨hJ2 _ X Y row hs.1 hg hr, hs.2.1, CellsStay.ownFrom W2 _ () X Y row hs.2.2 hg hr⟩)
    (fun pre X Y row hs hg hr => by
      obtain ⟨ini, x, e, ha, h | h⟩ := hs
      · exact ⟨ini, x, e, ha, .inl ⟨h.1, hJ2 _ X Y row h.2 hg hr⟩⟩
      · exact ⟨ini, x, e, ha, .inr ⟨h.1, hJx2 _ X Y row h.2 hg hr⟩⟩)
    ⟨hj0, by simp, CellsStay.refl _⟩
    (fun x a' X => ∃ Bx, Blk X Bx 44 #[.int .i64 x.2.term, .string x.2.data] ∧ a' = { tmps := #[.func (.yield l) #[] #[], .pointer (some ⟨Bl, 0, none⟩), .pointer (some ⟨Ba, 0, none⟩), .pointer (some ⟨W.heap.size, 0, none⟩), .int .i64 (x.1 : Int), .pointer (some ⟨Bx, 0, none⟩), undef, .pointer (some ⟨g, 0, none⟩), .pointer (some ⟨g, 0, none⟩), .pointer (some ⟨g, 2, none⟩), .slice A s.l.length c, .func (.func 52) #[] #[.pointer (some ⟨W.heap.size + 1, 0, none⟩)], .int .i64 (x.1 : Int), .agg #[.int .i64 x.2.term, .string x.2.data], undef, undef, undef, undef, undef, undef, undef, undef, undef, undef, undef, undef, undef, undef, undef, undef, undef, undef], defers := [] })
    (fun x a' _ X Y row hs hg hr => by
      obtain ⟨Bx, hB, e⟩ := hs
      refine ⟨Bx, hB.grown hg (fun e' => ?_), e⟩
      obtain ⟨_, o, ho, hc⟩ := hr _ e'.symm
      rw [show X.heap[Bx]? = _ from hB] at ho
      cases ho
      cases hc) ?assign ?body ?done ?stop
  case assign =>
    intro l2 pre x X K hi hK
    gi_wp2
    exact hK _ _ ((KeepsOthers.alloc _ _).from _) ((CellsStay.refl X).alloc _) ⟨hJ2.alloc _ hi.1, hi.2.1, hi.2.2.alloc _⟩ ⟨_, Blk.new X _ _, rfl⟩
  case body =>
    rintro l2 pre x a' X ⟨hj, hall, hcs⟩ ⟨Bx, hB, rfl⟩ hlen
    have k1 := hcs.cell (hc0.cell HBl)
    have k2 := hcs.cell (hc0.cell HBa)
    have k3 := hcs.cell bY
    have k4 := hcs.cell (hc0.cell (HbW.out.cell 0))
    have k5 := hB.cell 0
    have kz := hcs.size
    obtain ⟨nx, hnx⟩ : ∃ nx, wrap64 (wrap64 (s.base + (x.1 : Int)) + 1) = nx := ⟨_, rfl⟩
    have hD : toD s x = (nx, x.2.term) := by unfold toD; rw [hnx]
    obtain ⟨fn, tmps, assign, body, hy, hR⟩ := YieldAt_any rfl (n - 1 - 1 - 1) (HY.out (pre.map (toD s)) (toD s x) X hj (by rw [List.length_map]; exact hlen))
    rw [hD] at hy hR
    dsimp only at hy
    have HD := Lib.hid hD
    have HALL := Lib.hid hall
    have HJ := Lib.hid hj
    have HCS := Lib.hid hcs
    clear hall hj hcs hB hD
    by_cases hle : nx ≤ above
    · have q : decide (nx ≤ above) = true := decide_eq_true hle
      gi_wp2
      refine ⟨fun _ h => (by cases h), ?_⟩
      gi_wp2
      exact ⟨KeepsFrom.refl _ _, pre, x, rfl, HALL.out, .inl ⟨by rw [HD.out]; exact hle, HJ.out⟩⟩
    · have q : decide (nx ≤ above) = false := decide_eq_false hle
      have hq2 : above < nx := by omega
      gi_wp2
      refine ⟨fun _ => by omega, ?_⟩
      refine hR.mono ?_
      rintro e W3 ⟨⟨rfl, hJ3, hk3⟩ | ⟨rfl, hJx3⟩, hkf⟩
      · gi_wp2
        refine ⟨kf_less hkf (by omega), hk3, ?_, ?_, HCS.out.trans hk3⟩
        · rw [List.map_append, List.map_singleton, HD.out]
          exact hJ3
        · intro y hy
          rcases List.mem_append.1 hy with h | h
          · exact HALL.out y h
          · obtain rfl : y = x := by simpa using h
            rw [HD.out]
            exact hq2
      · gi_wp2
        refine ⟨kf_less hkf (by omega), pre, x, rfl, HALL.out, .inr ⟨by rw [HD.out]; exact hq2, ?_⟩⟩
        rw [List.map_append, List.map_singleton, HD.out]
        exact hJx3
  case done =>
    rintro D ys X hD rfl ⟨hj, hall, hcs⟩ hK
    have hcnt : cntD s above = s.l.length := by
      rcases Nat.eq_zero_or_pos s.l.length with h0 | h0
      · unfold cntD; omega
      · have h2 : above < (dn s (s.l.length - 1)).1 := hall _ (mem_upto.2 ⟨s.l.length - 1, by omega, rfl⟩)
        rw [dn_at s _ hb0 hl (by omega)] at h2
        unfold cntD
        dsimp only at h2
        omega
    rw [upto_map] at hj
    gi_wp2
    refine ⟨by simp, .inl ⟨_, _, rfl, run_takeDeferred hK, ?_⟩⟩
    exact ⟨_, results_none rfl _ _ _, ⟨_, rfl⟩, .inl ⟨_, rfl, by rw [hcnt]; exact hJ2.putObj _ hj hD hK rfl⟩⟩
  case stop =>
    rintro D pre X hD ⟨k, hk, hpre⟩ ⟨ini, x, rfl, hall, hor⟩ hK
    obtain ⟨rfl, rfl⟩ := upto_snoc hpre
    have hge : ∀ j, j < k → above < s.last - j := fun j hj => by
      have h2 : above < (dn s j).1 := hall _ (mem_upto.2 ⟨j, hj, rfl⟩)
      rw [dn_at s _ hb0 hl (by omega)] at h2
      exact h2
    have hx : (toD s (bk s.l k)).1 = s.last - k := by
      show (dn s k).1 = _
      rw [dn_at s _ hb0 hl hk]
    rw [hx] at hor
    have hres : (J (upto (dn s) (cntD s above)) X) ∨ (∃ k, k < cntD s above ∧ Jx (upto (dn s) (k + 1)) X) := by
      rcases hor with ⟨h1, h2⟩ | ⟨h1, h2⟩
      · left
        have : cntD s above = k := by
          unfold cntD
          rcases Nat.eq_zero_or_pos k with h | h
          · omega
          · have := hge (k - 1) (by omega)
            omega
        rw [this]
        rw [upto_map] at h2
        exact h2
      · right
        refine ⟨k, by unfold cntD; omega, ?_⟩
        rw [← upto_succ, upto_map] at h2
        exact h2
    gi_wp2
    refine ⟨by simp, .inl ⟨_, _, rfl, run_takeDeferred hK, ?_⟩⟩
    refine ⟨_, results_none rfl _ _ _, ⟨_, rfl⟩, ?_⟩
    rcases hres with h | ⟨k, hk, h⟩
    · exact .inl ⟨_, rfl, hJ2.putObj _ h hD hK rfl⟩
    · exact .inr ⟨_, ⟨k, hk, rfl⟩, hJx2.putObj _ h hD hK rfl⟩
end Go.Proofs.Ytpimpdgibcjbeaa
