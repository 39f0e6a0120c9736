import Derived.Test.YtpimpdgibcjbeaaRlT
import Derived.Test.YtpimpdgibcjbeaaOSort
namespace Go.Proofs.Ytpimpdgibcjbeaa
open Go Go.RowKit Go.Shelf
set_option linter.unusedVariables false
set_option linter.unusedSimpArgs false
attribute [local go_sem] Oper.semAt_some

def isort (zs : List Int) : List Int := zs.mergeSort fun x y => decide (x ≤ y)
theorem isort_length (zs : List Int) : (isort zs).length = zs.length := List.length_mergeSort ..
set_option maxRecDepth 100000 in
set_option maxHeartbeats 1000000 in
theorem sorted_in (n : Nat) (hn : 5 ≤ n) (Bs b cap : Nat) (zs : List Int) (hp : 0 < zs.length) (hreach : zs.length * 8 ≤ 140737488351232) (w : World) (hBs : Bs < w.heap.size) (hb : b < w.heap.size)
    (hc : w.cell? ⟨Bs, 0, none⟩ = some (.slice (some ⟨b, 0, none⟩) zs.length cap)) (hI : ∀ j, j < zs.length → w.cell? ⟨b, j, none⟩ = some (.int .i64 (zs[j]?.getD 0))) :
    CallsIn Fence.wide n Try.prog 26 #[.func (.func 42) #[] #[.pointer (some ⟨Bs, 0, none⟩)]] w fun e W' => ∃ g c, e = .returned (.slice (some ⟨g, 0, none⟩) zs.length c) ∧ (∀ j, j < zs.length → W'.cell? ⟨g, j, none⟩ = some (.int .i64 ((isort zs)[j]?.getD 0))) ∧ Below w.heap.size w W' := by
  have hf : Fence.wide.fn 40 := trivial
  have hf2 : Fence.wide.fn 41 := trivial
  have h1 : 1 ≤ n := by omega
  have hx := collect_in (n - 1) (by omega) Bs b cap zs hreach w hBs hb hc hI
  refine callsIn_of_wp Try.func26 rfl trivial ?_ rfl
  simp only [Try.ntmps26, List.size_toArray, List.length_cons, List.length_nil, Nat.reduceAdd, Nat.reduceSub, Array.replicate_succ, Array.replicate_zero, List.push_toArray, List.append_toArray, List.nil_append, List.cons_append]
  gi_wp2_with (gi_at_call 40; refine hx.mono ?_; rintro e W ⟨v, rfl, hrow, hbw⟩)
  rcases hrow.2 with ⟨_, h0⟩ | ⟨g, c, cur, rfl, hbase, hgb, r1, r2, r3, r4⟩
  · omega
  have hgl : g < W.heap.size := (Array.getElem?_eq_some_iff.1 hgb).1
  have cS : CallsIn Fence.wide (n - 1) Try.prog 41 #[.slice (some ⟨g, 0, none⟩) zs.length c] W _ := callsIn_wide.2 (sort_ints g 0 c zs W (holds_of_blockI hgb (by simpa using r4)) hgl (by omega))
  gi_wp2_with (gi_at_call 41; refine cS.mono ?_; rintro e w' ⟨rfl, nn, os, rfl⟩)
  go_ret
  refine ⟨g, c, rfl, fun j hj => ?_, hbw.grown (grownBy_sortedI _) hbw.size (fun j hj => by cases hj; exact hbase)⟩
  have hown := ownsRow_sortedI (n := nn) (os := os) (ss := zs) (ts := isort zs) (isort_length zs) hbase hgb r1 r2 r3
  have := World.ownsRow.cells hown (g := g) rfl j (.int .i64 ((isort zs)[j]?.getD 0)) (by rw [List.getElem?_map, List.getElem?_eq_getElem (by rw [isort_length]; exact hj)]; rfl)
  rwa [addr0] at this
/-- Up to where the log is had by more than half. -/
def LogS.agreedN (s : LogS) (hv term commit : Int) : Int := match (upto (dn s) (cntD s commit)).find? (fun x : Int × Int => decide (x.1 ≤ hv) && decide (x.2 = term)) with | some x => x.1 | none => commit
def medZ (zs : List Int) : Int := (isort zs)[(zs.length - 1) / 2]?.getD 0
set_option maxHeartbeats 1000000 in
theorem down_in (n : Nat) (g : Nat) (above : Int) (w : World) :
    CallsIn Fence.wide n Try.prog 28 #[.pointer (some ⟨g, 0, none⟩), .int .i64 above] w fun e w' => e = .returned (.func (.func 43) #[] #[.pointer (some ⟨w.heap.size, 0, none⟩), .pointer (some ⟨w.heap.size + 1, 0, none⟩)]) ∧ w' = (w.alloc (.cells #[.pointer (some ⟨g, 0, none⟩)] 24)).alloc (.cells #[.int .i64 above] 3) := by
  refine callsIn_of_wp Try.func28 rfl trivial ?_ rfl
  simp only [Try.ntmps28, List.size_toArray, List.length_cons, List.length_nil, Nat.reduceAdd, Nat.reduceSub, Array.replicate_succ, Array.replicate_zero, List.push_toArray, List.append_toArray, List.nil_append, List.cons_append]
  gi_wp2
  go_ret
  exact ⟨rfl, rfl⟩
theorem blk_row {B g : Nat} {t : TypeId} {cs : Array Value} {X Y : World} {row : Option Nat} (h : Blk X g t cs) (hg : X.grownBy Y row) (hr : ∀ r, row = some r → B ≤ r ∧ ∃ o : Obj, X.heap[r]? = some o ∧ o.isCells = false) : Blk Y g t cs :=
  h.grown hg (fun e' => by
    obtain ⟨_, o, ho, hc⟩ := hr _ e'.symm
    rw [show X.heap[g]? = _ from h] at ho
    cases ho
    cases hc)
def hitD (hv term : Int) (x : Int × Int) : Bool := decide (x.1 ≤ hv) && decide (x.2 = term)
theorem all_snoc {hv term : Int} {l : List (Int × Int)} {x : Int × Int} (h : ∀ y ∈ l, hitD hv term y = false) (hx : hitD hv term x = false) : ∀ y ∈ l ++ [x], hitD hv term y = false := by
  intro y hy
  rcases List.mem_append.1 hy with h' | h'
  · exact h y h'
  · obtain rfl : y = x := by simpa using h'
    exact hx
theorem find_none {hv term : Int} {l : List (Int × Int)} (h : ∀ x ∈ l, hitD hv term x = false) : l.find? (hitD hv term) = none := by
  rw [List.find?_eq_none]
  intro x hx
  rw [h x hx]
  simp
theorem find_upto {hv term : Int} {f : Nat → Int × Int} {k n : Nat} (hk : k < n) (h : ∀ x ∈ upto f k, hitD hv term x = false) (hx : hitD hv term (f k) = true) : (upto f n).find? (hitD hv term) = some (f k) := by
  have e : upto f n = upto f k ++ (f k :: (List.range (n - k - 1)).map fun j => f (k + 1 + j)) := by
    apply List.ext_getElem
    · simp [upto]; omega
    · intro i h1 h2
      by_cases hi : i < k
      · rw [List.getElem_append_left (by simpa [upto] using hi)]
        simp [upto]
      · rw [List.getElem_append_right (by simp [upto]; omega)]
        simp only [upto, List.getElem_map, List.getElem_range, List.length_map, List.length_range]
        rcases Nat.eq_zero_or_pos (i - k) with h0 | h0
        · have : i = k := by omega
          simp [this]
        · obtain ⟨j, hj⟩ : ∃ j, i - k = j + 1 := ⟨i - k - 1, by omega⟩
          simp only [hj, List.getElem_cons_succ, List.getElem_map, List.getElem_range]
          congr 1
          omega
  rw [e, List.find?_append, find_none h]
  simp [hx]
set_option maxRecDepth 100000 in
set_option maxHeartbeats 4000000 in
theorem agreed_in (n : Nat) (hn : 10 ≤ n) (F : Nat → Prop) (g : Nat) (s : LogS) (b cap : Nat) (zs : List Int) (term commit : Int) (hb0 : 0 ≤ s.base) (hl : s.base + s.l.length ≤ 1048576) (hp : 0 < zs.length) (hcap : zs.length ≤ cap) (hreach : zs.length * 8 ≤ 140737488351232) (hcm : 0 ≤ commit) (w : World) (h : LogAt w F g s)
    (hI : ∀ j, j < zs.length → w.cell? ⟨b, j, none⟩ = some (.int .i64 (zs[j]?.getD 0))) :
    CallsIn Fence.wide n Try.prog 13 #[.pointer (some ⟨g, 0, none⟩), .slice (some ⟨b, 0, none⟩) zs.length cap, .int .i64 term, .int .i64 commit] w fun e w' => e = .returned (.tuple #[.int .i64 (s.agreedN (medZ zs) term commit), .int .i64 0]) ∧ Below w.heap.size w w' := by
  have h1 : 1 ≤ n := by omega
  have hf : Fence.wide.fn 27 := trivial
  have hf2 : Fence.wide.fn 26 := trivial
  have hf3 : Fence.wide.fn 28 := trivial
  have hblt : b < w.heap.size := World.block_lt_of_cell? w _ (hI 0 hp)
  have g1 : (0 : Int) < (zs.length : Int) := by omega
  obtain ⟨m, hm⟩ : ∃ m, zs.length = m := ⟨_, rfl⟩
  have HM := Lib.hid hm
  rw [hm] at g1
  have q0 : decide ((m : Int) = 0) = false := decide_eq_false (by omega)
  have hmb : m * 8 ≤ 140737488351232 := by rw [← hm]; exact hreach
  have hmc : m ≤ cap := by rw [← hm]; exact hcap
  rw [hm]
  have q1 : decide (commit < 0) = false := decide_eq_false (by omega)
  have HLog := Lib.hid h
  have HI := Lib.hid hI
  obtain ⟨R, hR⟩ : ∃ R, s.agreedN (medZ zs) term commit = R := ⟨_, rfl⟩
  rw [hR]
  have HR := Lib.hid hR
  clear h hI hcap hm hR
  refine callsIn_of_wp_marks Try.func13 rfl trivial ?_ rfl
  simp only [Try.ntmps13, List.size_toArray, List.length_cons, List.length_nil, Nat.reduceAdd, Nat.reduceSub, Array.replicate_succ, Array.replicate_zero, List.push_toArray, List.append_toArray, List.nil_append, List.cons_append]
  gi_wp2_with (gi_at_call 27; refine (values_in (n - 1) _ _ _ _).mono ?_; rintro e w' ⟨rfl, rfl⟩)
  obtain ⟨W4, hW4⟩ : ∃ W4, (((w.alloc (.cells #[.int .i64 term] 3)).alloc (.cells #[.int .i64 0] 3)).alloc (.cells #[.int .i64 0] 29)).alloc (.cells #[.slice (some ⟨b, 0, none⟩) m cap] 22) = W4 := ⟨_, rfl⟩
  have hS4 : W4.heap.size = w.heap.size + 4 := by rw [← hW4]; simp
  have hB4 : Below w.heap.size w W4 := by rw [← hW4]; exact ((((Below.refl _ w).alloc (Nat.le_refl _) _).alloc (by simp) _).alloc (by simp; omega) _).alloc (by simp; omega) _
  have b6 : Blk W4 w.heap.size 3 #[.int .i64 term] := by rw [← hW4]; exact (((Blk.new w _ _).alloc _).alloc _).alloc _
  have b8 : Blk W4 (w.heap.size + 1) 3 #[.int .i64 0] := by
    rw [← hW4]
    have := Blk.new (w.alloc (.cells #[.int .i64 term] 3)) 3 #[.int .i64 0]
    rw [World.size_alloc] at this
    exact (this.alloc _).alloc _
  have b9 : Blk W4 (w.heap.size + 1 + 1) 29 #[.int .i64 0] := by
    rw [← hW4]
    have := Blk.new ((w.alloc (.cells #[.int .i64 term] 3)).alloc (.cells #[.int .i64 0] 3)) 29 #[.int .i64 0]
    rw [World.size_alloc, World.size_alloc] at this
    exact this.alloc _
  have bS : Blk W4 (w.heap.size + 1 + 1 + 1) 22 #[.slice (some ⟨b, 0, none⟩) zs.length cap] := by
    rw [← hW4, HM.out]
    have := Blk.new (((w.alloc (.cells #[.int .i64 term] 3)).alloc (.cells #[.int .i64 0] 3)).alloc (.cells #[.int .i64 0] 29)) 22 #[.slice (some ⟨b, 0, none⟩) m cap]
    rw [World.size_alloc, World.size_alloc, World.size_alloc] at this
    exact this
  have cS := sorted_in (n - 1) (by omega) (w.heap.size + 1 + 1 + 1) b cap zs hp hreach W4 (by omega) (by omega) (bS.cell 0) (fun j hj => (hB4.cell (p := ⟨b, j, none⟩) hblt).trans (HI.out j hj))
  rw [HM.out] at cS
  rw [hW4]
  refine cS.mono ?_
  rintro e W5 ⟨gs, c5, rfl, hsrt, hb5⟩
  have HSrt := Lib.hid hsrt
  have hmed := hsrt ((m - 1) / 2) (by omega)
  have HB5 := Lib.hid (hB4.trans (hb5.mono (by omega)))
  have d6 : Blk W5 _ _ _ := b6.kept (Kept.of_below hb5 fun _ => False) (fun h => h)
  have d8 : Blk W5 _ _ _ := b8.kept (Kept.of_below hb5 fun _ => False) (fun h => h)
  have d9 : Blk W5 _ _ _ := b9.kept (Kept.of_below hb5 fun _ => False) (fun h => h)
  have HMed := Lib.hid (show (isort zs)[(m - 1) / 2]?.getD 0 = medZ zs by unfold medZ; rw [HM.out])
  rw [HMed.out] at hmed
  generalize medZ zs = hv at *
  have hw1 : IntKind.i64.wrap ((m : Int) - 1) = ((m - 1 : Nat) : Int) := by rw [IntKind.wrap_i64]; omega
  have hw2 : ((m - 1 : Nat) : Int).tdiv 2 = (((m - 1) / 2 : Nat) : Int) := by rw [Int.tdiv_eq_ediv_of_nonneg (by omega)]; omega
  have hw3 : IntKind.i64.wrap (((m - 1) / 2 : Nat) : Int) = (((m - 1) / 2 : Nat) : Int) := by rw [IntKind.wrap_i64]; omega
  have i1 : (0 : Int) ≤ (((m - 1) / 2 : Nat) : Int) := by omega
  have i2 : (((m - 1) / 2 : Nat) : Int) < (m : Int) := by omega
  generalize (m - 1) / 2 = im at *
  clear cS hsrt hb5 bS b6 b8 b9 hW4 hB4
  gi_wp2_with (gi_at_call 28; refine (down_in (n - 1) _ _ _).mono ?_; rintro e w' ⟨rfl, rfl⟩)
  obtain ⟨W6, hW6⟩ : ∃ W6, ((W5.alloc (.cells #[.int .i64 hv] 3)).alloc (.cells #[.pointer (some ⟨g, 0, none⟩)] 24)).alloc (.cells #[.int .i64 commit] 3) = W6 := ⟨_, rfl⟩
  have hS6 : W6.heap.size = W5.heap.size + 3 := by rw [← hW6]; simp
  have hB6 : Below W5.heap.size W5 W6 := by rw [← hW6]; exact (((Below.refl _ W5).alloc (Nat.le_refl _) _).alloc (by simp) _).alloc (by simp; omega) _
  have e11 : Blk W6 W5.heap.size 3 #[.int .i64 hv] := by rw [← hW6]; exact ((Blk.new W5 _ _).alloc _).alloc _
  have eL : Blk W6 (W5.heap.size + 1) 24 #[.pointer (some ⟨g, 0, none⟩)] := by
    rw [← hW6]
    have := Blk.new (W5.alloc (.cells #[.int .i64 hv] 3)) 24 #[.pointer (some ⟨g, 0, none⟩)]
    rw [World.size_alloc] at this
    exact this.alloc _
  have eA : Blk W6 (W5.heap.size + 1 + 1) 3 #[.int .i64 commit] := by
    rw [← hW6]
    have := Blk.new ((W5.alloc (.cells #[.int .i64 hv] 3)).alloc (.cells #[.pointer (some ⟨g, 0, none⟩)] 24)) 3 #[.int .i64 commit]
    rw [World.size_alloc, World.size_alloc] at this
    exact this
  have e6 : Blk W6 _ _ _ := d6.kept (Kept.of_below hB6 fun _ => False) (fun h => h)
  have e8 : Blk W6 _ _ _ := d8.kept (Kept.of_below hB6 fun _ => False) (fun h => h)
  have e9 : Blk W6 _ _ _ := d9.kept (Kept.of_below hB6 fun _ => False) (fun h => h)
  have hBw : Below w.heap.size w W6 := HB5.out.trans (hB6.mono (by have := HB5.out.size; omega))
  obtain ⟨vl, hbL, hrL, _, _⟩ := HLog.out
  have E8 := Lib.hid e8
  have E9 := Lib.hid e9
  have E6 := Lib.hid e6
  have E11 := Lib.hid e11
  have hz5 := HB5.out.size
  rw [hW6]
  clear hmed d6 d8 d9 hW6 e8 e9 e6 e11
  refine range_own rfl h1 (gf := 43) (lb := #[.pointer (some ⟨W5.heap.size + 1, 0, none⟩), .pointer (some ⟨W5.heap.size + 1 + 1, 0, none⟩)]) rfl trivial (enters_of Try.func43 (by kernel_rfl) rfl)
    (down_stops (n - 1) (by omega) _ (W5.heap.size + 1) (W5.heap.size + 1 + 1) g s vl commit hb0 hl W6 (eL.cell 0) (eA.cell 0) (hbL.kept (Kept.of_below hBw fun _ => False) (fun h => h)) (hrL.kept (Kept.of_below hBw fun _ => False) (fun _ _ h => h)))
    (fun h k => h.trans k) (fun X o o' ho hc => (CellsStay.refl X).putObj o' ho hc) (Below.refl _ _) (fun _ => rfl)
    (fun pre X => (∀ y ∈ pre, hitD hv term y = false) ∧ CellsStay W6 X ∧ Below w.heap.size w X)
    (fun pre X => ∃ ini x, pre = ini ++ [x] ∧ (∀ y ∈ ini, hitD hv term y = false) ∧ hitD hv term x = true ∧ Blk X (w.heap.size + 1) 3 #[.int .i64 x.1] ∧ Blk X (w.heap.size + 1 + 1) 29 #[.int .i64 0] ∧ Below w.heap.size w X)
    (fun pre X Y row hs hg hr => ⟨hs.1, CellsStay.ownFrom W6 _ () X Y row hs.2.1 hg hr, ownFrom_below (β := Unit) (B := W6.heap.size) (Nat.le_refl _) (by omega) () X Y row hs.2.2 hg hr⟩)
    (fun pre X Y row hs hg hr => by
      obtain ⟨ini, x, e, ha, hx, k1, k2, hb⟩ := hs
      exact ⟨ini, x, e, ha, hx, blk_row k1 hg hr, blk_row k2 hg hr, ownFrom_below (β := Unit) (B := W6.heap.size) (Nat.le_refl _) (by omega) () X Y row hb hg hr⟩)
    ⟨by simp, CellsStay.refl _, hBw⟩
    (fun x a' X => a' = { tmps := #[.pointer (some ⟨g, 0, none⟩), .slice (some ⟨b, 0, none⟩) m cap, .int .i64 term, .int .i64 commit, undef, undef, .pointer (some ⟨w.heap.size, 0, none⟩), undef, .pointer (some ⟨w.heap.size + 1, 0, none⟩), .pointer (some ⟨w.heap.size + 1 + 1, 0, none⟩), .slice (some ⟨gs, 0, none⟩) m c5, .pointer (some ⟨W5.heap.size, 0, none⟩), .int .i64 x.1, .int .i64 x.2, .slice (some ⟨b, 0, none⟩) m cap, .int .i64 m, .bool false, .bool false, .int .i64 commit, .bool false, .bool false, .slice (some ⟨b, 0, none⟩) m cap, .func (.func 42) #[] #[.pointer (some ⟨w.heap.size + 1 + 1 + 1, 0, none⟩)], .slice (some ⟨gs, 0, none⟩) m c5, .slice (some ⟨gs, 0, none⟩) m c5, .slice (some ⟨gs, 0, none⟩) m c5, .int .i64 m, .int .i64 ((m - 1 : Nat) : Int), .int .i64 im, .pointer (some ⟨gs, im, none⟩), .int .i64 hv, .pointer (some ⟨g, 0, none⟩), .int .i64 commit, .func (.func 43) #[] #[.pointer (some ⟨W5.heap.size + 1, 0, none⟩), .pointer (some ⟨W5.heap.size + 1 + 1, 0, none⟩)], .int .i64 x.1, .int .i64 x.2, undef, undef, undef, undef, undef, undef, undef, undef, undef, undef], defers := [] })
    (fun x a' _ X Y row hs hg hr => hs) ?assign ?body ?done ?stop
  case assign =>
    intro l2 pre x X K hi hK
    gi_wp2
    exact hK _ _ (KeepsFrom.refl _ _) (CellsStay.refl X) hi rfl
  case body =>
    rintro l2 pre x a' X ⟨hall, hcs, hbl⟩ rfl hlen
    have k6 := (hcs.blk E6.out).cell 0
    have k11 := (hcs.blk E11.out).cell 0
    have K8 := hcs.blk E8.out
    have K9 := hcs.blk E9.out
    have k8 := K8.cell 0
    have k9 := K9.cell 0
    have f8 := K8.frozen 0
    have f9 := K9.frozen 0
    have HALL := Lib.hid hall
    have HCS := Lib.hid hcs
    have HBL := Lib.hid hbl
    obtain ⟨x1, x2⟩ := x
    dsimp only
    clear hall hcs hbl
    by_cases ha : x1 ≤ hv
    · by_cases hb : x2 = term
      · have q1 : decide (x1 ≤ hv) = true := decide_eq_true ha
        subst hb
        gi_wp2
        refine ⟨((KeepsOthers.setCell _ _ _).trans (KeepsOthers.setCell _ _ _)).from _, pre, (x1, x2), rfl, HALL.out, by simp [hitD, q1], ?_, ?_, (HBL.out.setCell (p := ⟨w.heap.size + 1, 0, none⟩) (by simp) _).setCell (p := ⟨w.heap.size + 1 + 1, 0, none⟩) (by simp; omega) _⟩
        · exact (K8.set_ 0 _).far (by simp) _
        · exact (K9.far (by simp) _).set_ 0 _
      · have q1 : decide (x1 ≤ hv) = true := decide_eq_true ha
        have q2 : decide (x2 = term) = false := decide_eq_false hb
        gi_wp2
        have L := all_snoc HALL.out (x := (x1, x2)) (by simp [hitD, q2])
        exact ⟨KeepsFrom.refl _ _, CellsStay.refl _, by first | exact L | exact (fun a b h => L (a, b) h), HCS.out, HBL.out⟩
    · have q1 : decide (x1 ≤ hv) = false := decide_eq_false ha
      gi_wp2
      have L := all_snoc HALL.out (x := (x1, x2)) (by simp [hitD, q1])
      exact ⟨KeepsFrom.refl _ _, CellsStay.refl _, by first | exact L | exact (fun a b h => L (a, b) h), HCS.out, HBL.out⟩
  case done =>
    rintro D ys X hD rfl ⟨hall, hcs, hbl⟩ hK
    have K8 := hcs.blk E8.out
    have K9 := hcs.blk E9.out
    have k8 := K8.cell 0
    have k9 := K9.cell 0
    have f8 := K8.frozen 0
    have f9 := K9.frozen 0
    obtain rfl : R = commit := by
      have h1 := HR.out
      unfold LogS.agreedN at h1
      have := find_none hall
      unfold hitD at this
      rw [this] at h1
      exact h1.symm
    have HBL := Lib.hid hbl
    clear hall hcs hbl
    gi_wp2
    have hko := (KeepsOthers.setCell X ⟨w.heap.size + 1, 0, none⟩ (.int .i64 R)).trans (KeepsOthers.setCell _ ⟨w.heap.size + 1 + 1, 0, none⟩ (.int .i64 0))
    have hK' := hko.same D _ hK rfl
    have K8' := (K8.set_ 0 (.int .i64 R)).far (p := ⟨w.heap.size + 1 + 1, 0, none⟩) (by simp) (.int .i64 0)
    have K9' := (K9.far (p := ⟨w.heap.size + 1, 0, none⟩) (by simp) (.int .i64 R)).set_ 0 (.int .i64 0)
    refine ⟨by simp, .inl ⟨_, _, rfl, run_takeDeferred hK', ?_⟩⟩
    have hc8 := cell_kept (K8'.cell 0) (grownBy_putObj' _ D (.deferred none)) (fun r e => by cases e; exact ⟨_, hK', rfl⟩)
    have hc9 := cell_kept (K9'.cell 0) (grownBy_putObj' _ D (.deferred none)) (fun r e => by cases e; exact ⟨_, hK', rfl⟩)
    have hbl2 := (HBL.out.setCell (p := ⟨w.heap.size + 1, 0, none⟩) (by simp) (.int .i64 R)).setCell (p := ⟨w.heap.size + 1 + 1, 0, none⟩) (by simp; omega) (.int .i64 0)
    refine ⟨.tuple #[.int .i64 R, .int .i64 0], ?_, rfl, hbl2.trans (belowK_b (w := w) (Nat.le_refl _) _ D _ _ (by omega) hK' rfl rfl)⟩
    simp [results, Try.f13, go_sem, hc8, hc9]
  case stop =>
    rintro D pre X hD ⟨k, hk, hpre⟩ ⟨ini, x, rfl, hall, hx, K8, K9, hbl⟩ hK
    obtain ⟨rfl, rfl⟩ := upto_snoc hpre
    have hres : R = (dn s k).1 := by
      have h1 := HR.out
      unfold LogS.agreedN at h1
      have := find_upto hk hall hx
      unfold hitD at this
      rw [this] at h1
      exact h1.symm
    rw [← hres] at K8
    have k8 := K8.cell 0
    have k9 := K9.cell 0
    gi_wp2
    refine ⟨by simp, .inl ⟨_, _, rfl, run_takeDeferred hK, ?_⟩⟩
    have hc8 := cell_kept k8 (grownBy_putObj' _ D (.deferred none)) (fun r e => by cases e; exact ⟨_, hK, rfl⟩)
    have hc9 := cell_kept k9 (grownBy_putObj' _ D (.deferred none)) (fun r e => by cases e; exact ⟨_, hK, rfl⟩)
    refine ⟨.tuple #[.int .i64 R, .int .i64 0], ?_, rfl, hbl.trans (belowK_b (w := w) (Nat.le_refl _) _ D _ _ (by omega) hK rfl rfl)⟩
    simp [results, Try.f13, go_sem, hc8, hc9]
end Go.Proofs.Ytpimpdgibcjbeaa
