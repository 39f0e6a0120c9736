-- written by a program of ours (several texts, one behind the other)
import Derived.RangeFuncBox
import Derived.RangeFuncNested
import Derived.RangeFuncBound
import Derived.RangeFuncLeaves
import Derived.OwnWalkIn
import Derived.TacticsInMore
import Derived.LoopNIn
import Derived.LoopIn
import Derived.RegionIn
import Derived.Sort.MapsRangeIn
import Derived.Test.YtcpenjbgiecgnaaOMap
import Derived.Test.YtcpenjbgiecgnaaOSort
import Derived.OwnWalk
import Derived.Shelf.Slices.In.SortNone
import Derived.Deep.AppendLies
namespace Go.Proofs.Ytcpenjbgiecgnaa
open Go Go.RowKit Go.Shelf
open Go.Maps (Keyed IsMap)
set_option linter.unusedVariables false
set_option linter.unusedSimpArgs false
attribute [local go_sem] Oper.semAt_some

/-! maps.Keys of a map from whole numbers, and slices.AppendSeq, Collect, Sorted of it. -/
theorem int_key {v : Value} {kl : Lit} (h : keyOf Try.prog 3 v = some kl) : ∃ x : Int, v = .int .i64 x ∧ kl = .int .i64 x ∧ (Lit.int .i64 x).wf = true := by
  have hk := Try.underlying3
  cases v <;> simp [keyOf, hk, mapKey] at h
  obtain ⟨⟨rfl, h2⟩, rfl⟩ := h
  exact ⟨_, rfl, rfl, h2⟩
/-- The keys that have been met. -/
structure Met (D : DataW Value) (left : Lit → Bool) (ss : List Int) : Prop where
  in_ : ∀ k, k ∈ ss → Maps.has D (.int .i64 k) = true ∧ left (.int .i64 k) = false
  wf : ∀ k, k ∈ ss → (Lit.int .i64 k).wf = true
  nodup : ss.Nodup
  all : ∀ k, Maps.has D (.int .i64 k) = true → left (.int .i64 k) = true ∨ k ∈ ss
theorem Met.start (D : DataW Value) : Met D (Maps.has D) [] := ⟨fun k h => by simp at h, fun k h => by simp at h, List.nodup_nil, fun k h => .inl h⟩
theorem Met.step {D : DataW Value} {left : Lit → Bool} {ss : List Int} (h : Met D left ss) {x : Int} (hl : left (.int .i64 x) = true) {y : DataW Value} (hat : ∀ zd, D.atKey (.int .i64 x) zd = y) (hw : (Lit.int .i64 x).wf = true) : Met D (fun z => left z && !z.sameKey (.int .i64 x)) (ss ++ [x]) := by
  have hs : (Lit.int .i64 x).sameKey (.int .i64 x) = true := WideAt.sameKey_self (by trivial)
  refine ⟨fun k hk => ?_, fun k hk => ?_, ?_, fun k hk => ?_⟩
  · rcases List.mem_append.1 hk with hk | hk
    · obtain ⟨h1, h2⟩ := h.in_ k hk
      exact ⟨h1, by simp [h2]⟩
    · rw [List.mem_singleton.1 hk]
      exact ⟨Maps.has_true_of_atKey hat, by simp [hs]⟩
  · rcases List.mem_append.1 hk with hk | hk
    · exact h.wf k hk
    · rw [List.mem_singleton.1 hk]
      exact hw
  · refine List.nodup_append.2 ⟨h.nodup, by simp, fun a ha b hb => ?_⟩
    rw [List.mem_singleton.1 hb]
    rintro rfl
    have := (h.in_ _ ha).2
    rw [hl] at this
    cases this
  · rcases h.all k hk with hk | hk
    · by_cases hkx : k = x
      · exact .inr (by rw [hkx]; simp)
      · left
        have : (Lit.int .i64 k).sameKey (.int .i64 x) = false := Maps.sameKey_ne (fun e => hkx (by injection e))
        simp [hk, this]
    · exact .inr (List.mem_append_left _ hk)
set_option maxRecDepth 100000 in
set_option maxHeartbeats 2000000 in
theorem ikeys1_in (n : Nat) (hn : 1 ≤ n) (l Bm b nn : Nat) (D0 : DataW Value) (J Jx : List Int → World → Prop) (W : World) (hJ : AbidesFrom W.heap.size J)
    (hY : ∀ pre x W1, J pre W1 → pre.length < Maps.size D0 → YieldAt Fence.wide (n - 1) Try.prog l #[.int .i64 x] W1 fun e W' =>
      (e = .returned (.bool true) ∧ J (pre ++ [x]) W' ∧ KeepsWalks W1 W') ∨ (e = .returned (.bool false) ∧ Jx (pre ++ [x]) W'))
    (hm : W.cell? ⟨Bm, 0, none⟩ = some (.map (some b))) (hown : W.ownsMap Try.prog 3 tokR b nn D0) (h0 : J [] W) :
    CallsIn Fence.wide n Try.prog 40 #[.func (.yield l) #[] #[], .pointer (some ⟨Bm, 0, none⟩)] W fun e W' => (∃ v, e = .returned v) ∧
      ((∃ ys, (ys.Nodup ∧ (∀ k, k ∈ ys → (Lit.int .i64 k).wf = true) ∧ ∀ k, k ∈ ys ↔ Maps.has D0 (.int .i64 k) = true) ∧ J ys W') ∨ (∃ pre, True ∧ Jx pre W')) := by
  refine callsIn_of_wp Try.func40 rfl trivial ?_ rfl
  simp only [Try.ntmps40, List.size_toArray, List.length_cons, List.length_nil, Nat.reduceAdd, Nat.reduceSub, Array.replicate_succ, Array.replicate_zero, List.push_toArray, List.append_toArray, List.nil_append, List.cons_append]
  gi_wp2_with (first
    | (gi_at_range; refine wpListIn_range_own _ rfl _ 51 rfl 3 54 (Maps.int_keyed Try.underlying3) Try.underlying51 tokR b nn D0 rfl hown ?_; intro w0 hrg0 hg0 hs0)
    | gi_in)
  go_frame
  gi_loopw [3] (fun _ wr => ∃ (left : Lit → Bool) (cnt : Nat) (ss : List Int), wr.ranges Try.prog 3 tokR b W.heap.size nn D0 left cnt ∧ Met D0 left ss ∧ ss.length + cnt ≤ Maps.size D0 ∧ J ss wr)
    (fun _ wr => wr.rangeLeft b W.heap.size)
  case atStart =>
    exact ⟨_, _, [], hrg0, Met.start D0, by simp, hJ [] W w0 none h0 hg0 (fun r e => by cases e)⟩
  case round =>
    obtain ⟨left, cnt, ss, hrg, hC, hcn, hJs⟩ := hrel
    gi_wp2_with (first
      | (gi_at_next; refine wpListIn_next_ranges _ rfl _ rfl 3 (Maps.int_keyed Try.underlying3) tokR (Value.int .i64) id (fun key kl hk => by obtain ⟨x, hx, _⟩ := int_key hk; exact ⟨x, hx⟩) (fun v _ _ => ⟨v, rfl⟩) b W.heap.size nn _ _ _ rfl hrg ?_ ?_)
      | gi_in)
    · intro hc0 hl0
      gi_wp2
      go_end0
      refine ⟨⟨_, rfl⟩, .inl ⟨ss, ⟨hC.nodup, hC.wf, fun k => ⟨fun hk => (hC.in_ k hk).1, fun hk => (hC.all k hk).resolve_left (by rw [hl0]; simp)⟩⟩, hJs⟩⟩
    · intro x c kl yd yp w2 cnt2 hkey hlk hv hat hrg2 hlt hg2 hs2 hen
      obtain ⟨x', ex, rfl, hxw⟩ := int_key hkey
      injection ex with _ ex
      subst ex
      have hJ2 : J ss w2 := hJ ss wr w2 (some W.heap.size) hJs hg2 (fun r e => ⟨by cases e; exact Nat.le_refl _, by cases e; exact hrg.iter_walk⟩)
      obtain ⟨fn, tmps, assign, body, hy, hR⟩ := hY ss x w2 hJ2 (by omega)
      clear hs2
      gi_wp2
      refine hR.mono ?_
      rintro e W3 (⟨rfl, hJ3, hk3⟩ | ⟨rfl, hJx3⟩)
      · gi_wp2
        have hrg3 := hrg2.of_walks hk3
        go_roundw
        case rel => exact ⟨_, cnt2, ss ++ [x], hrg3, hC.step hlk hat hxw, by rw [List.length_append]; simp; omega, hJ3⟩
        case measure => rw [hrg3.left_eq, hrg.left_eq]; exact hlt
      · gi_wp2
        refine bodyPost_ret (results_none rfl _ _ _) rfl ?_
        exact ⟨⟨_, rfl⟩, .inr ⟨_, trivial, hJx3⟩⟩
set_option maxHeartbeats 1000000 in
theorem ikeys_in (n : Nat) (mb : Option Nat) (w : World) :
    CallsIn Fence.wide n Try.prog 30 #[.map mb] w fun e w' => e = .returned (.func (.func 40) #[] #[.pointer (some ⟨w.heap.size, 0, none⟩)]) ∧ w' = w.alloc (.cells #[.map mb] 51) := by
  refine callsIn_of_wp Try.func30 rfl trivial ?_ rfl
  simp only [Try.ntmps30, List.size_toArray, List.length_cons, List.length_nil, Nat.reduceAdd, Nat.reduceSub, Array.replicate_succ, Array.replicate_zero, List.push_toArray, List.append_toArray, List.nil_append, List.cons_append]
  gi_wp2
  go_ret
  exact ⟨rfl, rfl⟩
theorem ikeys_stops (n : Nat) (hn : 1 ≤ n) (Bm b nn : Nat) (D0 : DataW Value) (w : World) (hBm : Bm < w.heap.size) (hm : w.cell? ⟨Bm, 0, none⟩ = some (.map (some b))) (hown : w.ownsMap Try.prog 3 tokR b nn D0) :
    SeqStopsK Fence.wide n Try.prog 40 #[.pointer (some ⟨Bm, 0, none⟩)] (fun x : Int => #[Value.int .i64 x]) KeepsWalks (fun ys => ys.Nodup ∧ (∀ k, k ∈ ys → (Lit.int .i64 k).wf = true) ∧ ∀ k, k ∈ ys ↔ Maps.has D0 (.int .i64 k) = true) (fun _ => True) (Maps.size D0) w := fun l J Jx W hW hJ _ hY h0 => by
  have hown' : W.ownsMap Try.prog 3 tokR b nn D0 := by
    have hbl := hown.lt
    obtain ⟨es, clock, hb, rest⟩ := hown
    exact ⟨es, clock, (hW.block b hbl).trans hb, rest⟩
  exact ikeys1_in n hn l Bm b nn D0 J Jx W hJ hY ((hW.cell (p := ⟨Bm, 0, none⟩) hBm).trans hm) hown' h0
end Go.Proofs.Ytcpenjbgiecgnaa
namespace Go.Proofs.Ytcpenjbgiecgnaa
open Go Go.RowKit Go.Shelf
set_option linter.unusedVariables false
set_option linter.unusedSimpArgs false
attribute [local go_sem] Oper.semAt_some

/-! slices.AppendSeq(nil, seq), slices.Collect, slices.Sorted at whole numbers, against whatever iterator that gives. -/
theorem walks_put (W : World) (l : Nat) (o o' : Obj) (ho : W.heap[l]? = some o) (hw : o.isWalk = false) : KeepsWalks W (W.putObj l o') :=
  ⟨by simp [World.putObj], fun k p hk hp => (World.putObj_heap_other (fun e => by subst e; rw [ho] at hk; injection hk with hk; rw [← hk, hw] at hp; cases hp)).trans hk⟩
theorem info_intz : (Try.prog.info? 3).map (fun i => (i.zero, i.size, i.bytes)) = some (some (.int .i64 0), 1, 8) := by kernel_rfl
set_option maxRecDepth 100000 in
set_option maxHeartbeats 2000000 in
theorem iappend_in (n : Nat) (hn : 3 ≤ n) (g : Nat) (lb : Array Value) (eg : ∀ args w, (callFunc g args).run Try.prog w = .ok (.enter g args) w) (S : List Int → Prop) (N : Nat) (hN : N * 8 ≤ 140737488351232) (w : World)
    (hseq : SeqStopsK Fence.wide (n - 1) Try.prog g lb (fun x : Int => #[Value.int .i64 x]) KeepsWalks S (fun _ => True) N w) :
    CallsIn Fence.wide n Try.prog 51 #[.slice none 0 0, .func (.func g) #[] lb] w fun e W' => ∃ v ys, e = .returned v ∧ S ys ∧ ys.length ≤ N ∧ W'.ownsRow w.heap.size 3 1 v ys.length (ys.map (Value.int .i64)) ∧ Below w.heap.size w W' := by
  have h1 : 1 ≤ n := by omega
  obtain ⟨i0, hi, hzz⟩ := Option.map_eq_some_iff.1 info_intz
  simp only [Prod.mk.injEq] at hzz
  obtain ⟨hz0, hz1, hz2⟩ := hzz
  refine callsIn_of_wp_marks Try.func51 rfl trivial ?_ rfl
  simp only [Try.ntmps51, List.size_toArray, List.length_cons, List.length_nil, Nat.reduceAdd, Nat.reduceSub, Array.replicate_succ, Array.replicate_zero, List.push_toArray, List.append_toArray, List.nil_append, List.cons_append]
  gi_wp2
  have bO := Boxed.new w 40 (.slice none 0 0)
  have hB0 : Below w.heap.size w (w.alloc (.cells #[.slice none 0 0] 40)) := (Below.refl _ w).alloc (Nat.le_refl _) _
  refine wpIn_rangeFunc_ownG rfl h1 (gf := g) (lb := lb) rfl trivial eg hseq
    (fun h k => h.trans k) (fun W l o o' _ ho _ hw => walks_put W l o o' ho hw) hB0 (fun _ => rfl)
    (fun pre W => ((∃ v, Boxed W w.heap.size 40 v ∧ W.ownsRow w.heap.size 3 1 v pre.length (pre.map (Value.int .i64)) ∧ True) ∧ Below w.heap.size w W) ∧ pre.length ≤ N)
    (fun _ _ _ => False)
    (fun s X Y row hs hg hr => ⟨OwnFrom.and (Own.from (holdsRow_own w.heap.size w.heap.size 40 3 1 (fun pre : List Int => pre.length) (fun pre => pre.map (Value.int .i64)) (fun pre v => True)) _) (ownFrom_below (Nat.le_refl _) (by simp)) s X Y row hs.1 hg hr, hs.2⟩)
    (fun _ _ _ _ _ hs _ _ => hs)
    ⟨⟨⟨_, bO, World.ownsRow_nil _ _ _ _, trivial⟩, hB0⟩, Nat.zero_le _⟩
    (fun x => { tmps := #[.slice none 0 0, .func (.func g) #[] lb, .pointer (some ⟨w.heap.size, 0, none⟩), undef, .slice none 0 0, .int .i64 x, .func (.func g) #[] lb, .int .i64 x, undef, undef, undef, undef, undef], defers := [] }) ?assign ?body ?done ?stop
  case assign =>
    intro l x W K hK
    gi_wp2
    exact hK
  case body =>
    rintro l pre x W ⟨⟨⟨v, hv, hrow, _⟩, hB⟩, _⟩ hlt
    have hc := hv.cell
    gi_wp2_with (gi_at_builtin; refine wpListIn_append_own _ rfl _ _ 40 rfl w.heap.size 3 i0 (.int .i64 0) 1 8 Try.underlying40 hi hz0 hz1 hz2 rfl (by decide) _ _ _ rfl (hrow.alloc _) ⟨W.heap.size, 0, none⟩ 1 1 [.int .i64 x] rfl rfl (cell_one_new _ _ _) (by simp [Value.oneCell']) (by simp only [maxLen]; omega) (by omega) (by have := hB.size; simp; omega) ?_; intro v' w1 hown' hgrow _; obtain ⟨g', cap', rfl⟩ := ownsRow_succ hown'; obtain ⟨hv1, hv2, hr2, hk2, hb2⟩ := hv.appended (by decide) hrow hB.size (Nat.le_refl _) hown' hgrow; have hc1 := hv1.cell; have hf1 := hv1.frozen)
    exact ⟨hk2.from _, hk2.walks, ⟨⟨_, hv2, by simpa using hr2, trivial⟩, hB.trans hb2⟩, by rw [List.length_append]; exact hlt⟩
  case done =>
    rintro D ys W hD hS ⟨⟨⟨v, hv, hrow, _⟩, hB⟩, hlen⟩ hK
    have hc := hv.cell
    gi_wp2
    refine ⟨by simp, .inl ⟨_, _, rfl, run_takeDeferred hK, ?_⟩⟩
    exact ⟨_, results_tmp rfl _ _ _, v, ys, rfl, hS, hlen, ownsRow_putObj hrow _ hK rfl, hB.trans (belowK_b (w := w) (Nat.le_refl _) W D _ _ (by simp at hD; omega) hK rfl rfl)⟩
  case stop =>
    rintro D c pre W _ _ h _
    exact h.elim
set_option maxHeartbeats 1000000 in
theorem icollect_in (n : Nat) (hn : 4 ≤ n) (g : Nat) (lb : Array Value) (eg : ∀ args w, (callFunc g args).run Try.prog w = .ok (.enter g args) w) (S : List Int → Prop) (N : Nat) (hN : N * 8 ≤ 140737488351232) (w : World)
    (hseq : SeqStopsK Fence.wide (n - 1 - 1) Try.prog g lb (fun x : Int => #[Value.int .i64 x]) KeepsWalks S (fun _ => True) N w) :
    CallsIn Fence.wide n Try.prog 38 #[.func (.func g) #[] lb] w fun e W' => ∃ v ys, e = .returned v ∧ S ys ∧ ys.length ≤ N ∧ W'.ownsRow w.heap.size 3 1 v ys.length (ys.map (Value.int .i64)) ∧ Below w.heap.size w W' := by
  have hf : Fence.wide.fn 51 := trivial
  have h1 : 1 ≤ n := by omega
  have hx := iappend_in (n - 1) (by omega) g lb eg S N hN w hseq
  refine callsIn_of_wp Try.func38 rfl trivial ?_ rfl
  simp only [Try.ntmps38, List.size_toArray, List.length_cons, List.length_nil, Nat.reduceAdd, Nat.reduceSub, Array.replicate_succ, Array.replicate_zero, List.push_toArray, List.append_toArray, List.nil_append, List.cons_append]
  gi_wp2_with (gi_at_call 51; refine hx.mono ?_; rintro e W ⟨v, ys, rfl, hS, hlen, hrow, hbw⟩)
  go_ret
  exact ⟨v, ys, rfl, hS, hlen, hrow, hbw⟩
def isort (zs : List Int) : List Int := zs.mergeSort fun x y => decide (x ≤ y)
theorem isort_length (zs : List Int) : (isort zs).length = zs.length := List.length_mergeSort ..
theorem sort_none (p : Option Addr) (cap : Nat) (w : World) : Calls Try.prog 39 #[.slice p 0 cap] w fun e w' => e = .returned (.tuple #[]) ∧ w' = w :=
  Any.slices_Sort_int_none sortLays p cap w
set_option maxRecDepth 100000 in
set_option maxHeartbeats 1000000 in
theorem isorted_in (n : Nat) (hn : 5 ≤ n) (g : Nat) (lb : Array Value) (eg : ∀ args w, (callFunc g args).run Try.prog w = .ok (.enter g args) w) (S : List Int → Prop) (N : Nat) (hN : N * 8 ≤ 140737488351232) (w : World)
    (hseq : SeqStopsK Fence.wide (n - 1 - 1 - 1) Try.prog g lb (fun x : Int => #[Value.int .i64 x]) KeepsWalks S (fun _ => True) N w) :
    CallsIn Fence.wide n Try.prog 29 #[.func (.func g) #[] lb] w fun e W' => ∃ v ys, e = .returned v ∧ S ys ∧ W'.ownsRow w.heap.size 3 1 v ys.length ((isort ys).map (Value.int .i64)) ∧ Below w.heap.size w W' := by
  have hf : Fence.wide.fn 38 := trivial
  have hf2 : Fence.wide.fn 39 := trivial
  have h1 : 1 ≤ n := by omega
  have hx := icollect_in (n - 1) (by omega) g lb eg S N hN w hseq
  refine callsIn_of_wp Try.func29 rfl trivial ?_ rfl
  simp only [Try.ntmps29, List.size_toArray, List.length_cons, List.length_nil, Nat.reduceAdd, Nat.reduceSub, Array.replicate_succ, Array.replicate_zero, List.push_toArray, List.append_toArray, List.nil_append, List.cons_append]
  gi_wp2_with (gi_at_call 38; refine hx.mono ?_; rintro e W ⟨v, ys, rfl, hS, hlen, hrow, hbw⟩)
  rcases hrow.2 with ⟨rfl, h0⟩ | ⟨g, c, cur, rfl, hbase, hgb, r1, r2, r3, r4⟩
  · obtain rfl : ys = [] := List.eq_nil_of_length_eq_zero h0
    have cS : CallsIn Fence.wide (n - 1) Try.prog 39 #[.slice none 0 0] W _ := callsIn_wide.2 (sort_none none 0 W)
    gi_wp2_with (gi_at_call 39; refine cS.mono ?_; rintro e w' ⟨rfl, rfl⟩)
    go_ret
    exact ⟨_, [], rfl, hS, by simpa [isort] using hrow, hbw⟩
  have hgl : g < W.heap.size := (Array.getElem?_eq_some_iff.1 hgb).1
  have cS : CallsIn Fence.wide (n - 1) Try.prog 39 #[.slice (some ⟨g, 0, none⟩) ys.length c] W _ := callsIn_wide.2 (sort_ints g 0 c ys W (holds_of_blockI hgb (by simpa using r4)) hgl (by omega))
  gi_wp2_with (gi_at_call 39; refine cS.mono ?_; rintro e w' ⟨rfl, nn, os, rfl⟩)
  go_ret
  exact ⟨_, ys, rfl, hS, ownsRow_sortedI (n := nn) (os := os) (ss := ys) (ts := isort ys) (isort_length ys) hbase hgb r1 r2 r3, hbw.grown (grownBy_sortedI _) hbw.size (fun j hj => by cases hj; exact hbase)⟩
end Go.Proofs.Ytcpenjbgiecgnaa
