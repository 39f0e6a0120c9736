-- written by a program of ours (several texts, one behind the other)
import Derived.Test.YtdfdlajfjcakaaaGreatCnM
import Derived.Test.YtdfdlajfjcakaaaGreatCnN
namespace Go.Proofs.YtdfdlajfjcakaaaGreat
open Go Go.RowKit
open Go.Proofs.YtdfdlajfjcakaaaGreatW.PrintLast
set_option linter.unusedVariables false
set_option linter.unusedSimpArgs false
set_option maxRecDepth 100000

/-! Several members, apart from one another. -/
structure Node where (g : Nat) (F : Nat → Prop) (m : Mem)
structure Group (w : World) (B : Nat) (l : List Node) : Prop where
  at_ : ∀ (i : Nat) (x : Node), l[i]? = some x → MemAt w x.F x.g x.m
  new : ∀ (i : Nat) (x : Node), l[i]? = some x → ∀ k, x.F k → B ≤ k
  apart : ∀ (i j : Nat) (x y : Node), l[i]? = some x → l[j]? = some y → i ≠ j → ∀ k, x.F k → ¬ y.F k
/-- A block that no member has. -/
def Alone (l : List Node) (k : Nat) : Prop := ∀ (i : Nat) (x : Node), l[i]? = some x → ¬ x.F k
section
variable {w w' : World} {B : Nat} {l : List Node}
theorem Group.nil : Group w B [] := ⟨fun i x h => by simp at h, fun i x h => by simp at h, fun i j x y h => by simp at h⟩
theorem Group.below (h : Group w B l) (hb : Below w.heap.size w w') : Group w' B l := ⟨fun i x hx => (h.at_ i x hx).below hb, h.new, h.apart⟩
theorem Group.kept {S : Nat → Prop} (h : Group w B l) (hk : Kept w w' S) (hd : ∀ k, S k → Alone l k) (hz : Frz w S) : Group w' B l := ⟨fun i x hx => (h.at_ i x hx).kept hk (fun k hf hs => hd k hs i x hx hf) hz, h.new, h.apart⟩
theorem Group.snoc (h : Group w B l) {x : Node} (hm : MemAt w x.F x.g x.m) (hn : ∀ k, x.F k → B ≤ k) (ha : ∀ k, x.F k → Alone l k) : Group w B (l ++ [x]) := by
  have key : ∀ (i : Nat) (y : Node), (l ++ [x])[i]? = some y → (i < l.length ∧ l[i]? = some y) ∨ (i = l.length ∧ y = x) := by
    intro i y hy
    rcases Nat.lt_or_ge i l.length with hi | hi
    · rw [List.getElem?_append_left hi] at hy
      exact .inl ⟨hi, hy⟩
    · rw [List.getElem?_append_right hi] at hy
      have : i - l.length = 0 := by have := (List.getElem?_eq_some_iff.1 hy).1; simp at this; omega
      rw [this] at hy
      injection hy with hy
      exact .inr ⟨by omega, hy.symm⟩
  refine ⟨fun i y hy => ?_, fun i y hy => ?_, fun i j y z hy hz hij k h1 h2 => ?_⟩
  · rcases key i y hy with ⟨_, e⟩ | ⟨_, rfl⟩
    · exact h.at_ i y e
    · exact hm
  · rcases key i y hy with ⟨_, e⟩ | ⟨_, rfl⟩
    · exact h.new i y e
    · exact hn
  · rcases key i y hy with ⟨_, e⟩ | ⟨e0, rfl⟩ <;> rcases key j z hz with ⟨_, e'⟩ | ⟨e1, rfl⟩
    · exact h.apart i j y z e e' hij k h1 h2
    · exact ha k h2 i y e h1
    · exact ha k h1 j z e' h2
    · omega
/-- One member has turned. -/
theorem Group.turn (h : Group w B l) (hw : B ≤ w.heap.size) {i : Nat} {x : Node} (hx : l[i]? = some x) {m' : Mem} {F' : Nat → Prop} (hm : MemAt w' F' x.g m') (hk : Kept w w' x.F) (hf : ∀ k, F' k → x.F k ∨ w.heap.size ≤ k) : Group w' B (l.set i ⟨x.g, F', m'⟩) ∧ ∀ k, k < w.heap.size → Alone l k → Alone (l.set i ⟨x.g, F', m'⟩) k := by
  have hz := (h.at_ i x hx).frz
  have hil : i < l.length := (List.getElem?_eq_some_iff.1 hx).1
  refine ⟨⟨fun j y hy => ?_, fun j y hy => ?_, fun a b y z hy hz' hab k h1 h2 => ?_⟩, fun k hlt ha j y hy => ?_⟩
  · rw [List.getElem?_set] at hy
    split at hy
    · injection hy with hy
      subst hy
      exact hm
    · rename_i hne
      exact (h.at_ j y hy).kept hk (fun k hfy hs => h.apart i j x y hx hy hne k hs hfy) hz
  · intro k hk'
    rw [List.getElem?_set] at hy
    split at hy
    · injection hy with hy
      subst hy
      rcases hf k hk' with e | e
      · exact h.new i x hx k e
      · omega
    · exact h.new j y hy k hk'
  · rw [List.getElem?_set] at hy hz'
    split at hy <;> split at hz'
    · omega
    · rename_i e1 e2
      injection hy with hy
      subst hy
      rcases hf k h1 with e | e
      · exact h.apart i b x z hx hz' e2 k e h2
      · have := (h.at_ b z hz').flt k h2; omega
    · rename_i e1 e2
      injection hz' with hz'
      subst hz'
      rcases hf k h2 with e | e
      · exact h.apart i a x y hx hy e1 k e h1
      · have := (h.at_ a y hy).flt k h1; omega
    · exact h.apart a b y z hy hz' hab k h1 h2
  · intro hfy
    rw [List.getElem?_set] at hy
    split at hy
    · injection hy with hy
      subst hy
      rcases hf k hfy with e | e
      · exact ha i x hx e
      · omega
    · exact ha j y hy hfy
theorem Group.call (h : Group w B l) (hw : B ≤ w.heap.size) {i : Nat} {x : Node} (hx : l[i]? = some x) {m' : Mem} (hp : MPost w x.F x.g m' w') : ∃ F', Group w' B (l.set i ⟨x.g, F', m'⟩) ∧ Kept w w' x.F ∧ (∀ k, k < w.heap.size → Alone l k → Alone (l.set i ⟨x.g, F', m'⟩) k) ∧ ∀ k, F' k → x.F k ∨ w.heap.size ≤ k := by
  obtain ⟨F', hm, hk, hf⟩ := hp
  obtain ⟨h1, h2⟩ := h.turn hw hx hm hk hf
  exact ⟨F', h1, hk, h2, hf⟩
end
end Go.Proofs.YtdfdlajfjcakaaaGreat
namespace Go.Proofs.YtdfdlajfjcakaaaGreat
open Go Go.RowKit
open Go.Proofs.YtdfdlajfjcakaaaGreatW.PrintLast
set_option linter.unusedVariables false
set_option linter.unusedSimpArgs false
set_option maxRecDepth 100000

/-! members. -/
def pcell (g : Nat) : List Value := [.pointer (some ⟨g, 0, none⟩)]
theorem one_ptr : ∀ (x : Nat), ∀ u ∈ pcell x, u.oneCell' = true := by
  intro x u hu
  simp [pcell] at hu
  subst hu
  rfl
theorem info_ptr : (Tryz.prog.info? 23).map (fun i => (i.zero, i.size, i.bytes)) = some (some (.pointer none), 1, 8) := by kernel_rfl
theorem info_int' : (Tryz.prog.info? 3).map (fun i => (i.zero, i.size, i.bytes)) = some (some (.int .i64 0), 1, 8) := by kernel_rfl
def ordT (n : Nat) : List Int := (List.range n).map fun (j : Nat) => (j : Int)
theorem ordT_succ (n : Nat) : ordT (n + 1) = ordT n ++ [(n : Int)] := by unfold ordT; rw [List.range_succ, List.map_append]; rfl
theorem ordT_length (n : Nat) : (ordT n).length = n := by simp [ordT]
theorem ordT_ok (n : Nat) (h1 : 1 ≤ n) (h2 : n ≤ 8) : OrderOk (ordT n) := by
  refine ⟨by rw [ordT_length]; omega, ?_, fun z hz => ?_⟩
  · unfold ordT
    rw [List.pairwise_map]
    exact List.pairwise_lt_range.imp (fun h => by omega)
  · unfold ordT at hz
    obtain ⟨j, hj, rfl⟩ := List.mem_map.1 hz
    have := List.mem_range.1 hj
    omega
def startM (n i : Nat) : Mem := (Mem.fresh (i : Int)).config 1 (ordT n)
theorem fresh_ok (i : Int) : (Mem.fresh i).Ok := ⟨by simp [Mem.fresh], by simp [Mem.fresh], by simp [Mem.fresh], by simp [Mem.fresh], by simp [Mem.fresh], by simp [Mem.fresh], RowsOk.nil⟩
theorem Row.typedFrz {α : Type} {w : World} {e sz : Nat} {enc : α → List Value} {v : Value} {l : List α} (h : Row w e sz enc v l) (h1 : e ≠ 85) (h2 : e ≠ 87) (h3 : e ≠ 115) : Frz w (fun k => v.ownBlock = some k) :=
  ⟨fun k e cs hc => by obtain ⟨c', h'⟩ := h.typed e; exact h'.ne_ hc h1 rfl, fun k e cs hc => by obtain ⟨c', h'⟩ := h.typed e; exact h'.ne_ hc h2 rfl, fun k e cs hc => by obtain ⟨c', h'⟩ := h.typed e; exact h'.ne_ hc h3 rfl⟩
set_option maxHeartbeats 8000000 in
theorem members_calls (n : Nat) (h1 : 1 ≤ n) (h2 : n ≤ 8) (w : World) :
    Calls Tryz.prog 16 #[.int .i64 (n : Int)] w fun e w' => ∃ v l, e = .returned v ∧ Row w' 23 1 pcell v (l.map Node.g) ∧ Group w' w.heap.size l ∧ l.length = n ∧ (∀ (i : Nat) (x : Node), l[i]? = some x → x.m = startM n i) ∧ (∀ k, v.ownBlock = some k → w.heap.size ≤ k ∧ Alone l k) ∧ Below w.heap.size w w' := by
  have HN := Lib.hid (And.intro h1 h2)
  clear h1
  go_enter Tryz.func16, Tryz.ntmps16
  go_wp2_with (fail)
  go_loopg [4, 5, 10] n (fun gg s4 _ s10 wr => ∃ (i : Nat), i ≤ n ∧ n - i ≤ gg ∧ s10 = .int .i64 i ∧ Hid (Row wr 3 1 icell s4 (ordT i)) ∧ Hid (∀ k, s4.ownBlock = some k → w.heap.size ≤ k) ∧ Hid (Below w.heap.size w wr))
  case atStart => exact ⟨0, by omega, by omega, by go_num, Lib.hid (Row.nil_ ..), Lib.hid (fun k e => by simp [Value.ownBlock] at e), Lib.hid (Below.refl _ _)⟩
  case round =>
    obtain ⟨i, hi, hgg, rfl, HR, HF, HB⟩ := hrel
    by_cases hlt : i < n
    · have hz : (i : Int) < (n : Int) := by omega
      have hw5 : IntKind.i64.wrap ((i : Int) + 1) = ((i + 1 : Nat) : Int) := by rw [IntKind.wrap_i64]; omega
      obtain ⟨A, m, c, rfl⟩ := HR.out.some_slice
      have HROW := Lib.hid (HR.out.alloc (.cells #[.int .i64 (i : Int)] 3))
      have HLIT := Lib.hid (news_lit icell wr 3 (i : Int) #[.int .i64 (i : Int)] rfl)
      have hle := Lib.hid (show ((ordT i).length + 1) * 8 ≤ 140737488355328 by rw [ordT_length]; omega)
      have HB1 := Lib.hid (HB.out.alloc HB.out.size (.cells #[.int .i64 (i : Int)] 3))
      go_wp2_with (at_builtin; refine Row.append_list (by rfl) (.tmp 13) (.tmp 15) 29 3 (.int .i64 0) 1 8 (by rfl) Tryz.underlying29 info_int' rfl (by decide) (by decide) (.slice A m c) (ordT i) [(i : Int)] rfl ⟨wr.heap.size, 0, none⟩ 1 1 rfl HROW.out rfl (fun _ => rfl) HLIT.out one_int hle.out ?_)
      intro v1 w1 hR hg hO
      have HR1 := Lib.hid hR
      have HG1 := Lib.hid hg
      have HO1 := Lib.hid hO
      clear hR hg hO
      go_wp2
      go_roundg (n - (i + 1))
      case measure => omega
      case rel => exact ⟨i + 1, by omega, Nat.le_refl _, by go_num, Lib.hid (by rw [ordT_succ]; exact HR1.out), Lib.hid (own_ge2 HO1.out HF.out (by have := HB.out.size; first | omega | (rw [World.size_alloc]; omega))), Lib.hid (HB1.out.grown HG1.out HB1.out.size HF.out)⟩
    · obtain rfl : i = n := by omega
      have hz : ¬ ((i : Nat) : Int) < (i : Int) := by omega
      obtain ⟨A, m, c, rfl⟩ := HR.out.some_slice
      go_wp2_with (fail)
      go_loopg [3, 6, 7, 8, 19] i (fun gg s3 _ _ _ s19 wz => ∃ (j : Nat) (l : List Node), j ≤ i ∧ i - j ≤ gg ∧ s19 = .int .i64 j ∧ l.length = j ∧ Hid (Row wz 3 1 icell (.slice A m c) (ordT i)) ∧ Hid (Row wz 23 1 pcell s3 (l.map Node.g)) ∧ Hid (Group wz w.heap.size l) ∧ Hid (∀ (a : Nat) (x : Node), l[a]? = some x → x.m = startM i a) ∧ Hid (∀ k, s3.ownBlock = some k → w.heap.size ≤ k ∧ Alone l k) ∧ Hid (∀ k, (Value.slice A m c).ownBlock = some k → Alone l k) ∧ Hid (Below w.heap.size w wz))
      case atStart => exact ⟨0, [], by omega, by omega, by go_num, rfl, HR, Lib.hid (Row.nil_ ..), Lib.hid Group.nil, Lib.hid (fun a x h => by simp at h), Lib.hid (fun k e => by simp [Value.ownBlock] at e), Lib.hid (fun k e a x h => by simp at h), HB⟩
      case round =>
        obtain ⟨j, l, hj, hgj, rfl, hll, HO, HL, HG, HM, HS, HOA, HBz⟩ := hrel
        by_cases hlj : j < i
        · have hz2 : (j : Int) < (i : Int) := by omega
          have hw6 : IntKind.i64.wrap ((j : Int) + 1) = ((j + 1 : Nat) : Int) := by rw [IntKind.wrap_i64]; omega
          have hnew := new_calls (j : Int) (by have := HN.out; omega) wr
          have hle := Lib.hid (show ((l.map Node.g).length + 1) * 8 ≤ 140737488355328 by rw [List.length_map]; omega)
          go_wp2_with (fail)
          refine hnew.mono ?_
          rintro e w1 ⟨g, F, rfl, hm1, hb1, hf1⟩
          have hcf := config_calls hm1 (fresh_ok _) 1 (.slice A m c) (ordT i) (HO.out.kept (Kept.of_below hb1 fun _ => False) (fun _ _ h => h)) (ordT_ok i HN.out.1 HN.out.2) (by show (0 : Int) < 1 ∧ _; omega)
          have HM1 := Lib.hid hm1
          have HB1 := Lib.hid hb1
          have HF1 := Lib.hid hf1
          clear hnew hm1 hb1 hf1
          go_wp2_with (fail)
          refine hcf.mono ?_
          rintro e w2 ⟨rfl, F2, hm2, hk2, hf2⟩
          have HM2 := Lib.hid hm2
          have hz1 : Frz w1 F := HM1.out.frz
          have hal : ∀ k, F k → Alone l k := fun k hf a x hx hxf => by
            have h3 := (HG.out.at_ a x hx).flt k hxf
            have := HF1.out k hf
            omega
          have hG2 := (HG.out.below HB1.out).kept hk2 hal hz1
          have hL2 := (HL.out.kept (Kept.of_below HB1.out fun _ => False) (fun _ _ h => h)).kept hk2 (fun k e hf => by have := HL.out.lt e; have := HF1.out k hf; omega)
          have hO2 := (HO.out.kept (Kept.of_below HB1.out fun _ => False) (fun _ _ h => h)).kept hk2 (fun k e hf => by have := HO.out.lt e; have := HF1.out k hf; omega)
          have hB2 := HBz.out.trans ((HB1.out.mono HBz.out.size).trans (hk2.below (Nat.le_trans HBz.out.size HB1.out.size) (fun k hk hf => by have := HF1.out k hf; have := HBz.out.size; omega)))
          have hF2 : ∀ k, F2 k → wr.heap.size ≤ k := fun k hf => (hf2 k hf).elim (HF1.out k) (fun h => Nat.le_trans HB1.out.size h)
          obtain ⟨A3, m3, c3, rfl⟩ := HL.out.some_slice
          have HG2 := Lib.hid hG2
          have HO2 := Lib.hid hO2
          have HB2 := Lib.hid hB2
          have HF2 := Lib.hid hF2
          have HL2 := Lib.hid hL2
          have HROW := Lib.hid (hL2.alloc (.cells #[.pointer (some ⟨g, 0, none⟩)] 23))
          have HLIT := Lib.hid (news_lit pcell w2 23 g #[.pointer (some ⟨g, 0, none⟩)] rfl)
          have HBA := Lib.hid ((Below.refl w2.heap.size w2).alloc (Nat.le_refl _) (.cells #[.pointer (some ⟨g, 0, none⟩)] 23))
          clear hcf hm2 hk2 hf2 hal hz1 hG2 hL2 hO2 hB2 hF2
          go_wp2_with (at_builtin; refine Row.append_list (by rfl) (.tmp 39) (.tmp 41) 52 23 (.pointer none) 1 8 (by rfl) Tryz.underlying52 info_ptr rfl (by decide) (by decide) (.slice A3 m3 c3) (l.map Node.g) [g] rfl ⟨w2.heap.size, 0, none⟩ 1 1 rfl HROW.out rfl (fun _ => rfl) HLIT.out one_ptr hle.out ?_)
          intro v4 w4 hR hg hO4
          have HR4 := Lib.hid hR
          have hk4 := (Kept.of_below HBA.out (fun k => (Value.slice A3 m3 c3).ownBlock = some k)).grown hg (fun k e => .inl e)
          have HK4 := Lib.hid hk4
          have HO4 := Lib.hid hO4
          have hz4 := HL2.out.typedFrz (by decide) (by decide) (by decide)
          have hnew4 : ∀ k, (Value.slice A3 m3 c3).ownBlock = some k → k < wr.heap.size := fun k e => HL.out.lt e
          have hG4 := HG2.out.kept hk4 (fun k e => (HS.out k e).2) hz4
          have hM4 := HM2.out.kept hk4 (fun k hf e => by have := HF2.out k hf; have := hnew4 k e; omega) hz4
          have hO4' := HO2.out.keptT hk4 (fun k e cs hc => by obtain ⟨c', h'⟩ := HL2.out.typed e; exact h'.ne_ hc (by decide) rfl)
          have hB4 : Below w.heap.size w w4 := HB2.out.trans (hk4.below HB2.out.size (fun k hk e => by have := (HS.out k e).1; omega))
          have hGs := hG4.snoc (x := ⟨g, F2, startM i j⟩) hM4 (fun k hf => by have := HF2.out k hf; have := HBz.out.size; show w.heap.size ≤ k; omega) (fun k hf a x hx hxf => by have h3 := (HG.out.at_ a x hx).flt k hxf; have := HF2.out k hf; omega)
          have hv4 : ∀ k, v4.ownBlock = some k → w.heap.size ≤ k ∧ Alone (l ++ [⟨g, F2, startM i j⟩]) k := fun k e => by
            have key : Alone l k → (¬ F2 k) → Alone (l ++ [⟨g, F2, startM i j⟩]) k := fun ha hn a x hx => by
              rcases Nat.lt_or_ge a l.length with h | h
              · rw [List.getElem?_append_left h] at hx; exact ha a x hx
              · rw [List.getElem?_append_right h] at hx
                have h0 : a - l.length = 0 := by have := (List.getElem?_eq_some_iff.1 hx).1; simp at this; omega
                rw [h0] at hx
                injection hx with hx
                subst hx
                exact hn
            rcases HO4.out with h | h
            · have e' : (Value.slice A3 m3 c3).ownBlock = some k := h ▸ e
              exact ⟨(HS.out k e').1, key (HS.out k e').2 (fun hf => by have := HF2.out k hf; have := hnew4 k e'; omega)⟩
            · rw [h] at e
              injection e with e
              have hs2 := HB2.out.size
              first
                | exact ⟨by omega, key (fun a x hx hxf => by have h3 := (HG2.out.at_ a x hx).flt k hxf; omega) (fun hf => by have h3 := HM2.out.flt k hf; omega)⟩
                | (rw [World.size_alloc] at e; exact ⟨by omega, key (fun a x hx hxf => by have h3 := (HG2.out.at_ a x hx).flt k hxf; omega) (fun hf => by have h3 := HM2.out.flt k hf; omega)⟩)
          have HGs := Lib.hid hGs
          have HV4 := Lib.hid hv4
          have HB4 := Lib.hid hB4
          have HOO := Lib.hid hO4'
          have HOB := Lib.hid (show ∀ k, (Value.slice A m c).ownBlock = some k → Alone (l ++ [⟨g, F2, startM i j⟩]) k from fun k e a x hx => by
            rcases Nat.lt_or_ge a l.length with h | h
            · rw [List.getElem?_append_left h] at hx; exact HOA.out k e a x hx
            · rw [List.getElem?_append_right h] at hx
              have h0 : a - l.length = 0 := by have := (List.getElem?_eq_some_iff.1 hx).1; simp at this; omega
              rw [h0] at hx
              injection hx with hx
              subst hx
              intro hf
              have := HF2.out k hf
              have := HO.out.lt e
              omega)
          clear hR hg hO4 hk4 hz4 hnew4 hG4 hM4 hO4' hB4 hGs hv4
          go_wp2
          go_roundg (i - (j + 1))
          case measure => omega
          case rel =>
            refine ⟨j + 1, l ++ [⟨g, F2, startM i j⟩], by omega, Nat.le_refl _, by go_num, by simp [hll], HOO, Lib.hid (by rw [List.map_append]; exact HR4.out), HGs, Lib.hid (fun a x hx => ?_), HV4, HOB, HB4⟩
            rcases Nat.lt_or_ge a l.length with h | h
            · rw [List.getElem?_append_left h] at hx; exact HM.out a x hx
            · rw [List.getElem?_append_right h] at hx
              have h0 : a - l.length = 0 := by have := (List.getElem?_eq_some_iff.1 hx).1; simp at this; omega
              rw [h0] at hx
              injection hx with hx
              subst hx
              rw [show a = j by omega]
        · obtain rfl : j = i := by omega
          have hz2 : ¬ ((j : Nat) : Int) < (j : Int) := by omega
          go_wp2
          go_ret
          exact ⟨_, rfl, l, HL.out, HG.out, hll, HM.out, HS.out, HBz.out⟩
end Go.Proofs.YtdfdlajfjcakaaaGreat
namespace Go.Proofs.YtdfdlajfjcakaaaGreat
open Go Go.RowKit
open Go.Proofs.YtdfdlajfjcakaaaGreatW.PrintLast
open Go.Proofs.YtdfdlajfjcakaaaGreat.PAll (S136 fN fT opF reqF)
set_option linter.unusedVariables false
set_option linter.unusedSimpArgs false
set_option maxRecDepth 100000

/-! The chapter's example, plain. -/
def op0 : OpT := ⟨1, ⟨#[107]⟩, ⟨#[118]⟩, 1, 0, 0⟩
def r0 : ReqT := ⟨3, 4, [op0]⟩
def p0 : RepT := ⟨3, 4, [⟨0, 1, ⟨#[]⟩, []⟩], 0, 0⟩
def rows0 : List RowT := [⟨⟨#[107]⟩, 1, ⟨#[118]⟩⟩]
theorem r0_may : reqMay r0 = true := by decide
theorem r0_enc : (encR r0).2 = 0 ∧ (encR r0).1.size ≤ 60000 := by
  have hw : Fn.fit (reqF 3 4 (r0.ops.map OpT.s)) := by
    intro x hx
    simp only [reqF, opF, r0, op0, OpT.s, List.map_cons, List.map_nil, List.flatMap_cons, List.flatMap_nil, List.append_nil, List.length_cons, List.length_nil, List.cons_append, List.nil_append, List.mem_cons, List.not_mem_nil, or_false] at hx
    rcases hx with rfl | rfl | rfl | rfl | rfl | rfl | rfl | rfl | rfl
    · exact fit_fN ⟨by decide, by decide⟩
    · exact fit_fN ⟨by decide, by decide⟩
    · exact fit_fN ⟨by decide, by decide⟩
    · exact fit_fN ⟨by decide, by decide⟩
    · exact fit_fT (by decide)
    · exact fit_fT (by decide)
    · exact fit_fN ⟨by decide, by decide⟩
    · exact fit_fN ⟨by decide, by decide⟩
    · exact fit_fN ⟨by decide, by decide⟩
  have hl : (Fn.enc (reqF 3 4 (r0.ops.map OpT.s))).length ≤ 1000 := by
    have h1 := fun n => one_fN n
    have a1 := h1 3
    have a2 := h1 4
    have a3 := h1 1
    have a4 := h1 0
    have b1 := one_fT ⟨#[107]⟩ (by decide)
    have b2 := one_fT ⟨#[118]⟩ (by decide)
    have s1 : (⟨#[107]⟩ : ByteArray).size = 1 := rfl
    have s2 : (⟨#[118]⟩ : ByteArray).size = 1 := rfl
    show (Fn.enc [fN 3, fN 4, fN 1, fN 1, fT ⟨#[107]⟩, fT ⟨#[118]⟩, fN 1, fN 0, fN 0]).length ≤ 1000
    simp only [Fn.enc_cons, Fn.enc_nil, List.length_append, List.length_nil]
    omega
  have e : encR r0 = (strOfNums (Bytes.I (Fn.enc (reqF 3 4 (r0.ops.map OpT.s)))), 0) := by
    unfold encR Pure.encReq
    rw [if_pos (show Pure.reqOk r0.client r0.seq (r0.ops.map OpT.s) = true from r0_may)]
    exact Pure.encode_fit hw (by decide) (Nat.le_trans hl (by decide))
  rw [e]
  refine ⟨rfl, ?_⟩
  show (bytesF (reqF 3 4 (r0.ops.map OpT.s))).size ≤ 60000
  rw [size_bytesF]
  omega
theorem r0_long : longM r0 = false := by
  unfold longM
  have := r0_enc
  exact decide_eq_false (by omega)
theorem start0 : startM 2 0 = ⟨0, 1, [0, 1], [], 0, [], [], []⟩ := by rfl
theorem start1 : startM 2 1 = ⟨1, 1, [0, 1], [], 0, [], [⟨0, bytesF (upF 1 0)⟩], []⟩ := by rfl
def n0a : Mem := ⟨0, 1, [0, 1], rows0, 0, [(r0, p0)], [⟨1, bytesF (dnF 1 1 (encR r0).1)⟩], []⟩
def n1a : Mem := ⟨1, 1, [0, 1], rows0, 1, [], [⟨0, bytesF (upF 1 0)⟩, ⟨0, bytesF (upF 1 1)⟩], [p0]⟩
def n0b : Mem := ⟨0, 1, [0, 1], rows0, 1, [], [], []⟩
theorem sub0 : (startM 2 0).submit r0 = ((1, 0), n0a) := by
  rw [start0]
  unfold Mem.submit
  rw [if_neg (by decide), if_neg (by rw [r0_may]; decide), if_neg (by rw [r0_long]; decide)]
  rfl
theorem hear1 : (startM 2 1).hearD 0 1 1 r0 = (0, n1a) := by rw [start1]; rfl
theorem hear0 : ({ n0a with out := [] } : Mem).hearU 1 1 1 = (0, n0b) := by rfl
end Go.Proofs.YtdfdlajfjcakaaaGreat
