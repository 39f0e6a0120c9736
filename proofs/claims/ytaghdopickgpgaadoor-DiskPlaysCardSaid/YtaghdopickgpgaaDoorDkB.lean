import Derived.Test.YtaghdopickgpgaaDoorDkA
import Derived.Carry
namespace Go.Proofs.YtaghdopickgpgaaDoor
open Go Go.RowKit
set_option linter.unusedVariables false
set_option linter.unusedSimpArgs false

/-! The disk: an object at a block, its files a map in a block of its own. -/
structure DF where (has : ByteArray) (safe : Int)
def DF.val (f : DF) : Value := .agg #[.string f.has, .int .i64 f.safe]
abbrev Files := List (ByteArray × DF)
structure DkS where (room used : Int) (fs : Files) (fused down : Bool) (left : Int)
def DkAt (w : World) (F : Nat → Prop) (g : Nat) (s : DkS) : Prop :=
  ∃ b, Blk w g 62 #[.int .i64 s.room, .int .i64 s.used, .map (some b), .bool s.fused, .bool s.down, .int .i64 s.left] ∧ SMap w 9 b DF.val s.fs ∧ F g ∧ F b ∧ ∀ k, F k → k < w.heap.size
theorem blk_map {α : Type} {w : World} {g b kt : Nat} {t : TypeId} {cs : Array Value} {enc : α → Value} {l : List (ByteArray × α)} (h : Blk w g t cs) (hm : SMap w kt b enc l) : g ≠ b := by
  rintro rfl
  obtain ⟨_, ⟨es, clock, hb, _⟩, _⟩ := hm
  unfold Blk at h
  rw [h] at hb
  cases hb
theorem DkAt.kept {w w' : World} {F S : Nat → Prop} {g : Nat} {s : DkS} (h : DkAt w F g s) (hk : Kept w w' S) (hn : ∀ k, k < w.heap.size → F k → ¬ S k) : DkAt w' F g s := by
  obtain ⟨b, hb, h1, hg, f1, fz⟩ := h
  exact ⟨b, hb.kept hk (hn g hb.lt hg), h1.kept hk (hn b h1.lt f1), hg, f1, fun k h => Nat.lt_of_lt_of_le (fz k h) hk.size⟩
theorem DkAt.below {w w' : World} {F : Nat → Prop} {g : Nat} {s : DkS} (h : DkAt w F g s) (hb : Below w.heap.size w w') : DkAt w' F g s := h.kept (Kept.of_below hb fun _ => False) (fun _ _ _ h => h)
theorem DkAt.foot {w : World} {F : Nat → Prop} {g : Nat} {s : DkS} (h : DkAt w F g s) {k : Nat} (hk : F k) : k < w.heap.size := by obtain ⟨_, _, _, _, _, fz⟩ := h; exact fz k hk
theorem DkAt.lt {w : World} {F : Nat → Prop} {g : Nat} {s : DkS} (h : DkAt w F g s) : g < w.heap.size := by obtain ⟨b, hb, _⟩ := h; exact hb.lt
theorem DkAt.nodup {w : World} {F : Nat → Prop} {g : Nat} {s : DkS} (h : DkAt w F g s) : s.fs.Pairwise fun p q => p.1 ≠ q.1 := by
  obtain ⟨b, _, h1, _⟩ := h
  exact h1.nodup (Maps.string_keyed Tryd.underlying9)
/-- The disk behind a step: nothing else of what was there has turned. -/
def DkPost (w : World) (F : Nat → Prop) (g : Nat) (s : DkS) (w' : World) : Prop := Kept w w' F ∧ DkAt w' F g s
theorem DkPost.of_below {w w' : World} {F : Nat → Prop} {g : Nat} {s : DkS} (h : DkAt w F g s) (hb : Below w.heap.size w w') : DkPost w F g s w' := ⟨Kept.of_below hb F, h.below hb⟩
theorem DkPost.after {a b c : World} {F : Nat → Prop} {g : Nat} {s : DkS} (hb : Below a.heap.size a b) (h : DkPost b F g s c) : DkPost a F g s c := ⟨(Kept.of_below hb F).trans h.1, h.2⟩
theorem DkPost.then_ {a b c : World} {F : Nat → Prop} {g : Nat} {s s' : DkS} (h : DkPost a F g s b) (k : DkPost b F g s' c) : DkPost a F g s' c := ⟨h.1.trans k.1, k.2⟩
theorem DkPost.behind {a b c : World} {F : Nat → Prop} {g : Nat} {s : DkS} (h : DkPost a F g s b) (hb : Below b.heap.size b c) : DkPost a F g s c := ⟨h.1.trans (Kept.of_below hb F), h.2.below hb⟩

theorem disk_new_bad (n : Int) (w : World) (h : n < 0 ∨ 262144 < n) : Calls Tryd.prog 10 #[.int .i64 n] w fun e w' => e = .returned (.tuple #[.pointer none, .int .i64 1]) ∧ Below w.heap.size w w' := by
  by_cases h0 : n < 0
  · go_enter Tryd.func10, Tryd.ntmps10
    go_wp2
    go_ret2
    exact ⟨rfl, Below.refl _ _⟩
  · have h1 : 262144 < n := by omega
    have h2 : 0 ≤ n := by omega
    clear h h0
    go_enter Tryd.func10, Tryd.ntmps10
    go_wp2
    go_ret2
    exact ⟨rfl, Below.refl _ _⟩
theorem disk_new (n : Int) (w : World) (h0 : 0 ≤ n) (h1 : n ≤ 262144) : Calls Tryd.prog 10 #[.int .i64 n] w fun e w' => ∃ g, e = .returned (.tuple #[.pointer (some ⟨g, 0, none⟩), .int .i64 0]) ∧ Below w.heap.size w w' ∧ w.heap.size ≤ g ∧ DkAt w' (fun k => w.heap.size ≤ k ∧ k < w'.heap.size) g ⟨n, 0, [], false, false, 0⟩ := by
  have hmm := @run_makeMap Tryd.prog
  go_enter Tryd.func10, Tryd.ntmps10
  go_wp2
  go_ret2
  refine ⟨_, rfl, ((Below.refl _ _).alloc (Nat.le_refl _) _).alloc (by simp) _, by simp, ?_⟩
  have hm := SMap.made w 9 DF.val
  refine ⟨w.heap.size, ?_, hm.alloc _, by simp, by simp; omega, fun k h => h.2⟩
  have := Blk.new (w.alloc (.map #[] 0)) 62 #[.int .i64 n, .int .i64 0, .map (some w.heap.size), .bool false, .bool false, .int .i64 0]
  simpa using this
theorem disk_used (F : Nat → Prop) (g : Nat) (s : DkS) (w : World) (h : DkAt w F g s) : Calls Tryd.prog 18 #[.pointer (some ⟨g, 0, none⟩)] w fun e w' => e = .returned (.int .i64 s.used) ∧ w' = w := by
  obtain ⟨b, hb, hm, hg, f1, fz⟩ := h
  have c1 := hb.cell 1
  go_enter Tryd.func18, Tryd.ntmps18
  go_wp2
  go_ret
  exact ⟨rfl, rfl⟩
def DkS.tick (s : DkS) : DkS := if (s.fused && decide (s.left = 0)) = true then { s with down := true } else if (s.fused && !s.down) = true then { s with left := s.left - 1 } else s
set_option maxHeartbeats 1000000 in
theorem disk_ready (F : Nat → Prop) (g : Nat) (s : DkS) (w : World) (h : DkAt w F g s) (hl : 0 ≤ s.left) (hh : s.left ≤ 9223372036854775807) :
    Calls Tryd.prog 30 #[.pointer (some ⟨g, 0, none⟩)] w fun e w' => e = .returned (.bool (!s.tick.down)) ∧ DkPost w F g s.tick w' := by
  obtain ⟨room, used, fs, fused, down, left⟩ := s
  have H := Lib.hid h
  obtain ⟨b, hb, hm, hg, f1, fz⟩ := h
  have hne := blk_map hb hm
  have hlt := hb.lt
  have c3 := hb.cell 3
  have c4 := hb.cell 4
  have c5 := hb.cell 5
  have z4 := hb.frozen 4
  have z5 := hb.frozen 5
  have HB := Lib.hid hb
  have HM := Lib.hid hm
  clear hb hm
  unfold DkS.tick
  dsimp only at *
  have fin : ∀ (i : Nat) (v : Value) (s' : DkS), s'.fs = fs → #[Value.int .i64 s'.room, .int .i64 s'.used, .map (some b), .bool s'.fused, .bool s'.down, .int .i64 s'.left] = (#[Value.int .i64 room, .int .i64 used, .map (some b), .bool fused, .bool down, .int .i64 left] : Array Value).setIfInBounds i v → DkPost w F g s' (w.setCell ⟨g, i, none⟩ v) := by
    intro i v s' e1 e2
    refine ⟨(Kept.refl w F).setCell (.inl hg) _, b, ?_, ?_, hg, f1, fun k h => Nat.lt_of_lt_of_le (fz k h) ((Kept.refl w F).setCell (.inl hg) _).size⟩
    · rw [e2]
      exact HB.out.set_ i v
    · rw [e1]
      exact HM.out.kept ((Kept.refl w fun k => k = g).setCell (.inl rfl) _) (fun e => hne e.symm)
  cases fused with
  | false =>
    go_enter Tryd.func30, Tryd.ntmps30
    go_wp2
    go_ret
    exact ⟨rfl, Kept.refl _ _, H.out⟩
  | true =>
    by_cases h0 : left = 0
    · subst h0
      go_enter Tryd.func30, Tryd.ntmps30
      go_wp2
      go_ret
      exact ⟨rfl, fin 4 (.bool true) _ rfl rfl⟩
    · have q : decide (left = 0) = false := decide_eq_false h0
      cases down with
      | true =>
        simp only [q, Bool.true_and, Bool.not_true, Bool.and_false, Bool.false_eq_true, if_false]
        go_enter Tryd.func30, Tryd.ntmps30
        go_wp2
        go_ret
        exact ⟨rfl, Kept.refl _ _, H.out⟩
      | false =>
        simp only [q, Bool.true_and, Bool.not_false, Bool.and_true, Bool.false_eq_true, if_false, if_true]
        have hw : IntKind.i64.wrap (left - 1) = left - 1 := by rw [IntKind.wrap_i64]; omega
        go_enter Tryd.func30, Tryd.ntmps30
        go_wp2
        go_ret
        exact ⟨rfl, fin 5 (.int .i64 (left - 1)) _ rfl rfl⟩
end Go.Proofs.YtaghdopickgpgaaDoor
