import Derived.Test.YtaghdopickgpgaaDoorDkV
import Derived.Test.YtaghdopickgpgaaDoorORowX
namespace Go.Proofs.YtaghdopickgpgaaDoor
open Go Go.RowKit
set_option linter.unusedVariables false
set_option linter.unusedSimpArgs false

/-! The document's disk. -/
def FE (p : ByteArray × DF) : List Value := [.string p.1, .string p.2.has, .int .i64 p.2.safe]
def RkAt (w : World) (G : Nat → Prop) (g : Nat) (s : DkS) : Prop :=
  ∃ vl lf, Blk w g 77 #[.int .i64 s.room, vl, .bool s.fused, .int .i64 lf, .bool s.down] ∧ Row w 79 3 FE vl s.fs ∧ (s.fused = true → lf = s.left) ∧ G g ∧ ∀ k, vl.ownBlock = some k → G k
/-- Behind a call that turns no block but the object's own. -/
def RkPost (w : World) (G : Nat → Prop) (g : Nat) (s : DkS) (w' : World) : Prop := Kept w w' (fun k => k = g) ∧ RkAt w' G g s
section
variable {w w' : World} {G S : Nat → Prop} {g : Nat} {s s' : DkS}
theorem RkAt.kept (h : RkAt w G g s) (hk : Kept w w' S) (hn : ∀ k, k < w.heap.size → G k → ¬ S k) : RkAt w' G g s := by
  obtain ⟨vl, lf, hb, h1, hl, hg, f1⟩ := h
  exact ⟨vl, lf, hb.kept hk (hn g hb.lt hg), h1.kept hk (fun k e => hn k (h1.lt e) (f1 k e)), hl, hg, f1⟩
theorem RkAt.below (h : RkAt w G g s) (hb : Below w.heap.size w w') : RkAt w' G g s := h.kept (Kept.of_below hb fun _ => False) (fun _ _ _ h => h)
theorem RkAt.lt (h : RkAt w G g s) : g < w.heap.size := by obtain ⟨_, _, hb, _⟩ := h; exact hb.lt
theorem RkPost.of_below (h : RkAt w G g s) (hb : Below w.heap.size w w') : RkPost w G g s w' := ⟨Kept.of_below hb _, h.below hb⟩
theorem RkPost.then_ {a b c : World} (h : RkPost a G g s b) (k : RkPost b G g s' c) : RkPost a G g s' c := ⟨h.1.trans k.1, k.2⟩
theorem RkPost.after {a b c : World} (hb : Below a.heap.size a b) (h : RkPost b G g s c) : RkPost a G g s c := ⟨(Kept.of_below hb _).trans h.1, h.2⟩
theorem RkPost.behind {a b c : World} (h : RkPost a G g s b) (hb : Below b.heap.size b c) : RkPost a G g s c := ⟨h.1.trans (Kept.of_below hb _), h.2.below hb⟩
end
theorem refd_new_bad (n : Int) (w : World) (h : n < 0 ∨ 262144 < n) : Calls Tryd.prog 26 #[.int .i64 n] w fun e w' => e = .returned (.tuple #[.pointer none, .int .i64 1]) ∧ Below w.heap.size w w' := by
  by_cases h0 : n < 0
  · go_enter Tryd.func26, Tryd.ntmps26
    go_wp2
    go_ret2
    exact ⟨rfl, Below.refl _ _⟩
  · have h1 : 262144 < n := by omega
    have h2 : 0 ≤ n := by omega
    clear h h0
    go_enter Tryd.func26, Tryd.ntmps26
    go_wp2
    go_ret2
    exact ⟨rfl, Below.refl _ _⟩
theorem refd_new (n : Int) (w : World) (G : Nat → Prop) (hG : ∀ k, w.heap.size ≤ k → G k) (h0 : 0 ≤ n) (h1 : n ≤ 262144) : Calls Tryd.prog 26 #[.int .i64 n] w fun e w' => ∃ g, e = .returned (.tuple #[.pointer (some ⟨g, 0, none⟩), .int .i64 0]) ∧ Below w.heap.size w w' ∧ RkAt w' G g ⟨n, 0, [], false, false, 0⟩ := by
  have h0' : ¬ n < 0 := by omega
  have h1' : ¬ 262144 < n := by omega
  go_enter Tryd.func26, Tryd.ntmps26
  go_wp2
  go_ret2
  refine ⟨_, rfl, (Below.refl _ _).alloc (Nat.le_refl _) _, ?_⟩
  exact ⟨.slice none 0 0, 0, Blk.new w _ _, Row.nil_ .., fun h => (by cases h), hG _ (Nat.le_refl _), fun k e => (by simp [Value.ownBlock] at e)⟩
theorem okByte_eq (c : Nat) (hc : c < 256) : okByte c.toUInt8 = ((decide (97 ≤ c) && decide (c ≤ 122)) || (decide (48 ≤ c) && decide (c ≤ 57)) || decide (c = 46)) := by
  have h : (List.range 256).all (fun c => okByte c.toUInt8 == ((decide (97 ≤ c) && decide (c ≤ 122)) || (decide (48 ≤ c) && decide (c ≤ 57)) || decide (c = 46))) = true := by kernel_rfl
  exact beq_iff_eq.1 (List.all_eq_true.1 h c (List.mem_range.2 hc))
theorem okByte_nat (b : UInt8) : okByte b = ((decide (97 ≤ b.toNat) && decide (b.toNat ≤ 122)) || (decide (48 ≤ b.toNat) && decide (b.toNat ≤ 57)) || decide (b.toNat = 46)) := by
  have := okByte_eq b.toNat b.toNat_lt
  rwa [show b.toNat.toUInt8 = b from UInt8.ofNat_toNat] at this
theorem all_at (s : ByteArray) (k : Nat) (hk : k < s.size) : (s.data.toList.drop k).all okByte = (okByte (s.data[k]'hk) && (s.data.toList.drop (k + 1)).all okByte) := by
  rw [List.drop_eq_getElem_cons (by simpa using hk), List.all_cons, Array.getElem_toList]
theorem empty_txt {s : ByteArray} (h : ¬ s.size = 0) : s.toList.isEmpty = false := by rw [List.isEmpty_eq_false_iff]; exact fun e => h ((toList_nil s).1 e)
theorem byte_at (s : ByteArray) (k : Nat) (hk : k < s.size) : (s[k]? : Option UInt8) = some (s.data[k]'hk) := by rw [getElem?_pos s k hk]; rfl
set_option maxRecDepth 100000 in
set_option maxHeartbeats 2000000 in
theorem refd_named (s : ByteArray) (w : World) (hs : s.size ≤ 9223372036854775807) : Calls Tryd.prog 52 #[.string s] w fun e w' => e = .returned (.bool (okName s)) ∧ w' = w := by
  unfold okName
  by_cases h0 : s.size = 0
  · rw [decide_eq_false (show ¬ 0 < s.size by omega)]
    have hE := (toList_nil s).2 h0
    go_enter Tryd.func52, Tryd.ntmps52
    go_wp2
    go_ret
    exact ⟨rfl, rfl⟩
  · rw [decide_eq_true (show 0 < s.size by omega)]
    have hE2 := empty_txt h0
    have hE : ¬ s.toList = [] := fun e => h0 ((toList_nil s).1 e)
    by_cases h1 : s.size ≤ 32
    · rw [decide_eq_true h1]
      have h2 : (s.size : Int) ≤ 32 := by omega
      obtain ⟨qa, hqa⟩ : ∃ qa, s.data.toList.all okByte = qa := ⟨_, rfl⟩
      rw [hqa]
      have HQA := Lib.hid hqa
      clear hqa
      go_enter Tryd.func52, Tryd.ntmps52
      go_wp2_with (fail)
      clear hE hE2
      go_loopg [3, 4] s.size (fun gg s3 _ wr => ∃ (k : Nat), k ≤ s.size ∧ s.size - k ≤ gg ∧ s3 = .int .i64 k ∧ wr = w ∧ Hid (qa = (s.data.toList.drop k).all okByte))
      case atStart => exact ⟨0, Nat.zero_le _, by omega, by go_num, rfl, Lib.hid HQA.out.symm⟩
      case round =>
        obtain ⟨k, hk, hgg, rfl, rfl, HA⟩ := hrel
        by_cases hlt : k < s.size
        · have hlz : (k : Int) < (s.size : Int) := by omega
          have HB : Hid ((s.data.toList.drop k).all okByte = (okByte (s[k]'hlt) && (s.data.toList.drop (k + 1)).all okByte)) := Lib.hid (all_at s k hlt)
          have hq : (97 ≤ (s[k]'hlt).toNat ∧ (s[k]'hlt).toNat ≤ 122) ∨ (122 < (s[k]'hlt).toNat) ∨ (48 ≤ (s[k]'hlt).toNat ∧ (s[k]'hlt).toNat ≤ 57) ∨ (57 < (s[k]'hlt).toNat ∧ (s[k]'hlt).toNat < 97) ∨ ((s[k]'hlt).toNat = 46) ∨ ((s[k]'hlt).toNat < 48 ∧ (s[k]'hlt).toNat ≠ 46) := by omega
          rcases hq with hq | hq | hq | hq | hq | hq
          · have HO : Hid (okByte (s[k]'hlt) = true) := Lib.hid (by rw [okByte_nat]; simp; omega)
            have f0 : (97 : Int) ≤ ((s[k]'hlt).toNat : Int) := by omega
            have f1 : ((s[k]'hlt).toNat : Int) ≤ 122 := by omega
            clear hq
            go_wp2
            go_roundg (s.size - (k + 1))
            case measure => omega
            case rel => exact ⟨k + 1, hlt, Nat.le_refl _, by go_num, rfl, Lib.hid (by rw [HA.out, HB.out, HO.out, Bool.true_and])⟩
          · have HO : Hid (okByte (s[k]'hlt) = false) := Lib.hid (by rw [okByte_nat]; simp; omega)
            have f0 : (97 : Int) ≤ ((s[k]'hlt).toNat : Int) := by omega
            have f1 : ¬ ((s[k]'hlt).toNat : Int) ≤ 122 := by omega
            have f2 : (48 : Int) ≤ ((s[k]'hlt).toNat : Int) := by omega
            have f3 : ¬ ((s[k]'hlt).toNat : Int) ≤ 57 := by omega
            have f4 : (((s[k]'hlt).toNat : Int) == 46) = false := beq_eq_false_iff_ne.2 (by omega)
            clear hq
            go_wp2
            go_ret
            exact ⟨ret_bool (by rw [HA.out, HB.out, HO.out]; rfl), rfl⟩
          · have HO : Hid (okByte (s[k]'hlt) = true) := Lib.hid (by rw [okByte_nat]; simp; omega)
            have f0 : ¬ (97 : Int) ≤ ((s[k]'hlt).toNat : Int) := by omega
            have f1 : (48 : Int) ≤ ((s[k]'hlt).toNat : Int) := by omega
            have f2 : ((s[k]'hlt).toNat : Int) ≤ 57 := by omega
            clear hq
            go_wp2
            go_roundg (s.size - (k + 1))
            case measure => omega
            case rel => exact ⟨k + 1, hlt, Nat.le_refl _, by go_num, rfl, Lib.hid (by rw [HA.out, HB.out, HO.out, Bool.true_and])⟩
          · have HO : Hid (okByte (s[k]'hlt) = false) := Lib.hid (by rw [okByte_nat]; simp; omega)
            have f0 : ¬ (97 : Int) ≤ ((s[k]'hlt).toNat : Int) := by omega
            have f1 : (48 : Int) ≤ ((s[k]'hlt).toNat : Int) := by omega
            have f2 : ¬ ((s[k]'hlt).toNat : Int) ≤ 57 := by omega
            have f3 : (((s[k]'hlt).toNat : Int) == 46) = false := beq_eq_false_iff_ne.2 (by omega)
            clear hq
            go_wp2
            go_ret
            exact ⟨ret_bool (by rw [HA.out, HB.out, HO.out]; rfl), rfl⟩
          · have HO : Hid (okByte (s[k]'hlt) = true) := Lib.hid (by rw [okByte_nat]; simp; omega)
            have f0 : ¬ (97 : Int) ≤ ((s[k]'hlt).toNat : Int) := by omega
            have f1 : ¬ (48 : Int) ≤ ((s[k]'hlt).toNat : Int) := by omega
            have f2 : (((s[k]'hlt).toNat : Int) == 46) = true := beq_iff_eq.2 (by omega)
            clear hq
            go_wp2
            go_roundg (s.size - (k + 1))
            case measure => omega
            case rel => exact ⟨k + 1, hlt, Nat.le_refl _, by go_num, rfl, Lib.hid (by rw [HA.out, HB.out, HO.out, Bool.true_and])⟩
          · have HO : Hid (okByte (s[k]'hlt) = false) := Lib.hid (by rw [okByte_nat]; simp; omega)
            have f0 : ¬ (97 : Int) ≤ ((s[k]'hlt).toNat : Int) := by omega
            have f1 : ¬ (48 : Int) ≤ ((s[k]'hlt).toNat : Int) := by omega
            have f2 : (((s[k]'hlt).toNat : Int) == 46) = false := beq_eq_false_iff_ne.2 (by omega)
            clear hq
            go_wp2
            go_ret
            exact ⟨ret_bool (by rw [HA.out, HB.out, HO.out]; rfl), rfl⟩
        · have hlz : ¬ (k : Int) < (s.size : Int) := by omega
          go_wp2
          go_ret
          refine ⟨ret_bool ?_, rfl⟩
          rw [HA.out, List.drop_of_length_le (by simp; omega)]
          rfl
    · rw [decide_eq_false h1]
      have h2 : (32 : Int) < (s.size : Int) := by omega
      go_enter Tryd.func52, Tryd.ntmps52
      go_wp2
      go_ret
      exact ⟨rfl, rfl⟩
end Go.Proofs.YtaghdopickgpgaaDoor
