import Derived.Test.YtaghdopickgpgaaDoorDkH
import Derived.Test.YtaghdopickgpgaaDoorOStrR
import Derived.Test.YtaghdopickgpgaaDoorOKeys
namespace Go.Proofs.YtaghdopickgpgaaDoor
open Go Go.RowKit
set_option linter.unusedVariables false
set_option linter.unusedSimpArgs false

theorem disk_fuse_bad (F : Nat → Prop) (g : Nat) (s : DkS) (n : Int) (w : World) (h : DkAt w F g s) (hn : n < 0) :
    Calls Tryd.prog 20 #[.pointer (some ⟨g, 0, none⟩), .int .i64 n] w fun e w' => e = .returned (.int .i64 1) ∧ w' = w := by
  go_enter Tryd.func20, Tryd.ntmps20
  go_wp2
  go_ret
  exact ⟨rfl, rfl⟩
theorem disk_fuse (F : Nat → Prop) (g : Nat) (s : DkS) (n : Int) (w : World) (h : DkAt w F g s) (hn : 0 ≤ n) :
    Calls Tryd.prog 20 #[.pointer (some ⟨g, 0, none⟩), .int .i64 n] w fun e w' => e = .returned (.int .i64 0) ∧ DkPost w F g { s with fused := true, left := n } w' := by
  obtain ⟨b, hb, hm, hg, f1, fz⟩ := h
  have hne := blk_map hb hm
  have hlt := hb.lt
  have c3 := hb.cell 3
  have c5 := hb.cell 5
  have z3 := hb.frozen 3
  have z5 := hb.frozen 5
  have hq : ¬ n < 0 := by omega
  have HF : Hid (DkPost w F g { s with fused := true, left := n } ((w.setCell ⟨g, 3, none⟩ (.bool true)).setCell ⟨g, 5, none⟩ (.int .i64 n))) := Lib.hid (by
    have hk := ((Kept.refl w fun k => k = g).setCell (p := ⟨g, 3, none⟩) (.inl rfl) (.bool true)).setCell (p := ⟨g, 5, none⟩) (.inl rfl) (.int .i64 n)
    have hk2 := ((Kept.refl w F).setCell (p := ⟨g, 3, none⟩) (.inl hg) (.bool true)).setCell (p := ⟨g, 5, none⟩) (.inl hg) (.int .i64 n)
    exact ⟨hk2, b, (hb.set_ 3 _).set_ 5 _, hm.kept hk (fun e => hne e.symm), hg, f1, fun k h => Nat.lt_of_lt_of_le (fz k h) hk2.size⟩)
  clear hb hm
  go_enter Tryd.func20, Tryd.ntmps20
  go_wp2
  go_ret
  exact ⟨rfl, HF.out⟩
end Go.Proofs.YtaghdopickgpgaaDoor
