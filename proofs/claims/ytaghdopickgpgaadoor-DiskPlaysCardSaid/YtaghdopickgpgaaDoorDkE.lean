import Derived.Test.YtaghdopickgpgaaDoorDkD
import Derived.Test.YtaghdopickgpgaaDoorDkP
namespace Go.Proofs.YtaghdopickgpgaaDoor
open Go Go.RowKit
set_option linter.unusedVariables false
set_option linter.unusedSimpArgs false

theorem knownE_ok {fs : Files} {k : ByteArray} (h : knownE fs k = 0) : okName k = true ∧ (look fs k).isSome = true := by
  unfold knownE at h
  by_cases h1 : okName k = true
  · rw [if_pos h1] at h
    by_cases h2 : (look fs k).isSome = true
    · exact ⟨h1, h2⟩
    · rw [if_neg h2] at h; cases h
  · rw [if_neg h1] at h; cases h
set_option maxHeartbeats 1000000 in
theorem disk_read (F : Nat → Prop) (g : Nat) (s : DkS) (k : ByteArray) (w : World) (h : DkAt w F g s) (hk : k.size ≤ maxLen) :
    Calls Tryd.prog 16 #[.pointer (some ⟨g, 0, none⟩), .string k] w fun e w' => e = .returned (.tuple #[.string (fileAt s.fs k).has, .int .i64 (knownE s.fs k)]) ∧ Below w.heap.size w w' := by
  have hkn := disk_known F g s k w h hk
  generalize fileAt s.fs k = fo at *
  generalize knownE s.fs k = er at *
  clear h
  go_enter Tryd.func16, Tryd.ntmps16
  go_wp2_with (fail)
  refine hkn.mono ?_
  rintro e w1 ⟨rfl, hb⟩
  go_wp2
  go_ret2
  exact ⟨rfl, hb.trans ((Below.refl _ _).alloc hb.size _)⟩
/-- Remove: the disk behind it, what it answers. -/
def DkS.remove (s : DkS) (k : ByteArray) : DkS × Int := if knownE s.fs k ≠ 0 then (s, knownE s.fs k) else if s.tick.down = true then (s.tick, 21) else (s.tick.drop k, 0)
set_option maxRecDepth 100000 in
set_option maxHeartbeats 1000000 in
theorem disk_remove (F : Nat → Prop) (g : Nat) (s : DkS) (k : ByteArray) (w : World) (h : DkAt w F g s) (hs : s.Ok) (hk : k.size ≤ maxLen) :
    Calls Tryd.prog 22 #[.pointer (some ⟨g, 0, none⟩), .string k] w fun e w' => e = .returned (.int .i64 (s.remove k).2) ∧ DkPost w F g (s.remove k).1 w' := by
  have hkn := disk_known F g s k w h hk
  have H := Lib.hid h
  have HREADY := Lib.hid (fun W (hW : DkAt W F g s) => disk_ready F g s W hW hs.l0 hs.l1)
  have HDROP := Lib.hid (fun W (hW : DkAt W F g s.tick) => disk_drop F g s.tick k W hW hk hs.tick.u0 (by have := hs.tick.u1; have := hs.tick.r1; omega) (by have := hs.tick.file_le' k; omega))
  obtain ⟨R, hR⟩ : ∃ R, s.remove k = R := ⟨_, rfl⟩
  rw [hR]
  unfold DkS.remove at hR
  generalize fileAt s.fs k = fo at *
  generalize knownE s.fs k = er at *
  generalize s.tick.drop k = s3 at *
  generalize s.tick = s2 at *
  have HR := Lib.hid hR
  clear h hR hs
  go_enter Tryd.func22, Tryd.ntmps22
  go_wp2_with (fail)
  refine hkn.mono ?_
  rintro e w1 ⟨rfl, hb⟩
  clear hkn
  have HP1 := Lib.hid (DkPost.of_below H.out (hb.trans ((Below.refl _ _).alloc hb.size (.cells #[.string fo.has, .int .i64 fo.safe] 64))))
  clear hb
  by_cases he : er = 0
  · subst he
    have hr := HREADY.out _ HP1.out.2
    have HR2 := Lib.hid (show (if s2.down = true then (s2, 21) else (s3, (0 : Int))) = R from by have e := HR.out; rw [if_neg (show ¬ (0 : Int) ≠ 0 by simp)] at e; exact e)
    cases hd : s2.down with
    | true =>
      have hq := HR2.out
      rw [hd] at hq
      obtain rfl : (s2, (21 : Int)) = R := hq
      rw [hd] at hr
      go_wp2_with (fail)
      refine hr.mono ?_
      rintro e w2 ⟨rfl, hp⟩
      have HP2 := Lib.hid hp
      clear hp hr
      go_wp2
      go_ret
      exact ⟨rfl, HP1.out.then_ HP2.out⟩
    | false =>
      have hq := HR2.out
      rw [hd] at hq
      obtain rfl : (s3, (0 : Int)) = R := hq
      rw [hd] at hr
      go_wp2_with (fail)
      refine hr.mono ?_
      rintro e w2 ⟨rfl, hp⟩
      have HP2 := Lib.hid (HP1.out.then_ hp)
      clear hp hr
      have hdr := HDROP.out _ HP2.out.2
      go_wp2_with (fail)
      refine hdr.mono ?_
      rintro e w3 ⟨rfl, hp⟩
      have HP3 := Lib.hid (HP2.out.then_ hp)
      clear hp hdr
      go_wp2
      go_ret
      exact ⟨rfl, HP3.out⟩
  · obtain rfl : (s, er) = R := by rw [← HR.out, if_pos he]
    go_wp2
    go_ret
    exact ⟨rfl, HP1.out⟩
end Go.Proofs.YtaghdopickgpgaaDoor
