import Derived.Test.YtaghdopickgpgaaDoorDkC
namespace Go.Proofs.YtaghdopickgpgaaDoor
open Go Go.RowKit
set_option linter.unusedVariables false
set_option linter.unusedSimpArgs false

theorem may_one (k : ByteArray) (W : World) (n : Nat) (hn : W.heap.size = n) (hs : k.size ≤ maxLen) : Calls Tryd.prog 29 #[.slice (some ⟨n, 0, none⟩) 1 1] (W.alloc (.cells #[.string k] 9)) fun e w' => e = .returned (.bool (okName k)) ∧ Below W.heap.size W w' := by
  subst hn
  have hr : Row (W.alloc (.cells #[.string k] 9)) 9 1 scells (.slice (some ⟨W.heap.size, 0, none⟩) 1 1) [k] := World.ownsRow_lit W #[.string k] 1 (Nat.zero_le _) (by decide) rfl
  refine (may_calls _ [k] _ hr (by simp) (by simp only [maxLen] at hs; simp; omega)).mono ?_
  rintro e w' ⟨rfl, hb⟩
  exact ⟨ret_bool (by simp [okNames]), ((Below.refl _ W).alloc (Nat.le_refl _) _).trans (hb.mono (by simp))⟩
theorem may_two (j k : ByteArray) (W : World) (n : Nat) (hn : W.heap.size = n) (hj : j.size ≤ maxLen) (hs : k.size ≤ maxLen) : Calls Tryd.prog 29 #[.slice (some ⟨n, 0, none⟩) 2 2] (W.alloc (.cells #[.string j, .string k] 9)) fun e w' => e = .returned (.bool (okName j && okName k)) ∧ Below W.heap.size W w' := by
  subst hn
  have hr : Row (W.alloc (.cells #[.string j, .string k] 9)) 9 1 scells (.slice (some ⟨W.heap.size, 0, none⟩) 2 2) [j, k] := World.ownsRow_lit W #[.string j, .string k] 2 (Nat.zero_le _) (by decide) rfl
  refine (may_calls _ [j, k] _ hr (by simp) (by simp only [maxLen] at hs hj; simp; omega)).mono ?_
  rintro e w' ⟨rfl, hb⟩
  exact ⟨ret_bool (by simp [okNames]), ((Below.refl _ W).alloc (Nat.le_refl _) _).trans (hb.mono (by simp))⟩
def knownE (fs : Files) (k : ByteArray) : Int := if okName k = true then (if (look fs k).isSome = true then 0 else 5) else 20
set_option maxRecDepth 100000 in
set_option maxHeartbeats 1000000 in
theorem disk_known (F : Nat → Prop) (g : Nat) (s : DkS) (k : ByteArray) (w : World) (h : DkAt w F g s) (hk : k.size ≤ maxLen) :
    Calls Tryd.prog 32 #[.pointer (some ⟨g, 0, none⟩), .string k] w fun e w' => e = .returned (.tuple #[.agg #[.string (fileAt s.fs k).has, .int .i64 (fileAt s.fs k).safe], .int .i64 (knownE s.fs k)]) ∧ Below w.heap.size w w' := by
  obtain ⟨b, hb, hm, hg, f1, fz⟩ := h
  have hne := blk_map hb hm
  have hlt := hb.lt
  have c2 := hb.cell 2
  have hl := fileOk_run (hm.alloc (.cells #[.string ⟨#[]⟩, .int .i64 0] 64)) k hk
  unfold knownE
  have MAY := Lib.hid (fun W n hn => may_one k W n hn hk)
  generalize fileAt s.fs k = fo at *
  generalize (look s.fs k).isSome = q at *
  generalize okName k = p at *
  obtain ⟨er, her⟩ : ∃ er : Int, er = (if p = true then (if q = true then 0 else 5) else 20) := ⟨_, rfl⟩
  rw [← her]
  have HER := Lib.hid her
  clear hb hm her fz
  have fret : ∀ (W : World), W.cell? ⟨w.heap.size, 0, none⟩ = some (.string fo.has) → W.cell? ⟨w.heap.size, 1, none⟩ = some (.int .i64 fo.safe) → Below w.heap.size w W → ∀ tmps : Array Value, tmps[4]? = some (.pointer (some ⟨w.heap.size, 0, none⟩)) → tmps[5]? = some (.int .i64 er) → bodyPost Tryd.prog Tryd.f32 (fun e w' => e = .returned (.tuple #[.agg #[.string fo.has, .int .i64 fo.safe], .int .i64 er]) ∧ Below w.heap.size w w') Exit.ret ⟨tmps, []⟩ W := by
    intro W h0 h1 hB tmps t4 t5
    refine bodyPost_ret (v := .tuple #[.agg #[.string fo.has, .int .i64 fo.safe], .int .i64 er]) ?_ rfl ⟨rfl, hB⟩
    simp [results, Tryd.results32, go_sem, t4, t5, h0, h1]
  have FRET := Lib.hid fret
  clear fret
  go_enter Tryd.func32, Tryd.ntmps32
  go_wp2_with (fail)
  have hX := Lib.hid ((Blk.new w 64 #[.string ⟨#[]⟩, .int .i64 0]).alloc (.cells #[.string fo.has, .int .i64 fo.safe] 64))
  have hY : Hid (Blk ((w.alloc (.cells #[.string ⟨#[]⟩, .int .i64 0] 64)).alloc (.cells #[.string fo.has, .int .i64 fo.safe] 64)) (w.heap.size + 1) 64 #[.string fo.has, .int .i64 fo.safe]) := Lib.hid (by
    have := Blk.new (w.alloc (.cells #[.string ⟨#[]⟩, .int .i64 0] 64)) 64 #[.string fo.has, .int .i64 fo.safe]
    simpa using this)
  have hWW := Lib.hid (((Below.refl w.heap.size w).alloc (Nat.le_refl _) (.cells #[.string ⟨#[]⟩, .int .i64 0] 64)).alloc (by simp) (.cells #[.string fo.has, .int .i64 fo.safe] 64))
  have hW : ((w.alloc (.cells #[.string ⟨#[]⟩, .int .i64 0] 64)).alloc (.cells #[.string fo.has, .int .i64 fo.safe] 64)).heap.size = w.heap.size + 1 + 1 := by simp
  have hmay := MAY.out _ _ hW
  clear hl
  generalize ((w.alloc (.cells #[.string ⟨#[]⟩, .int .i64 0] 64)).alloc (.cells #[.string fo.has, .int .i64 fo.safe] 64)) = W2 at *
  refine hmay.mono ?_
  rintro e w3 ⟨rfl, hb3⟩
  clear hmay
  have x3 := hX.out.kept (Kept.of_below hb3 fun _ => False) (fun h => h)
  have y3 := hY.out.kept (Kept.of_below hb3 fun _ => False) (fun h => h)
  have hxl := x3.lt
  have hyl := y3.lt
  have xz0 := x3.frozen 0
  have xz1 := x3.frozen 1
  have xc0 := x3.cell 0
  have xc1 := x3.cell 1
  have yc0 := y3.cell 0
  have yc1 := y3.cell 1
  have hB := Lib.hid (hWW.out.trans (hb3.mono (by omega)))
  have hx5 := (x3.set_ 0 (.string fo.has)).set_ 1 (.int .i64 fo.safe)
  have e0 := Lib.hid (show ((w3.setCell ⟨w.heap.size, 0, none⟩ (.string fo.has)).setCell ⟨w.heap.size, 1, none⟩ (.int .i64 fo.safe)).cell? ⟨w.heap.size, 0, none⟩ = some (.string fo.has) by have := hx5.cell 0; simpa using this)
  have e1 := Lib.hid (show ((w3.setCell ⟨w.heap.size, 0, none⟩ (.string fo.has)).setCell ⟨w.heap.size, 1, none⟩ (.int .i64 fo.safe)).cell? ⟨w.heap.size, 1, none⟩ = some (.int .i64 fo.safe) by have := hx5.cell 1; simpa using this)
  clear x3 y3 hb3 hX hY hWW hW hx5
  have fin : ∀ u v : Value, Below w.heap.size w ((w3.setCell ⟨w.heap.size, 0, none⟩ u).setCell ⟨w.heap.size, 1, none⟩ v) := fun u v => (hB.out.setCell (Nat.le_refl _) u).setCell (Nat.le_refl _) v
  have FIN := Lib.hid fin
  clear fin
  cases p with
  | false =>
    obtain rfl : er = 20 := HER.out
    go_wp2
    exact FRET.out _ e0.out e1.out (FIN.out _ _) _ rfl rfl
  | true =>
    cases q with
    | false =>
      obtain rfl : er = 5 := HER.out
      go_wp2
      exact FRET.out _ e0.out e1.out (FIN.out _ _) _ rfl rfl
    | true =>
      obtain rfl : er = 0 := HER.out
      go_wp2
      exact FRET.out _ e0.out e1.out (FIN.out _ _) _ rfl rfl
end Go.Proofs.YtaghdopickgpgaaDoor
