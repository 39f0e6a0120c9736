import Derived.Test.YtaghdopickgpgaaDoorRdH
namespace Go.Proofs.YtaghdopickgpgaaDoor
open Go Go.RowKit
open Go.Proofs.YtaghdopickgpgaaDoorW.PrintLast
set_option linter.unusedVariables false
set_option linter.unusedSimpArgs false

/-- Behind a call that may turn the files themselves. -/
def RkPostG (w : World) (G : Nat → Prop) (g : Nat) (s : DkS) (w' : World) : Prop := Kept w w' G ∧ RkAt w' G g s
theorem RkPost.wide {w w' : World} {G : Nat → Prop} {g : Nat} {s : DkS} (h : RkPost w G g s w') : RkPostG w G g s w' := by
  refine ⟨h.1.mono fun k _ e => ?_, h.2⟩
  obtain ⟨_, _, _, _, _, hg, _⟩ := h.2
  exact e ▸ hg
def midF (fs : Files) (i : Nat) : Files := (fs.take i).map syncF ++ fs.drop i
theorem midF_at {fs : Files} {i : Nat} (h : i < fs.length) : ∃ hi : i < (midF fs i).length, (midF fs i)[i] = fs[i] := by
  have hl : ((fs.take i).map syncF).length = i := by rw [List.length_map, List.length_take]; omega
  refine ⟨by unfold midF; rw [List.length_append, hl, List.length_drop]; omega, ?_⟩
  unfold midF
  rw [List.getElem_append_right (by rw [hl]; exact Nat.le_refl _)]
  simp only [hl, Nat.sub_self, List.getElem_drop, Nat.add_zero]
theorem midF_step {fs : Files} {i : Nat} (h : i < fs.length) : (midF fs i).set i (syncF fs[i]) = midF fs (i + 1) := by
  have hl : ((fs.take i).map syncF).length = i := by rw [List.length_map, List.length_take]; omega
  unfold midF
  rw [List.set_append_right _ _ (by rw [hl]; exact Nat.le_refl _), hl, Nat.sub_self, List.drop_eq_getElem_cons h, List.set_cons_zero, List.take_succ_eq_append_getElem h, List.map_append, List.append_assoc]
  rfl
theorem midF_len (fs : Files) (i : Nat) (h : i ≤ fs.length) : (midF fs i).length = fs.length := by
  unfold midF
  rw [List.length_append, List.length_map, List.length_take, List.length_drop]
  omega
set_option maxRecDepth 100000 in
set_option maxHeartbeats 4000000 in
theorem refd_sync (G : Nat → Prop) (g : Nat) (s : DkS) (w : World) (h : RkAt w G g s) (hs : s.Ok) :
    Calls Tryd.prog 38 #[.pointer (some ⟨g, 0, none⟩)] w fun e w' => e = .returned (.int .i64 s.sync.2) ∧ RkPostG w G g s.sync.1 w' := by
  have hrd := refd_ready G g s w h hs.l0 hs.l1
  have hn : s.tick.fs.length ≤ 64 := by rw [tick_fs]; exact hs.n
  have hsm : ∀ p ∈ s.tick.fs, p.2.has.size ≤ 262144 := fun p hp => by have h1 := total_mem hp; have := hs.tick.used; have := hs.tick.u1; have := hs.tick.r1; omega
  obtain ⟨R, hR⟩ : ∃ R, s.sync = R := ⟨_, rfl⟩
  rw [hR]
  unfold DkS.sync at hR
  generalize s.tick = s2 at *
  have HSM := Lib.hid hsm
  clear hs h hsm
  cases hd : s2.down with
  | true =>
    rw [hd] at hrd
    rw [hd, if_pos rfl] at hR
    subst hR
    go_enter Tryd.func38, Tryd.ntmps38
    go_wp2_with (fail)
    refine hrd.mono ?_
    rintro e w2 ⟨rfl, hp⟩
    have HP2 := Lib.hid hp.wide
    clear hrd hp
    go_wp2
    go_ret
    exact ⟨rfl, HP2.out⟩
  | false =>
    rw [hd] at hrd
    rw [hd, if_neg (by simp)] at hR
    subst hR
    go_enter Tryd.func38, Tryd.ntmps38
    go_wp2_with (fail)
    refine hrd.mono ?_
    rintro e w2 ⟨rfl, hp⟩
    have HP2 := Lib.hid hp.wide
    obtain ⟨vl, lf, hb, h1, hlf, hg, f1⟩ := hp.2
    obtain ⟨A, c, rfl⟩ := h1.shape
    have HB := Lib.hid hb
    have H1 := Lib.hid h1
    have HLF := Lib.hid hlf
    have HF1 := Lib.hid f1
    have HG := Lib.hid hg
    have hglt := hb.lt
    have hnb : Hid (∀ k, (Value.slice A s2.fs.length c).ownBlock = some k → k ≠ g) := Lib.hid fun k e hk => h1.ne_blk hb (by decide) (hk ▸ e)
    clear hrd hp hb h1 hlf f1 hg
    go_wp2_with (fail)
    go_loopg [3] s2.fs.length (fun gg s3 wr => ∃ (i : Nat), i ≤ s2.fs.length ∧ s2.fs.length - i ≤ gg ∧ s3 = .int .i64 i ∧ Hid (Row wr 79 3 FE (.slice A s2.fs.length c) (midF s2.fs i)) ∧ Hid (Kept w2 wr (fun k => (Value.slice A s2.fs.length c).ownBlock = some k)))
    case atStart => exact ⟨0, Nat.zero_le _, by omega, by go_num, H1, Lib.hid (Kept.refl _ _)⟩
    case round =>
      obtain ⟨i, hi, hgg, rfl, HR, HK⟩ := hrel
      have hb' := HB.out.kept HK.out (fun e => hnb.out g e rfl)
      have c1 := hb'.cell 1
      have hgl' := hb'.lt
      have HB' := Lib.hid hb'
      clear hb'
      have hn64 : (s2.fs.length : Int) ≤ 64 := by omega
      by_cases hil : i < s2.fs.length
      · obtain ⟨gb, c', hv, hgl, hcl⟩ := H1.out.form (by omega)
        injection hv with hA _ hc
        subst hA hc
        obtain ⟨hmi, hma⟩ := midF_at hil
        obtain ⟨d0, d1, d2⟩ := FE_at HR.out i hmi
        rw [hma] at d0 d1 d2
        have z2 := HR.out.frozen (i * 3 + 2)
        have hgbl := HR.out.lt (k := gb) (by simp [Value.ownBlock])
        have HST := Lib.hid (midF_step hil)
        have HR' := Lib.hid (HR.out.set_one (fun _ => rfl) i 2 (syncF s2.fs[i]) (.int .i64 (s2.fs[i].2.has.size : Int)) hmi (by decide) (by rw [hma]; rfl))
        rw [HST.out] at HR'
        have hps : s2.fs[i].2.has.size ≤ 262144 := HSM.out _ (List.getElem_mem hil)
        obtain ⟨p, hp⟩ : ∃ p, s2.fs[i] = p := ⟨_, rfl⟩
        rw [hp] at d0 d1 d2 hps HR'
        have hlz : (i : Int) < (s2.fs.length : Int) := by omega
        have hps2 : (p.2.has.size : Int) ≤ 262144 := by omega
        have HK' := Lib.hid ((Kept.refl wr fun k => (Value.slice (some (⟨gb, 0, none⟩ : Addr)) s2.fs.length c).ownBlock = some k).setCell (p := ⟨gb, i * 3 + 2, none⟩) (.inl (by simp [Value.ownBlock])) (.int .i64 (p.2.has.size : Int)))
        clear hp hma hmi HST
        go_wp2_with (fail)
        refine start_ (n := 17) (S := fun w' => w'.cell? ⟨g, 1, none⟩ = some (.slice (some ⟨gb, 0, none⟩) s2.fs.length c) ∧ w'.cell? ⟨gb, i * 3 + 1, none⟩ = some (.string p.2.has)) (ds := [16]) #[false, false, false, false, false, false, false, false, false, false, false, false, false, false, false, false, false] (by kernel_rfl) rfl rfl ⟨c1, d1⟩ (fun hHeld => ?_)
        refine pure_ (i := 0) (N := some 16) (v := ?_) (a' := ?_) #[true, false, false, false, false, false, false, false, false, false, false, false, false, false, false, false, false] rfl rfl (by kernel_rfl) (fun _ _ _ h => h) (Or.inl ⟨by rfl, ?_⟩) ?_ ?_
        rotate_left
        · intro w'
          go_simp
          with_reducible rfl
        rotate_left
        · simp only [Act.put, List.setIfInBounds_toArray, List.set_cons_zero, List.set_cons_succ, i64_w, i32_w]
          rfl
        refine pure_ (i := 1) (N := some 17) (v := ?_) (a' := ?_) #[true, true, false, false, false, false, false, false, false, false, false, false, false, false, false, false, false] rfl rfl (by kernel_rfl) (fun _ _ _ h => h) (Or.inl ⟨by rfl, ?_⟩) ?_ ?_
        rotate_left
        · intro w'
          go_simp
          with_reducible rfl
        rotate_left
        · simp only [Act.put, List.setIfInBounds_toArray, List.set_cons_zero, List.set_cons_succ, i64_w, i32_w]
          rfl
        refine pure_ (i := 2) (N := some 18) (v := ?_) (a' := ?_) #[true, true, true, false, false, false, false, false, false, false, false, false, false, false, false, false, false] rfl rfl (by kernel_rfl) (fun _ _ _ h => h) (Or.inl ⟨by rfl, ?_⟩) ?_ ?_
        rotate_left
        · intro w'
          go_simp
          with_reducible rfl
        rotate_left
        · simp only [Act.put, List.setIfInBounds_toArray, List.set_cons_zero, List.set_cons_succ, i64_w, i32_w]
          rfl
        refine pure_ (i := 4) (N := some 20) (v := ?_) (a' := ?_) #[true, true, true, false, true, false, false, false, false, false, false, false, false, false, false, false, false] rfl rfl (by kernel_rfl) (fun _ _ _ h => h) (Or.inl ⟨by rfl, ?_⟩) ?_ ?_
        rotate_left
        · intro w'
          go_simp
          with_reducible rfl
        rotate_left
        · simp only [Act.put, List.setIfInBounds_toArray, List.set_cons_zero, List.set_cons_succ, i64_w, i32_w]
          rfl
        refine pure_ (i := 5) (N := some 21) (v := ?_) (a' := ?_) #[true, true, true, false, true, true, false, false, false, false, false, false, false, false, false, false, false] rfl rfl (by kernel_rfl) (fun _ _ _ h => h) (Or.inl ⟨by rfl, ?_⟩) ?_ ?_
        rotate_left
        · intro w'
          go_simp
          with_reducible rfl
        rotate_left
        · simp only [Act.put, List.setIfInBounds_toArray, List.set_cons_zero, List.set_cons_succ, i64_w, i32_w]
          rfl
        refine pure_ (i := 6) (N := some 22) (v := ?_) (a' := ?_) #[true, true, true, false, true, true, true, false, false, false, false, false, false, false, false, false, false] rfl rfl (by kernel_rfl) (fun _ _ _ h => h) (Or.inl ⟨by rfl, ?_⟩) ?_ ?_
        rotate_left
        · intro w'
          go_simp
          with_reducible rfl
        rotate_left
        · simp only [Act.put, List.setIfInBounds_toArray, List.set_cons_zero, List.set_cons_succ, i64_w, i32_w]
          rfl
        refine pure_ (i := 7) (N := some 23) (v := ?_) (a' := ?_) #[true, true, true, false, true, true, true, true, false, false, false, false, false, false, false, false, false] rfl rfl (by kernel_rfl) (fun _ _ _ h => h) (Or.inl ⟨by rfl, ?_⟩) ?_ ?_
        rotate_left
        · intro w'
          go_simp
          with_reducible rfl
        rotate_left
        · simp only [Act.put, List.setIfInBounds_toArray, List.set_cons_zero, List.set_cons_succ, i64_w, i32_w]
          rfl
        refine pure_ (i := 9) (N := some 25) (v := ?_) (a' := ?_) #[true, true, true, false, true, true, true, true, false, true, false, false, false, false, false, false, false] rfl rfl (by kernel_rfl) (fun _ _ _ h => h) (Or.inl ⟨by rfl, ?_⟩) ?_ ?_
        rotate_left
        · intro w'
          go_simp
          with_reducible rfl
        rotate_left
        · simp only [Act.put, List.setIfInBounds_toArray, List.set_cons_zero, List.set_cons_succ, i64_w, i32_w]
          rfl
        refine take_ (i := 3) (N := some 19) (v := ?_) (a' := ?_) #[true, true, true, true, true, true, true, true, false, true, false, false, false, false, false, false, false] rfl rfl (by kernel_rfl) (fun _ _ _ h => h) (Or.inl ⟨by rfl, ?_⟩) hHeld ?_ ?_
        rotate_left
        · rintro w' ⟨s0, s1⟩
          go_simp
          with_reducible rfl
        rotate_left
        · simp only [Act.put, List.setIfInBounds_toArray, List.set_cons_zero, List.set_cons_succ, i64_w, i32_w]
          rfl
        refine take_ (i := 8) (N := some 24) (v := ?_) (a' := ?_) #[true, true, true, true, true, true, true, true, true, true, false, false, false, false, false, false, false] rfl rfl (by kernel_rfl) (fun _ _ _ h => h) (Or.inl ⟨by rfl, ?_⟩) hHeld ?_ ?_
        rotate_left
        · rintro w' ⟨s0, s1⟩
          go_simp
          with_reducible rfl
        rotate_left
        · simp only [Act.put, List.setIfInBounds_toArray, List.set_cons_zero, List.set_cons_succ, i64_w, i32_w]
          rfl
        refine pure_ (i := 10) (N := some 26) (v := ?_) (a' := ?_) #[true, true, true, true, true, true, true, true, true, true, true, false, false, false, false, false, false] rfl rfl (by kernel_rfl) (fun _ _ _ h => h) (Or.inl ⟨by rfl, ?_⟩) ?_ ?_
        rotate_left
        · intro w'
          go_simp
          with_reducible rfl
        rotate_left
        · simp only [Act.put, List.setIfInBounds_toArray, List.set_cons_zero, List.set_cons_succ, i64_w, i32_w]
          rfl
        refine pure_ (i := 11) (N := some 27) (v := ?_) (a' := ?_) #[true, true, true, true, true, true, true, true, true, true, true, true, false, false, false, false, false] rfl rfl (by kernel_rfl) (fun _ _ _ h => h) (Or.inl ⟨by rfl, ?_⟩) ?_ ?_
        rotate_left
        · intro w'
          go_simp
          with_reducible rfl
        rotate_left
        · simp only [Act.put, List.setIfInBounds_toArray, List.set_cons_zero, List.set_cons_succ, i64_w, i32_w]
          rfl
        refine take_ (i := 12) (N := some 28) (v := ?_) (a' := ?_) #[true, true, true, true, true, true, true, true, true, true, true, true, true, false, false, false, false] rfl rfl (by kernel_rfl) (fun _ _ _ h => h) (Or.inl ⟨by rfl, ?_⟩) hHeld ?_ ?_
        rotate_left
        · rintro w' ⟨s0, s1⟩
          go_simp
          with_reducible rfl
        rotate_left
        · simp only [Act.put, List.setIfInBounds_toArray, List.set_cons_zero, List.set_cons_succ, i64_w, i32_w]
          rfl
        refine pure_ (i := 13) (N := some 29) (v := ?_) (a' := ?_) #[true, true, true, true, true, true, true, true, true, true, true, true, true, true, false, false, false] rfl rfl (by kernel_rfl) (fun _ _ _ h => h) (Or.inl ⟨by rfl, ?_⟩) ?_ ?_
        rotate_left
        · intro w'
          go_simp
          with_reducible rfl
        rotate_left
        · simp only [Act.put, List.setIfInBounds_toArray, List.set_cons_zero, List.set_cons_succ, i64_w, i32_w]
          rfl
        refine pure_ (i := 14) (N := some 30) (v := ?_) (a' := ?_) #[true, true, true, true, true, true, true, true, true, true, true, true, true, true, true, false, false] rfl rfl (by kernel_rfl) (fun _ _ _ h => h) (Or.inl ⟨by rfl, ?_⟩) ?_ ?_
        rotate_left
        · intro w'
          go_simp
          with_reducible rfl
        rotate_left
        · simp only [Act.put, List.setIfInBounds_toArray, List.set_cons_zero, List.set_cons_succ, i64_w, i32_w]
          rfl
        refine pure_ (i := 15) (N := some 31) (v := ?_) (a' := ?_) #[true, true, true, true, true, true, true, true, true, true, true, true, true, true, true, true, false] rfl rfl (by kernel_rfl) (fun _ _ _ h => h) (Or.inl ⟨by rfl, ?_⟩) ?_ ?_
        rotate_left
        · intro w'
          go_simp
          with_reducible rfl
        rotate_left
        · simp only [Act.put, List.setIfInBounds_toArray, List.set_cons_zero, List.set_cons_succ, i64_w, i32_w]
          rfl
        refine last_ (i := 16) (N := none) #[true, true, true, true, true, true, true, true, true, true, true, true, true, true, true, true, true] rfl rfl (by kernel_rfl) (by decide) (fun K hK => ?_)
        refine skip_ (w1 := ?_) (by rfl) rfl ?_ ?_
        rotate_left
        · go_simp
          rfl
        refine hK.out _ _ ?_
        clear hK K
        refine done_ (by kernel_rfl) ?_
        go_wp2
        go_roundg (s2.fs.length - (i + 1))
        case measure => omega
        case rel => exact ⟨i + 1, hil, Nat.le_refl _, by go_num, Lib.hid (HR'.out.drew), Lib.hid ((HK.out.trans HK'.out).drew)⟩
      · have hlz : ¬ (i : Int) < (s2.fs.length : Int) := by omega
        go_wp2
        go_ret
        have hie : i = s2.fs.length := by omega
        have hfs : midF s2.fs i = s2.synced.fs := by
          unfold midF
          rw [hie, List.take_length, List.drop_length, List.append_nil]
          rfl
        refine ⟨rfl, HP2.out.1.trans (HK.out.mono fun k _ e => HF1.out k e), .slice A s2.fs.length c, lf, ?_, ?_, HLF.out, HG.out, HF1.out⟩
        · have h := HB'.out
          exact h
        · rw [← hfs]
          exact HR.out
end Go.Proofs.YtaghdopickgpgaaDoor
