import Derived.Test.YtaghdopickgpgaaDoorDkL
import Derived.Test.YtaghdopickgpgaaDoorWLast
namespace Go.Proofs.YtaghdopickgpgaaDoor
open Go Go.RowKit
open Go.Proofs.YtaghdopickgpgaaDoorW.PrintLast
set_option linter.unusedVariables false
set_option linter.unusedSimpArgs false

/-- Draws that came in: whole numbers at some address, outside of F. -/
def Draws (w : World) (F : Nat → Prop) (A : Option Addr) (l : List Int) : Prop :=
  l ≠ [] → ∃ ad : Addr, A = some ad ∧ ad.block < w.heap.size ∧ ¬ F ad.block ∧ ∀ (i : Nat) (x : Int), l[i]? = some x → w.cell? (ad.add i) = some (.int .i64 x)
theorem Draws.kept {w w' : World} {F : Nat → Prop} {A : Option Addr} {l : List Int} (h : Draws w F A l) {S : Nat → Prop} (hk : Kept w w' S) (hS : ∀ k, k < w.heap.size → S k → F k) : Draws w' F A l := by
  intro hl
  obtain ⟨ad, rfl, h1, h2, h3⟩ := h hl
  refine ⟨ad, rfl, Nat.lt_of_lt_of_le h1 hk.size, h2, fun i x hi => ?_⟩
  have hb : (ad.add i).block = ad.block := by unfold Addr.add; split <;> rfl
  rw [hk.cell (p := ad.add i) (by rw [hb]; exact h1) (by rw [hb]; exact fun h => h2 (hS _ h1 h))]
  exact h3 i x hi
theorem disk_crash_long (F : Nat → Prop) (g : Nat) (s : DkS) (A : Option Addr) (n c : Nat) (w : World) (hn : 4096 < n) (hn2 : n ≤ 4611686018427387904) :
    Calls Tryd.prog 15 #[.pointer (some ⟨g, 0, none⟩), .slice A n c] w fun e w' => e = .returned (.int .i64 2) ∧ w' = w := by
  have h1 : (4096 : Int) < (n : Int) := by omega
  go_enter Tryd.func15, Tryd.ntmps15
  go_wp2
  go_ret
  exact ⟨rfl, rfl⟩
def midS (s : DkS) (pre : Files) (k : Nat) : DkS := ⟨s.room, total (pre ++ s.fs.drop k), pre ++ s.fs.drop k, false, false, 0⟩
set_option maxRecDepth 100000 in
set_option maxHeartbeats 2000000 in
theorem disk_crash (F : Nat → Prop) (g : Nat) (s : DkS) (A : Option Addr) (ds : List Int) (c : Nat) (w : World) (h : DkAt w F g s) (hs : s.Ok) (hd : Draws w F A ds) (hn : ds.length ≤ 4096) (hcap : ds.length ≤ c) :
    Calls Tryd.prog 15 #[.pointer (some ⟨g, 0, none⟩), .slice A ds.length c] w fun e w' => e = .returned (.int .i64 0) ∧ DkPost w F g (s.crashed ds) w' := by
  have h1 : (ds.length : Int) ≤ 4096 := by omega
  have hs0 : DkS.Ok { s with fused := false, down := false, left := 0 } := ⟨hs.r0, hs.r1, hs.used, hs.u1, hs.n, hs.safe, hs.names, hs.sorted, Int.le_refl _, show (0 : Int) ≤ 9223372036854775807 by decide⟩
  obtain ⟨b, hb, hm, hg, f1, fz⟩ := h
  have hne := blk_map hb hm
  have hlt := hb.lt
  have c3 := hb.cell 3
  have c4 := hb.cell 4
  have c5 := hb.cell 5
  have z3 := hb.frozen 3
  have z4 := hb.frozen 4
  have z5 := hb.frozen 5
  have hkg := (((Kept.refl w fun k => k = g).setCell (p := ⟨g, 3, none⟩) (.inl rfl) (.bool false)).setCell (p := ⟨g, 4, none⟩) (.inl rfl) (.bool false)).setCell (p := ⟨g, 5, none⟩) (.inl rfl) (.int .i64 0)
  have hkF := (((Kept.refl w F).setCell (p := ⟨g, 3, none⟩) (.inl hg) (.bool false)).setCell (p := ⟨g, 4, none⟩) (.inl hg) (.bool false)).setCell (p := ⟨g, 5, none⟩) (.inl hg) (.int .i64 0)
  have HP1 : Hid (DkPost w F g { s with fused := false, down := false, left := 0 } (((w.setCell ⟨g, 3, none⟩ (.bool false)).setCell ⟨g, 4, none⟩ (.bool false)).setCell ⟨g, 5, none⟩ (.int .i64 0))) :=
    Lib.hid ⟨hkF, b, ((hb.set_ 3 _).set_ 4 _).set_ 5 _, hm.kept hkg (fun e => hne e.symm), hg, f1, fun k h => Nat.lt_of_lt_of_le (fz k h) hkF.size⟩
  have HD1 := Lib.hid (hd.kept hkF (fun _ _ h => h))
  have HFZ := Lib.hid fz
  have hnames := disk_names F g _ _ HP1.out.2 hs0
  clear hb hm hkg hkF hd fz
  go_enter Tryd.func15, Tryd.ntmps15
  go_wp2_with (fail)
  refine hnames.mono ?_
  rintro e w2 ⟨v, rfl, hrow, hb2, hfresh⟩
  obtain ⟨An, cn, rfl⟩ := hrow.shape
  have hnl : (namesOf s.fs).length = s.fs.length := List.length_map ..
  rw [hnl]
  have HROW := Lib.hid hrow
  have HFR := Lib.hid hfresh
  have HP2 := Lib.hid (HP1.out.behind hb2)
  have HD2 := Lib.hid (HD1.out.kept (Kept.of_below hb2 fun _ => False) (fun _ _ h => h.elim))
  have hsz2 : w.heap.size ≤ w2.heap.size := HP2.out.1.size
  have hn64 := hs.n
  have HS := Lib.hid hs
  clear hrow hfresh hb2 hnames c3 c4 c5 z3 z4 z5 HP1 HD1 hs0 hs
  go_wp2_with (fail)
  go_loopg [1, 6, 7, 8, 9, 25] s.fs.length (fun gg s1 _ _ _ _ s25 wr => ∃ (k : Nat) (pre : Files) (dsr : List Int) (A' : Option Addr) (c' : Nat), k ≤ s.fs.length ∧ s.fs.length - k ≤ gg ∧ s25 = .int .i64 k ∧ s1 = .slice A' dsr.length c' ∧ dsr.length ≤ 4096 ∧ dsr.length ≤ c' ∧ Hid (Draws wr F A' dsr) ∧ Hid (crashL s.fs ds = pre ++ crashL (s.fs.drop k) dsr) ∧ Hid ((midS s pre k).Ok) ∧ Hid (DkPost w F g (midS s pre k) wr) ∧ Hid (Kept w2 wr F))
  case atStart => exact ⟨0, [], ds, A, c, Nat.zero_le _, by omega, by go_num, rfl, hn, hcap, HD2, Lib.hid rfl, Lib.hid (by
    have h := HS.out
    exact ⟨h.r0, h.r1, rfl, (by have := h.used; have := h.u1; show total ([] ++ s.fs.drop 0) ≤ s.room; simp; omega), (by show ([] ++ s.fs.drop 0).length ≤ 64; simpa using h.n), (by simpa [midS] using h.safe), (by simpa [midS] using h.names), (by simpa [midS] using h.sorted), Int.le_refl _, show (0 : Int) ≤ 9223372036854775807 by decide⟩), Lib.hid (by
    have := HP2.out
    have e : midS s [] 0 = { s with fused := false, down := false, left := 0 } := by unfold midS; simp [HS.out.used]
    rw [e]
    exact this), Lib.hid (Kept.refl _ _)⟩
  case round =>
    obtain ⟨k, pre, dsr, A', c', hk, hgg, rfl, rfl, hdl, hcl', HD, HC, HO, HP, HK⟩ := hrel
    by_cases hlt' : k < s.fs.length
    · obtain ⟨kn, fo, hp⟩ : ∃ kn fo, s.fs[k] = (kn, fo) := ⟨_, _, rfl⟩
      have hdrop : s.fs.drop k = (kn, fo) :: s.fs.drop (k + 1) := by rw [List.drop_eq_getElem_cons hlt', hp]
      obtain ⟨gb, cn', hv, hgl, hcl⟩ := HROW.out.form (by rw [hnl]; omega)
      injection hv with hA _ hc
      subst hA hc
      have hnF : ¬ F gb := fun hF => by have h1 := HFZ.out gb hF; have h2 := HFR.out gb (by simp [Value.ownBlock]); simp at h2; omega
      have r := HROW.out.kept HK.out (fun k e => by cases e; exact hnF)
      have c0 := r.cell (fun _ => rfl) k 0 (by rw [hnl]; exact hlt') (by omega)
      have c0' : wr.cell? ⟨gb, k, none⟩ = some (.string kn) := by
        have : (namesOf s.fs)[k]'(by rw [hnl]; exact hlt') = kn := by simp [namesOf, hp]
        rw [this] at c0
        simpa [scells] using c0
      clear c0 r
      have hok32 : kn.size ≤ 32 := by
        have := HO.out.names (kn, fo) (by show (kn, fo) ∈ pre ++ s.fs.drop k; rw [hdrop]; simp)
        unfold okName at this
        simp at this
        exact this.1.2
      obtain ⟨b', hb', hm', _, f1', fz'⟩ := HP.out.2
      have d2 := hb'.cell 2
      have hgl' := hb'.lt
      have hl := file_run hm' kn (by simp only [maxLen]; omega)
      have hfa : fileAt (pre ++ s.fs.drop k) kn = fo := by
        have hso := HO.out.sorted
        unfold midS at hso
        rw [hdrop] at hso ⊢
        unfold fileAt
        rw [look_there (f0 := fo) hso]
        rfl
      rw [show (midS s pre k).fs = pre ++ s.fs.drop k from rfl, hfa] at hl
      have hC2 : Hid (crashL s.fs ds = pre ++ (kn, (crash1 fo dsr).1) :: crashL (s.fs.drop (k + 1)) (crash1 fo dsr).2) := Lib.hid (by rw [HC.out, hdrop]; rfl)
      have hput : Hid (∀ f : DF, putF (pre ++ s.fs.drop k) kn f = pre ++ (kn, f) :: s.fs.drop (k + 1)) := Lib.hid fun f => by
        have hso := HO.out.sorted
        unfold midS at hso
        rw [hdrop] at hso ⊢
        exact putF_there (f0 := fo) hso
      have hfs := HO.out.safe (kn, fo) (by show (kn, fo) ∈ pre ++ s.fs.drop k; rw [hdrop]; simp)
      have hfb : (fo.has.size : Int) ≤ 262144 := by
        have h1 : (fo.has.size : Int) ≤ total (pre ++ s.fs.drop k) := total_mem (p := (kn, fo)) (by rw [hdrop]; simp)
        have h2 := HO.out.u1
        have h3 := HO.out.r1
        have h4 : (midS s pre k).used = total (pre ++ s.fs.drop k) := rfl
        omega
      have hfs0 : 0 ≤ fo.safe := hfs.1
      have hfs1 : fo.safe ≤ (fo.has.size : Int) := hfs.2
      have hlz : (k : Int) < (s.fs.length : Int) := by omega
      have hbl := hm'.lt
      have HM' := Lib.hid hm'
      have HB' := Lib.hid hb'
      have HFZ' := Lib.hid fz'
      have HDROP := Lib.hid hdrop
      have HPK := Lib.hid hp
      have hw1 : IntKind.i64.wrap ((fo.has.size : Int) - fo.safe) = (fo.has.size : Int) - fo.safe := by rw [IntKind.wrap_i64]; omega
      clear hdrop hp hm' hb' fz' hfs hfa
      by_cases ht : (fo.has.size : Int) - fo.safe = 0
      · have hq : (((fo.has.size : Int) - fo.safe) == 0) = true := beq_iff_eq.2 ht
        have hc1 : crash1 fo dsr = (fo, dsr) := by unfold crash1 tailF; rw [if_pos ht]
        rw [hc1] at hC2
        clear ht
        have hmid : midS s (pre ++ [(kn, fo)]) (k + 1) = midS s pre k := by unfold midS; rw [HDROP.out, List.append_assoc]; rfl
        have HMID := Lib.hid hmid
        have hkw := Lib.hid ((Kept.refl wr fun _ => False).alloc (.cells #[.string fo.has, .int .i64 fo.safe] 64))
        clear hmid
        go_wp2
        go_roundg (s.fs.length - (k + 1))
        case measure => omega
        case rel => exact ⟨k + 1, pre ++ [(kn, fo)], dsr, A', c', hlt', Nat.le_refl _, by go_num, rfl, hdl, hcl', Lib.hid (HD.out.kept hkw.out (fun _ _ h => h.elim)), Lib.hid (by rw [hC2.out, List.append_assoc]; rfl), Lib.hid (HMID.out ▸ HO.out), Lib.hid (by rw [HMID.out]; exact ⟨HP.out.1.alloc _, HP.out.2.kept hkw.out (fun _ _ _ h => h)⟩), Lib.hid (HK.out.alloc _)⟩
      · have hq : (((fo.has.size : Int) - fo.safe) == 0) = false := beq_eq_false_iff_ne.2 ht
        have ht1 : 1 ≤ (fo.has.size : Int) - fo.safe := by omega
        have hset : Hid (∀ keep : Int, 0 ≤ keep → keep ≤ (fo.has.size : Int) - fo.safe → (midS s (pre ++ [(kn, tornF fo keep)]) (k + 1)).Ok ∧ ∀ W, DkAt W F g (midS s pre k) → Calls Tryd.prog 31 #[.pointer (some ⟨g, 0, none⟩), .string kn, .agg #[.string (fo.has.extract 0 (fo.safe + keep).toNat), .int .i64 (fo.safe + keep)]] W fun e w' => e = .returned (.tuple #[]) ∧ DkPost W F g (midS s (pre ++ [(kn, tornF fo keep)]) (k + 1)) w') := Lib.hid fun keep hk0 hk1 => by
          have hso := HO.out.sorted
          have hnm := HO.out.names (kn, fo) (by show (kn, fo) ∈ pre ++ s.fs.drop k; rw [HDROP.out]; simp)
          have hlk : look (pre ++ s.fs.drop k) kn = some fo := by
            unfold midS at hso
            rw [HDROP.out] at hso ⊢
            exact look_there (f0 := fo) hso
          have hfi : fileAt (midS s pre k).fs kn = fo := by show fileAt (pre ++ s.fs.drop k) kn = fo; unfold fileAt; rw [hlk]; rfl
          have hsz : (tornF fo keep).has.size ≤ fo.has.size := by unfold tornF; simp only [ByteArray.size_extract]; omega
          have hsf : 0 ≤ (tornF fo keep).safe ∧ (tornF fo keep).safe ≤ ((tornF fo keep).has.size : Int) := by unfold tornF; simp only [ByteArray.size_extract]; omega
          have hok := HO.out.set kn (tornF fo keep) hnm hsf (by unfold sizeAt; rw [hfi]; have := HO.out.u1; omega) (.inl (by show (look (pre ++ s.fs.drop k) kn).isSome = true; rw [hlk]; rfl))
          have heq : (midS s pre k).set kn (tornF fo keep) = midS s (pre ++ [(kn, tornF fo keep)]) (k + 1) := by
            have hu := hok.used
            have hf2 : ((midS s pre k).set kn (tornF fo keep)).fs = pre ++ [(kn, tornF fo keep)] ++ s.fs.drop (k + 1) := by
              show putF (pre ++ s.fs.drop k) kn (tornF fo keep) = _
              rw [hput.out, List.append_assoc]
              rfl
            rw [hf2] at hu
            unfold midS
            rw [← hu, ← hf2]
            rfl
          rw [heq] at hok
          refine ⟨hok, fun W hW => ?_⟩
          rw [← heq]
          exact disk_set F g (midS s pre k) kn (tornF fo keep) W hW (by simp only [maxLen]; omega) HO.out.u0 (by have := HO.out.u1; have := HO.out.r1; omega) (by omega) (by rw [hfi]; omega) HO.out.n
        have hX := Lib.hid (Blk.new wr 64 #[.string fo.has, .int .i64 fo.safe])
        have hkw := Lib.hid ((Kept.refl wr fun _ => False).alloc (.cells #[.string fo.has, .int .i64 fo.safe] 64))
        have hA5 := Lib.hid (HP.out.2.kept hkw.out (fun _ _ _ h => h))
        have hK5 := Lib.hid (HP.out.1.alloc (.cells #[.string fo.has, .int .i64 fo.safe] 64))
        have hN5 := Lib.hid (HK.out.alloc (.cells #[.string fo.has, .int .i64 fo.safe] 64))
        have hD5 := Lib.hid (HD.out.kept hkw.out (fun _ _ h => h.elim))
        cases dsr with
        | nil =>
          have hc1 : crash1 fo [] = (tornF fo 0, []) := by unfold crash1 tailF; rw [if_neg ht]
          rw [hc1] at hC2
          have hset0 := Lib.hid (hset.out 0 (Int.le_refl _) (by omega))
          have x0 := hX.out.cell 0
          have x1 := hX.out.cell 1
          have hw2 : IntKind.i64.wrap fo.safe = fo.safe := by rw [IntKind.wrap_i64]; omega
          have hset1 : ∀ W, DkAt W F g (midS s pre k) → Calls Tryd.prog 31 #[.pointer (some ⟨g, 0, none⟩), .string kn, .agg #[.string (fo.has.extract 0 fo.safe.toNat), .int .i64 fo.safe]] W fun e w' => e = .returned (.tuple #[]) ∧ DkPost W F g (midS s (pre ++ [(kn, tornF fo 0)]) (k + 1)) w' := by
            have := hset0.out.2
            simp only [Int.add_zero] at this
            exact this
          have HSET1 := Lib.hid hset1
          clear ht hset1
          go_wp2_with (fail)
          generalize wr.alloc (.cells #[.string fo.has, .int .i64 fo.safe] 64) = wa at *
          refine start_ (n := 15) (S := fun w' => w'.cell? ⟨wr.heap.size, 0, none⟩ = some (.string fo.has) ∧ w'.cell? ⟨wr.heap.size, 1, none⟩ = some (.int .i64 fo.safe)) (ds := [14]) #[false, false, false, false, false, false, false, false, false, false, false, false, false, false, false] (by kernel_rfl) rfl rfl ⟨x0, x1⟩ (fun hHeld => ?_)
          refine pure_ (i := 0) (N := some 55) (v := ?_) (a' := ?_) #[true, false, false, false, false, false, false, false, false, false, false, false, false, false, false] rfl rfl (by kernel_rfl) (fun _ _ _ h => h) (Or.inl ⟨by rfl, ?_⟩) ?_ ?_
          rotate_left
          · intro w'
            go_simp
            with_reducible rfl
          rotate_left
          · simp only [Act.put, List.setIfInBounds_toArray, List.set_cons_zero, List.set_cons_succ, i64_w, i32_w]
            rfl
          refine pure_ (i := 1) (N := some 56) (v := ?_) (a' := ?_) #[true, true, false, false, false, false, false, false, false, false, false, false, false, false, false] rfl rfl (by kernel_rfl) (fun _ _ _ h => h) (Or.inl ⟨by rfl, ?_⟩) ?_ ?_
          rotate_left
          · intro w'
            go_simp
            with_reducible rfl
          rotate_left
          · simp only [Act.put, List.setIfInBounds_toArray, List.set_cons_zero, List.set_cons_succ, i64_w, i32_w]
            rfl
          refine pure_ (i := 2) (N := some 57) (v := ?_) (a' := ?_) #[true, true, true, false, false, false, false, false, false, false, false, false, false, false, false] rfl rfl (by kernel_rfl) (fun _ _ _ h => h) (Or.inl ⟨by rfl, ?_⟩) ?_ ?_
          rotate_left
          · intro w'
            go_simp
            with_reducible rfl
          rotate_left
          · simp only [Act.put, List.setIfInBounds_toArray, List.set_cons_zero, List.set_cons_succ, i64_w, i32_w]
            rfl
          refine pure_ (i := 4) (N := some 59) (v := ?_) (a' := ?_) #[true, true, true, false, true, false, false, false, false, false, false, false, false, false, false] rfl rfl (by kernel_rfl) (fun _ _ _ h => h) (Or.inl ⟨by rfl, ?_⟩) ?_ ?_
          rotate_left
          · intro w'
            go_simp
            with_reducible rfl
          rotate_left
          · simp only [Act.put, List.setIfInBounds_toArray, List.set_cons_zero, List.set_cons_succ, i64_w, i32_w]
            rfl
          refine pure_ (i := 6) (N := some 61) (v := ?_) (a' := ?_) #[true, true, true, false, true, false, true, false, false, false, false, false, false, false, false] rfl rfl (by kernel_rfl) (fun _ _ _ h => h) (Or.inl ⟨by rfl, ?_⟩) ?_ ?_
          rotate_left
          · intro w'
            go_simp
            with_reducible rfl
          rotate_left
          · simp only [Act.put, List.setIfInBounds_toArray, List.set_cons_zero, List.set_cons_succ, i64_w, i32_w]
            rfl
          refine pure_ (i := 9) (N := some 64) (v := ?_) (a' := ?_) #[true, true, true, false, true, false, true, false, false, true, false, false, false, false, false] rfl rfl (by kernel_rfl) (fun _ _ _ h => h) (Or.inl ⟨by rfl, ?_⟩) ?_ ?_
          rotate_left
          · intro w'
            go_simp
            with_reducible rfl
          rotate_left
          · simp only [Act.put, List.setIfInBounds_toArray, List.set_cons_zero, List.set_cons_succ, i64_w, i32_w]
            rfl
          refine pure_ (i := 11) (N := some 66) (v := ?_) (a' := ?_) #[true, true, true, false, true, false, true, false, false, true, false, true, false, false, false] rfl rfl (by kernel_rfl) (fun _ _ _ h => h) (Or.inl ⟨by rfl, ?_⟩) ?_ ?_
          rotate_left
          · intro w'
            go_simp
            with_reducible rfl
          rotate_left
          · simp only [Act.put, List.setIfInBounds_toArray, List.set_cons_zero, List.set_cons_succ, i64_w, i32_w]
            rfl
          refine take_ (i := 3) (N := some 58) (v := ?_) (a' := ?_) #[true, true, true, true, true, false, true, false, false, true, false, true, false, false, false] rfl rfl (by kernel_rfl) (fun _ _ _ h => h) (Or.inl ⟨by rfl, ?_⟩) hHeld ?_ ?_
          rotate_left
          · rintro w' ⟨s0, s1⟩
            go_simp
            with_reducible rfl
          rotate_left
          · simp only [Act.put, List.setIfInBounds_toArray, List.set_cons_zero, List.set_cons_succ, i64_w, i32_w]
            rfl
          refine take_ (i := 5) (N := some 60) (v := ?_) (a' := ?_) #[true, true, true, true, true, true, true, false, false, true, false, true, false, false, false] rfl rfl (by kernel_rfl) (fun _ _ _ h => h) (Or.inl ⟨by rfl, ?_⟩) hHeld ?_ ?_
          rotate_left
          · rintro w' ⟨s0, s1⟩
            go_simp
            with_reducible rfl
          rotate_left
          · simp only [Act.put, List.setIfInBounds_toArray, List.set_cons_zero, List.set_cons_succ, i64_w, i32_w]
            rfl
          refine pure_ (i := 7) (N := some 62) (v := ?_) (a' := ?_) #[true, true, true, true, true, true, true, true, false, true, false, true, false, false, false] rfl rfl (by kernel_rfl) (fun _ _ _ h => h) (Or.inl ⟨by rfl, ?_⟩) ?_ ?_
          rotate_left
          · intro w'
            go_simp
            with_reducible rfl
          rotate_left
          · simp only [Act.put, List.setIfInBounds_toArray, List.set_cons_zero, List.set_cons_succ, i64_w, i32_w]
            rfl
          refine pure_ (i := 8) (N := some 63) (v := ?_) (a' := ?_) #[true, true, true, true, true, true, true, true, true, true, false, true, false, false, false] rfl rfl (by kernel_rfl) (fun _ _ _ h => h) (Or.inl ⟨by rfl, ?_⟩) ?_ ?_
          rotate_left
          · intro w'
            go_simp
            with_reducible rfl
          rotate_left
          · simp only [Act.put, List.setIfInBounds_toArray, List.set_cons_zero, List.set_cons_succ, i64_w, i32_w]
            rfl
          refine take_ (i := 10) (N := some 65) (v := ?_) (a' := ?_) #[true, true, true, true, true, true, true, true, true, true, true, true, false, false, false] rfl rfl (by kernel_rfl) (fun _ _ _ h => h) (Or.inl ⟨by rfl, ?_⟩) hHeld ?_ ?_
          rotate_left
          · rintro w' ⟨s0, s1⟩
            go_simp
            with_reducible rfl
          rotate_left
          · simp only [Act.put, List.setIfInBounds_toArray, List.set_cons_zero, List.set_cons_succ, i64_w, i32_w]
            rfl
          refine pure_ (i := 12) (N := some 67) (v := ?_) (a' := ?_) #[true, true, true, true, true, true, true, true, true, true, true, true, true, false, false] rfl rfl (by kernel_rfl) (fun _ _ _ h => h) (Or.inl ⟨by rfl, ?_⟩) ?_ ?_
          rotate_left
          · intro w'
            go_simp
            with_reducible rfl
          rotate_left
          · simp only [Act.put, List.setIfInBounds_toArray, List.set_cons_zero, List.set_cons_succ, i64_w, i32_w]
            rfl
          refine pure_ (i := 13) (N := some 68) (v := ?_) (a' := ?_) #[true, true, true, true, true, true, true, true, true, true, true, true, true, true, false] rfl rfl (by kernel_rfl) (fun _ _ _ h => h) (Or.inl ⟨by rfl, ?_⟩) ?_ ?_
          rotate_left
          · intro w'
            go_simp
            with_reducible rfl
          rotate_left
          · simp only [Act.put, List.setIfInBounds_toArray, List.set_cons_zero, List.set_cons_succ, i64_w, i32_w]
            rfl
          refine last_ (i := 14) (N := some 69) #[true, true, true, true, true, true, true, true, true, true, true, true, true, true, true] rfl rfl (by kernel_rfl) (by decide) (fun K hK => ?_)
          refine goes_ Tryd.func31 (by kernel_rfl) rfl #[.pointer (some ⟨g, 0, none⟩), .string kn, .agg #[.string (fo.has.extract 0 fo.safe.toNat), .int .i64 fo.safe]] (by rfl) rfl rfl (by simp only [List.map_toArray, List.map_cons, List.map_nil]; rfl) ?_
          with_reducible refine (HSET1.out _ (hA5.out.kept ((Kept.refl _ fun _ => False).drew) (fun _ _ _ h => h))).mono ?_
          rintro e w6 ⟨rfl, hp6⟩
          refine ⟨_, rfl, ?_⟩
          have HP6 := Lib.hid hp6
          have hk6 := Lib.hid ((Kept.refl wa F).drew.trans hp6.1)
          clear hp6
          refine hK.out _ _ ?_
          clear hK K
          refine norm_ (a' := ?_) ?_ ?_
          rotate_left
          · show Act.put _ (some 69) _ = _
            simp only [Act.put, List.setIfInBounds_toArray, List.set_cons_zero, List.set_cons_succ, i64_w, i32_w]
            rfl
          refine done_ (by kernel_rfl) ?_
          go_wp2
          go_roundg (s.fs.length - (k + 1))
          case measure => omega
          case rel => exact ⟨k + 1, pre ++ [(kn, tornF fo 0)], [], A', c', hlt', Nat.le_refl _, by go_num, rfl, by simp, by simp, Lib.hid (fun h => absurd rfl h), Lib.hid (by rw [hC2.out, List.append_assoc]; rfl), Lib.hid hset0.out.1, Lib.hid ⟨hK5.out.drew.trans HP6.out.1, HP6.out.2⟩, Lib.hid (hN5.out.drew.trans HP6.out.1)⟩
        | cons d ds' =>
          obtain ⟨ad, rfl, hadl, hadF, hadc⟩ := HD.out (by simp)
          have hd0 : wr.cell? ad = some (.int .i64 d) := by
            have := hadc 0 d rfl
            rwa [show ad.add 0 = ad by unfold Addr.add; simp] at this
          have x0 := hX.out.cell 0
          have x1 := hX.out.cell 1
          have hlen1 : ((d :: ds').length : Int) = (ds'.length : Int) + 1 := by simp
          have hc1 : crash1 fo (d :: ds') = (tornF fo (max 0 d % ((fo.has.size : Int) - fo.safe + 1)), ds') := by unfold crash1 tailF; rw [if_neg ht]; rfl
          rw [hc1] at hC2
          have hk0 : 0 ≤ max 0 d % ((fo.has.size : Int) - fo.safe + 1) := Int.emod_nonneg _ (by omega)
          have hk1 : max 0 d % ((fo.has.size : Int) - fo.safe + 1) ≤ (fo.has.size : Int) - fo.safe := by have := Int.emod_lt_of_pos (max 0 d) (show 0 < (fo.has.size : Int) - fo.safe + 1 by omega); omega
          have HDR : Hid (Draws (wr.alloc (.cells #[.string fo.has, .int .i64 fo.safe] 64)) F (some ⟨ad.block, ad.off + 1, none⟩) ds') := Lib.hid (fun _ => ⟨_, rfl, by simp; omega, hadF, fun i x hi => by
            have h1 := hadc (i + 1) x (by simpa using hi)
            rw [show ad.add (i + 1) = (⟨ad.block, ad.off + 1, none⟩ : Addr).add i by
              unfold Addr.add
              rw [if_neg (by omega)]
              split
              · rename_i h0; subst h0; rfl
              · rw [show ad.off + (i + 1) = ad.off + 1 + i by omega]] at h1
            have hbk : ((⟨ad.block, ad.off + 1, none⟩ : Addr).add i).block = ad.block := by unfold Addr.add; split <;> rfl
            rw [hkw.out.cell (p := (⟨ad.block, ad.off + 1, none⟩ : Addr).add i) (by rw [hbk]; exact hadl) (fun h => h)]
            exact h1⟩)
          have hcc : c' = 1 → ds' = [] := fun e => List.eq_nil_of_length_eq_zero (by simp at hcl'; omega)
          clear ht
          by_cases hc9 : c' = 1
          · subst hc9
            obtain rfl := hcc rfl
            clear hcc HDR
            go_wp2_with (fail)
            generalize max 0 d % ((fo.has.size : Int) - fo.safe + 1) = keep at *
            generalize wr.alloc (.cells #[.string fo.has, .int .i64 fo.safe] 64) = wa at *
            have hw2 : IntKind.i64.wrap (fo.safe + keep) = fo.safe + keep := by rw [IntKind.wrap_i64]; omega
            have hs0 : 0 ≤ fo.safe + keep := by omega
            have hs1 : fo.safe + keep ≤ (fo.has.size : Int) := by omega
            have HSET1 := Lib.hid (hset.out keep hk0 hk1)
            refine start_ (n := 15) (S := fun w' => w'.cell? ⟨wr.heap.size, 0, none⟩ = some (.string fo.has) ∧ w'.cell? ⟨wr.heap.size, 1, none⟩ = some (.int .i64 fo.safe)) (ds := [14]) #[false, false, false, false, false, false, false, false, false, false, false, false, false, false, false] (by kernel_rfl) rfl rfl ⟨x0, x1⟩ (fun hHeld => ?_)
            refine pure_ (i := 0) (N := some 55) (v := ?_) (a' := ?_) #[true, false, false, false, false, false, false, false, false, false, false, false, false, false, false] rfl rfl (by kernel_rfl) (fun _ _ _ h => h) (Or.inl ⟨by rfl, ?_⟩) ?_ ?_
            rotate_left
            · intro w'
              go_simp
              with_reducible rfl
            rotate_left
            · simp only [Act.put, List.setIfInBounds_toArray, List.set_cons_zero, List.set_cons_succ, i64_w, i32_w]
              rfl
            refine pure_ (i := 1) (N := some 56) (v := ?_) (a' := ?_) #[true, true, false, false, false, false, false, false, false, false, false, false, false, false, false] rfl rfl (by kernel_rfl) (fun _ _ _ h => h) (Or.inl ⟨by rfl, ?_⟩) ?_ ?_
            rotate_left
            · intro w'
              go_simp
              with_reducible rfl
            rotate_left
            · simp only [Act.put, List.setIfInBounds_toArray, List.set_cons_zero, List.set_cons_succ, i64_w, i32_w]
              rfl
            refine pure_ (i := 2) (N := some 57) (v := ?_) (a' := ?_) #[true, true, true, false, false, false, false, false, false, false, false, false, false, false, false] rfl rfl (by kernel_rfl) (fun _ _ _ h => h) (Or.inl ⟨by rfl, ?_⟩) ?_ ?_
            rotate_left
            · intro w'
              go_simp
              with_reducible rfl
            rotate_left
            · simp only [Act.put, List.setIfInBounds_toArray, List.set_cons_zero, List.set_cons_succ, i64_w, i32_w]
              rfl
            refine pure_ (i := 4) (N := some 59) (v := ?_) (a' := ?_) #[true, true, true, false, true, false, false, false, false, false, false, false, false, false, false] rfl rfl (by kernel_rfl) (fun _ _ _ h => h) (Or.inl ⟨by rfl, ?_⟩) ?_ ?_
            rotate_left
            · intro w'
              go_simp
              with_reducible rfl
            rotate_left
            · simp only [Act.put, List.setIfInBounds_toArray, List.set_cons_zero, List.set_cons_succ, i64_w, i32_w]
              rfl
            refine pure_ (i := 6) (N := some 61) (v := ?_) (a' := ?_) #[true, true, true, false, true, false, true, false, false, false, false, false, false, false, false] rfl rfl (by kernel_rfl) (fun _ _ _ h => h) (Or.inl ⟨by rfl, ?_⟩) ?_ ?_
            rotate_left
            · intro w'
              go_simp
              with_reducible rfl
            rotate_left
            · simp only [Act.put, List.setIfInBounds_toArray, List.set_cons_zero, List.set_cons_succ, i64_w, i32_w]
              rfl
            refine pure_ (i := 9) (N := some 64) (v := ?_) (a' := ?_) #[true, true, true, false, true, false, true, false, false, true, false, false, false, false, false] rfl rfl (by kernel_rfl) (fun _ _ _ h => h) (Or.inl ⟨by rfl, ?_⟩) ?_ ?_
            rotate_left
            · intro w'
              go_simp
              with_reducible rfl
            rotate_left
            · simp only [Act.put, List.setIfInBounds_toArray, List.set_cons_zero, List.set_cons_succ, i64_w, i32_w]
              rfl
            refine pure_ (i := 11) (N := some 66) (v := ?_) (a' := ?_) #[true, true, true, false, true, false, true, false, false, true, false, true, false, false, false] rfl rfl (by kernel_rfl) (fun _ _ _ h => h) (Or.inl ⟨by rfl, ?_⟩) ?_ ?_
            rotate_left
            · intro w'
              go_simp
              with_reducible rfl
            rotate_left
            · simp only [Act.put, List.setIfInBounds_toArray, List.set_cons_zero, List.set_cons_succ, i64_w, i32_w]
              rfl
            refine take_ (i := 3) (N := some 58) (v := ?_) (a' := ?_) #[true, true, true, true, true, false, true, false, false, true, false, true, false, false, false] rfl rfl (by kernel_rfl) (fun _ _ _ h => h) (Or.inl ⟨by rfl, ?_⟩) hHeld ?_ ?_
            rotate_left
            · rintro w' ⟨s0, s1⟩
              go_simp
              with_reducible rfl
            rotate_left
            · simp only [Act.put, List.setIfInBounds_toArray, List.set_cons_zero, List.set_cons_succ, i64_w, i32_w]
              rfl
            refine take_ (i := 5) (N := some 60) (v := ?_) (a' := ?_) #[true, true, true, true, true, true, true, false, false, true, false, true, false, false, false] rfl rfl (by kernel_rfl) (fun _ _ _ h => h) (Or.inl ⟨by rfl, ?_⟩) hHeld ?_ ?_
            rotate_left
            · rintro w' ⟨s0, s1⟩
              go_simp
              with_reducible rfl
            rotate_left
            · simp only [Act.put, List.setIfInBounds_toArray, List.set_cons_zero, List.set_cons_succ, i64_w, i32_w]
              rfl
            refine pure_ (i := 7) (N := some 62) (v := ?_) (a' := ?_) #[true, true, true, true, true, true, true, true, false, true, false, true, false, false, false] rfl rfl (by kernel_rfl) (fun _ _ _ h => h) (Or.inl ⟨by rfl, ?_⟩) ?_ ?_
            rotate_left
            · intro w'
              go_simp
              with_reducible rfl
            rotate_left
            · simp only [Act.put, List.setIfInBounds_toArray, List.set_cons_zero, List.set_cons_succ, i64_w, i32_w]
              rfl
            refine pure_ (i := 8) (N := some 63) (v := ?_) (a' := ?_) #[true, true, true, true, true, true, true, true, true, true, false, true, false, false, false] rfl rfl (by kernel_rfl) (fun _ _ _ h => h) (Or.inl ⟨by rfl, ?_⟩) ?_ ?_
            rotate_left
            · intro w'
              go_simp
              with_reducible rfl
            rotate_left
            · simp only [Act.put, List.setIfInBounds_toArray, List.set_cons_zero, List.set_cons_succ, i64_w, i32_w]
              rfl
            refine take_ (i := 10) (N := some 65) (v := ?_) (a' := ?_) #[true, true, true, true, true, true, true, true, true, true, true, true, false, false, false] rfl rfl (by kernel_rfl) (fun _ _ _ h => h) (Or.inl ⟨by rfl, ?_⟩) hHeld ?_ ?_
            rotate_left
            · rintro w' ⟨s0, s1⟩
              go_simp
              with_reducible rfl
            rotate_left
            · simp only [Act.put, List.setIfInBounds_toArray, List.set_cons_zero, List.set_cons_succ, i64_w, i32_w]
              rfl
            refine pure_ (i := 12) (N := some 67) (v := ?_) (a' := ?_) #[true, true, true, true, true, true, true, true, true, true, true, true, true, false, false] rfl rfl (by kernel_rfl) (fun _ _ _ h => h) (Or.inl ⟨by rfl, ?_⟩) ?_ ?_
            rotate_left
            · intro w'
              go_simp
              with_reducible rfl
            rotate_left
            · simp only [Act.put, List.setIfInBounds_toArray, List.set_cons_zero, List.set_cons_succ, i64_w, i32_w]
              rfl
            refine pure_ (i := 13) (N := some 68) (v := ?_) (a' := ?_) #[true, true, true, true, true, true, true, true, true, true, true, true, true, true, false] rfl rfl (by kernel_rfl) (fun _ _ _ h => h) (Or.inl ⟨by rfl, ?_⟩) ?_ ?_
            rotate_left
            · intro w'
              go_simp
              with_reducible rfl
            rotate_left
            · simp only [Act.put, List.setIfInBounds_toArray, List.set_cons_zero, List.set_cons_succ, i64_w, i32_w]
              rfl
            refine last_ (i := 14) (N := some 69) #[true, true, true, true, true, true, true, true, true, true, true, true, true, true, true] rfl rfl (by kernel_rfl) (by decide) (fun K hK => ?_)
            refine goes_ Tryd.func31 (by kernel_rfl) rfl #[.pointer (some ⟨g, 0, none⟩), .string kn, .agg #[.string (fo.has.extract 0 (fo.safe + keep).toNat), .int .i64 (fo.safe + keep)]] (by rfl) rfl rfl (by simp only [List.map_toArray, List.map_cons, List.map_nil]; rfl) ?_
            with_reducible refine (HSET1.out.2 _ (hA5.out.kept ((Kept.refl _ fun _ => False).drew) (fun _ _ _ h => h))).mono ?_
            rintro e w6 ⟨rfl, hp6⟩
            refine ⟨_, rfl, ?_⟩
            have HP6 := Lib.hid hp6
            have hk6 := Lib.hid ((Kept.refl wa F).drew.trans hp6.1)
            clear hp6
            refine hK.out _ _ ?_
            clear hK K
            refine norm_ (a' := ?_) ?_ ?_
            rotate_left
            · show Act.put _ (some 69) _ = _
              simp only [Act.put, List.setIfInBounds_toArray, List.set_cons_zero, List.set_cons_succ, i64_w, i32_w]
              rfl
            refine done_ (by kernel_rfl) ?_
            go_wp2
            go_roundg (s.fs.length - (k + 1))
            case measure => omega
            case rel => exact ⟨k + 1, pre ++ [(kn, tornF fo keep)], [], some ad, 0, hlt', Nat.le_refl _, by go_num, rfl, by simp, by simp, Lib.hid (fun h => absurd rfl h), Lib.hid (by rw [hC2.out, List.append_assoc]; rfl), Lib.hid HSET1.out.1, Lib.hid ⟨hK5.out.drew.trans HP6.out.1, HP6.out.2⟩, Lib.hid (hN5.out.drew.trans HP6.out.1)⟩
          · go_wp2_with (fail)
            generalize max 0 d % ((fo.has.size : Int) - fo.safe + 1) = keep at *
            generalize wr.alloc (.cells #[.string fo.has, .int .i64 fo.safe] 64) = wa at *
            have hw2 : IntKind.i64.wrap (fo.safe + keep) = fo.safe + keep := by rw [IntKind.wrap_i64]; omega
            have hs0 : 0 ≤ fo.safe + keep := by omega
            have hs1 : fo.safe + keep ≤ (fo.has.size : Int) := by omega
            have HSET1 := Lib.hid (hset.out keep hk0 hk1)
            refine start_ (n := 15) (S := fun w' => w'.cell? ⟨wr.heap.size, 0, none⟩ = some (.string fo.has) ∧ w'.cell? ⟨wr.heap.size, 1, none⟩ = some (.int .i64 fo.safe)) (ds := [14]) #[false, false, false, false, false, false, false, false, false, false, false, false, false, false, false] (by kernel_rfl) rfl rfl ⟨x0, x1⟩ (fun hHeld => ?_)
            refine pure_ (i := 0) (N := some 55) (v := ?_) (a' := ?_) #[true, false, false, false, false, false, false, false, false, false, false, false, false, false, false] rfl rfl (by kernel_rfl) (fun _ _ _ h => h) (Or.inl ⟨by rfl, ?_⟩) ?_ ?_
            rotate_left
            · intro w'
              go_simp
              with_reducible rfl
            rotate_left
            · simp only [Act.put, List.setIfInBounds_toArray, List.set_cons_zero, List.set_cons_succ, i64_w, i32_w]
              rfl
            refine pure_ (i := 1) (N := some 56) (v := ?_) (a' := ?_) #[true, true, false, false, false, false, false, false, false, false, false, false, false, false, false] rfl rfl (by kernel_rfl) (fun _ _ _ h => h) (Or.inl ⟨by rfl, ?_⟩) ?_ ?_
            rotate_left
            · intro w'
              go_simp
              with_reducible rfl
            rotate_left
            · simp only [Act.put, List.setIfInBounds_toArray, List.set_cons_zero, List.set_cons_succ, i64_w, i32_w]
              rfl
            refine pure_ (i := 2) (N := some 57) (v := ?_) (a' := ?_) #[true, true, true, false, false, false, false, false, false, false, false, false, false, false, false] rfl rfl (by kernel_rfl) (fun _ _ _ h => h) (Or.inl ⟨by rfl, ?_⟩) ?_ ?_
            rotate_left
            · intro w'
              go_simp
              with_reducible rfl
            rotate_left
            · simp only [Act.put, List.setIfInBounds_toArray, List.set_cons_zero, List.set_cons_succ, i64_w, i32_w]
              rfl
            refine pure_ (i := 4) (N := some 59) (v := ?_) (a' := ?_) #[true, true, true, false, true, false, false, false, false, false, false, false, false, false, false] rfl rfl (by kernel_rfl) (fun _ _ _ h => h) (Or.inl ⟨by rfl, ?_⟩) ?_ ?_
            rotate_left
            · intro w'
              go_simp
              with_reducible rfl
            rotate_left
            · simp only [Act.put, List.setIfInBounds_toArray, List.set_cons_zero, List.set_cons_succ, i64_w, i32_w]
              rfl
            refine pure_ (i := 6) (N := some 61) (v := ?_) (a' := ?_) #[true, true, true, false, true, false, true, false, false, false, false, false, false, false, false] rfl rfl (by kernel_rfl) (fun _ _ _ h => h) (Or.inl ⟨by rfl, ?_⟩) ?_ ?_
            rotate_left
            · intro w'
              go_simp
              with_reducible rfl
            rotate_left
            · simp only [Act.put, List.setIfInBounds_toArray, List.set_cons_zero, List.set_cons_succ, i64_w, i32_w]
              rfl
            refine pure_ (i := 9) (N := some 64) (v := ?_) (a' := ?_) #[true, true, true, false, true, false, true, false, false, true, false, false, false, false, false] rfl rfl (by kernel_rfl) (fun _ _ _ h => h) (Or.inl ⟨by rfl, ?_⟩) ?_ ?_
            rotate_left
            · intro w'
              go_simp
              with_reducible rfl
            rotate_left
            · simp only [Act.put, List.setIfInBounds_toArray, List.set_cons_zero, List.set_cons_succ, i64_w, i32_w]
              rfl
            refine pure_ (i := 11) (N := some 66) (v := ?_) (a' := ?_) #[true, true, true, false, true, false, true, false, false, true, false, true, false, false, false] rfl rfl (by kernel_rfl) (fun _ _ _ h => h) (Or.inl ⟨by rfl, ?_⟩) ?_ ?_
            rotate_left
            · intro w'
              go_simp
              with_reducible rfl
            rotate_left
            · simp only [Act.put, List.setIfInBounds_toArray, List.set_cons_zero, List.set_cons_succ, i64_w, i32_w]
              rfl
            refine take_ (i := 3) (N := some 58) (v := ?_) (a' := ?_) #[true, true, true, true, true, false, true, false, false, true, false, true, false, false, false] rfl rfl (by kernel_rfl) (fun _ _ _ h => h) (Or.inl ⟨by rfl, ?_⟩) hHeld ?_ ?_
            rotate_left
            · rintro w' ⟨s0, s1⟩
              go_simp
              with_reducible rfl
            rotate_left
            · simp only [Act.put, List.setIfInBounds_toArray, List.set_cons_zero, List.set_cons_succ, i64_w, i32_w]
              rfl
            refine take_ (i := 5) (N := some 60) (v := ?_) (a' := ?_) #[true, true, true, true, true, true, true, false, false, true, false, true, false, false, false] rfl rfl (by kernel_rfl) (fun _ _ _ h => h) (Or.inl ⟨by rfl, ?_⟩) hHeld ?_ ?_
            rotate_left
            · rintro w' ⟨s0, s1⟩
              go_simp
              with_reducible rfl
            rotate_left
            · simp only [Act.put, List.setIfInBounds_toArray, List.set_cons_zero, List.set_cons_succ, i64_w, i32_w]
              rfl
            refine pure_ (i := 7) (N := some 62) (v := ?_) (a' := ?_) #[true, true, true, true, true, true, true, true, false, true, false, true, false, false, false] rfl rfl (by kernel_rfl) (fun _ _ _ h => h) (Or.inl ⟨by rfl, ?_⟩) ?_ ?_
            rotate_left
            · intro w'
              go_simp
              with_reducible rfl
            rotate_left
            · simp only [Act.put, List.setIfInBounds_toArray, List.set_cons_zero, List.set_cons_succ, i64_w, i32_w]
              rfl
            refine pure_ (i := 8) (N := some 63) (v := ?_) (a' := ?_) #[true, true, true, true, true, true, true, true, true, true, false, true, false, false, false] rfl rfl (by kernel_rfl) (fun _ _ _ h => h) (Or.inl ⟨by rfl, ?_⟩) ?_ ?_
            rotate_left
            · intro w'
              go_simp
              with_reducible rfl
            rotate_left
            · simp only [Act.put, List.setIfInBounds_toArray, List.set_cons_zero, List.set_cons_succ, i64_w, i32_w]
              rfl
            refine take_ (i := 10) (N := some 65) (v := ?_) (a' := ?_) #[true, true, true, true, true, true, true, true, true, true, true, true, false, false, false] rfl rfl (by kernel_rfl) (fun _ _ _ h => h) (Or.inl ⟨by rfl, ?_⟩) hHeld ?_ ?_
            rotate_left
            · rintro w' ⟨s0, s1⟩
              go_simp
              with_reducible rfl
            rotate_left
            · simp only [Act.put, List.setIfInBounds_toArray, List.set_cons_zero, List.set_cons_succ, i64_w, i32_w]
              rfl
            refine pure_ (i := 12) (N := some 67) (v := ?_) (a' := ?_) #[true, true, true, true, true, true, true, true, true, true, true, true, true, false, false] rfl rfl (by kernel_rfl) (fun _ _ _ h => h) (Or.inl ⟨by rfl, ?_⟩) ?_ ?_
            rotate_left
            · intro w'
              go_simp
              with_reducible rfl
            rotate_left
            · simp only [Act.put, List.setIfInBounds_toArray, List.set_cons_zero, List.set_cons_succ, i64_w, i32_w]
              rfl
            refine pure_ (i := 13) (N := some 68) (v := ?_) (a' := ?_) #[true, true, true, true, true, true, true, true, true, true, true, true, true, true, false] rfl rfl (by kernel_rfl) (fun _ _ _ h => h) (Or.inl ⟨by rfl, ?_⟩) ?_ ?_
            rotate_left
            · intro w'
              go_simp
              with_reducible rfl
            rotate_left
            · simp only [Act.put, List.setIfInBounds_toArray, List.set_cons_zero, List.set_cons_succ, i64_w, i32_w]
              rfl
            refine last_ (i := 14) (N := some 69) #[true, true, true, true, true, true, true, true, true, true, true, true, true, true, true] rfl rfl (by kernel_rfl) (by decide) (fun K hK => ?_)
            refine goes_ Tryd.func31 (by kernel_rfl) rfl #[.pointer (some ⟨g, 0, none⟩), .string kn, .agg #[.string (fo.has.extract 0 (fo.safe + keep).toNat), .int .i64 (fo.safe + keep)]] (by rfl) rfl rfl (by simp only [List.map_toArray, List.map_cons, List.map_nil]; rfl) ?_
            with_reducible refine (HSET1.out.2 _ (hA5.out.kept ((Kept.refl _ fun _ => False).drew) (fun _ _ _ h => h))).mono ?_
            rintro e w6 ⟨rfl, hp6⟩
            refine ⟨_, rfl, ?_⟩
            have HP6 := Lib.hid hp6
            have hk6 := Lib.hid ((Kept.refl wa F).drew.trans hp6.1)
            clear hp6
            refine hK.out _ _ ?_
            clear hK K
            refine norm_ (a' := ?_) ?_ ?_
            rotate_left
            · show Act.put _ (some 69) _ = _
              simp only [Act.put, List.setIfInBounds_toArray, List.set_cons_zero, List.set_cons_succ, i64_w, i32_w]
              rfl
            refine done_ (by kernel_rfl) ?_
            go_wp2
            go_roundg (s.fs.length - (k + 1))
            case measure => omega
            case rel => exact ⟨k + 1, pre ++ [(kn, tornF fo keep)], ds', some ⟨ad.block, ad.off + 1, none⟩, c' - 1, hlt', Nat.le_refl _, by go_num, rfl, (by simp at hdl; omega), (by simp at hcl'; omega), Lib.hid (HDR.out.kept hk6.out (fun _ _ h => h)), Lib.hid (by rw [hC2.out, List.append_assoc]; rfl), Lib.hid HSET1.out.1, Lib.hid ⟨hK5.out.drew.trans HP6.out.1, HP6.out.2⟩, Lib.hid (hN5.out.drew.trans HP6.out.1)⟩
    · go_wp2
      go_ret
      have hk' : k = s.fs.length := by omega
      refine ⟨rfl, ?_⟩
      have e : midS s pre k = s.crashed ds := by
        unfold midS DkS.crashed
        rw [HC.out, hk', List.drop_length]
        rfl
      rw [← e]
      exact HP.out
end Go.Proofs.YtaghdopickgpgaaDoor
