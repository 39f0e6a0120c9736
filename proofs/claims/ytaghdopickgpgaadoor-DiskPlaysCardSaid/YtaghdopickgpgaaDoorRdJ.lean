import Derived.Test.YtaghdopickgpgaaDoorRdI
namespace Go.Proofs.YtaghdopickgpgaaDoor
open Go Go.RowKit
open Go.Proofs.YtaghdopickgpgaaDoorW.PrintLast
set_option linter.unusedVariables false
set_option linter.unusedSimpArgs false

theorem refd_crash_long (g : Nat) (A : Option Addr) (n c : Nat) (w : World) (hn : 4096 < n) (hn2 : n ≤ 4611686018427387904) :
    Calls Tryd.prog 43 #[.pointer (some ⟨g, 0, none⟩), .slice A n c] w fun e w' => e = .returned (.int .i64 2) ∧ w' = w := by
  have h1 : (4096 : Int) < (n : Int) := by omega
  go_enter Tryd.func43, Tryd.ntmps43
  go_wp2
  go_ret
  exact ⟨rfl, rfl⟩
theorem crashL_len (fs : Files) (ds : List Int) : (crashL fs ds).length = fs.length := by
  have := congrArg List.length (crashL_names fs ds)
  rwa [List.length_map, List.length_map] at this
set_option maxRecDepth 100000 in
set_option maxHeartbeats 8000000 in
theorem refd_crash (G : Nat → Prop) (g : Nat) (s : DkS) (A : Option Addr) (ds : List Int) (cd : Nat) (w : World) (h : RkAt w G g s) (hs : s.Ok) (hd : Draws w G A ds) (hn : ds.length ≤ 4096) :
    Calls Tryd.prog 43 #[.pointer (some ⟨g, 0, none⟩), .slice A ds.length cd] w fun e w' => e = .returned (.int .i64 0) ∧ RkPostG w G g (s.crashed ds) w' := by
  have h1 : (ds.length : Int) ≤ 4096 := by omega
  have hn64 := hs.n
  have hsafe := hs.safe
  have hsm : ∀ p ∈ s.fs, p.2.has.size ≤ 262144 := fun p hp => by have h1 := total_mem hp; have := hs.used; have := hs.u1; have := hs.r1; omega
  obtain ⟨vl, lf, hb, hr, hlf, hg, f1⟩ := h
  have hlt := hb.lt
  have q2 := hb.cell 2
  have q4 := hb.cell 4
  have z2 := hb.frozen 2
  have z4 := hb.frozen 4
  obtain ⟨Af, c, rfl⟩ := hr.shape
  have hnb : Hid (∀ k, (Value.slice Af s.fs.length c).ownBlock = some k → k ≠ g) := Lib.hid fun k e hk => hr.ne_blk hb (by decide) (hk ▸ e)
  have hk0 := ((Kept.refl w fun k => k = g).setCell (p := ⟨g, 2, none⟩) (.inl rfl) (.bool false)).setCell (p := ⟨g, 4, none⟩) (.inl rfl) (.bool false)
  have HB := Lib.hid ((hb.set_ 2 (.bool false)).set_ 4 (.bool false))
  have H1 := Lib.hid (hr.kept hk0 (fun k e => hnb.out k e))
  have HKG := Lib.hid (hk0.mono (S' := G) fun k _ e => e ▸ hg)
  have HD := Lib.hid (hd.kept hk0 (fun k _ e => e ▸ hg))
  have HG := Lib.hid hg
  have HF1 := Lib.hid f1
  have HSAFE := Lib.hid hsafe
  have HSM := Lib.hid hsm
  clear hs hb hr hlf hg f1 hk0 hd hsafe hsm
  go_enter Tryd.func43, Tryd.ntmps43
  go_wp2_with (fail)
  generalize ((w.setCell ⟨g, 2, none⟩ (.bool false)).setCell ⟨g, 4, none⟩ (.bool false)) = w2 at *
  clear q2 q4 z2 z4
  have hB2 := HB.out.lt
  go_loopg [5, 6, 7, 8, 9] s.fs.length (fun gg s5 s6 _ _ _ wr => ∃ (i at_ : Nat) (pre : Files), i ≤ s.fs.length ∧ at_ ≤ i ∧ s.fs.length - i ≤ gg ∧ s5 = .int .i64 at_ ∧ s6 = .int .i64 i ∧ Hid (pre.length = i) ∧ Hid (crashL s.fs ds = pre ++ crashL (s.fs.drop i) (ds.drop at_)) ∧ Hid (Row wr 79 3 FE (.slice Af s.fs.length c) (pre ++ s.fs.drop i)) ∧ Hid (Kept w2 wr (fun k => (Value.slice Af s.fs.length c).ownBlock = some k)))
  case atStart => exact ⟨0, 0, [], Nat.zero_le _, Nat.le_refl _, by omega, by go_num, by go_num, Lib.hid rfl, Lib.hid rfl, H1, Lib.hid (Kept.refl _ _)⟩
  case round =>
    obtain ⟨i, at_, pre, hi, hai, hgg, rfl, rfl, HPL, HC, HR, HK⟩ := hrel
    have hb' := HB.out.kept HK.out (fun e => hnb.out g e rfl)
    have c1 := hb'.cell 1
    have hgl' := hb'.lt
    have HB' := Lib.hid hb'
    clear hb'
    have hn64z : (s.fs.length : Int) ≤ 64 := by omega
    by_cases hil : i < s.fs.length
    · obtain ⟨gb, c', hv, hgl, hcl⟩ := H1.out.form (by omega)
      injection hv with hA _ hc
      subst hA hc
      obtain ⟨kn, fo, hp⟩ : ∃ kn fo, s.fs[i] = (kn, fo) := ⟨_, _, rfl⟩
      have hdrop : s.fs.drop i = (kn, fo) :: s.fs.drop (i + 1) := by rw [List.drop_eq_getElem_cons hil, hp]
      have hmi : i < (pre ++ s.fs.drop i).length := by rw [List.length_append, HPL.out, List.length_drop]; omega
      have hma : (pre ++ s.fs.drop i)[i] = (kn, fo) := by
        rw [List.getElem_append_right (by rw [HPL.out]; exact Nat.le_refl _)]
        simp only [HPL.out, Nat.sub_self, List.getElem_drop, Nat.add_zero]
        exact hp
      obtain ⟨d0, d1, d2⟩ := FE_at HR.out i hmi
      rw [hma] at d0 d1 d2
      simp only at d0 d1 d2
      have hgbl := HR.out.lt (k := gb) (by simp [Value.ownBlock])
      have hmem : (kn, fo) ∈ s.fs := hp ▸ List.getElem_mem hil
      have hfs := HSAFE.out _ hmem
      have hfs0 : 0 ≤ fo.safe := hfs.1
      have hfs1 : fo.safe ≤ (fo.has.size : Int) := hfs.2
      have hfb0 : fo.has.size ≤ 262144 := HSM.out _ hmem
      have hfb : (fo.has.size : Int) ≤ 262144 := by omega
      have hlz : (i : Int) < (s.fs.length : Int) := by omega
      have HDROP := Lib.hid hdrop
      have hC1 : Hid (crashL s.fs ds = pre ++ (kn, (crash1 fo (ds.drop at_)).1) :: crashL (s.fs.drop (i + 1)) (crash1 fo (ds.drop at_)).2) := Lib.hid (by rw [HC.out, hdrop]; rfl)
      have hw1 : IntKind.i64.wrap ((fo.has.size : Int) - fo.safe) = (fo.has.size : Int) - fo.safe := by rw [IntKind.wrap_i64]; omega
      clear hp hdrop hma hmem hfs hfb0
      by_cases ht : (fo.has.size : Int) - fo.safe = 0
      · have hq : (((fo.has.size : Int) - fo.safe) == 0) = true := beq_iff_eq.2 ht
        have hc1 : crash1 fo (ds.drop at_) = (fo, ds.drop at_) := by unfold crash1 tailF; rw [if_pos ht]
        rw [hc1] at hC1
        clear ht hc1
        have hkw := Lib.hid ((Kept.refl wr fun _ => False).alloc (.cells #[.string kn, .string fo.has, .int .i64 fo.safe] 79))
        go_wp2
        go_roundg (s.fs.length - (i + 1))
        case measure => omega
        case rel => exact ⟨i + 1, at_, pre ++ [(kn, fo)], hil, by omega, Nat.le_refl _, by go_num, by go_num, Lib.hid (by rw [List.length_append, HPL.out]; rfl), Lib.hid (by rw [hC1.out, List.append_assoc]; rfl), Lib.hid (by have := HR.out.kept hkw.out (fun _ _ h => h); rw [HDROP.out] at this; rw [List.append_assoc]; exact this), Lib.hid (HK.out.trans (hkw.out.mono fun _ _ h => h.elim))⟩
      · have hq : (((fo.has.size : Int) - fo.safe) == 0) = false := beq_eq_false_iff_ne.2 ht
        have ht1 : 1 ≤ (fo.has.size : Int) - fo.safe := by omega
        have g0a : (0 : Int) ≤ (at_ : Int) := by omega
        have key : Hid (∀ (d : Int) (rest : List Int), ds.drop at_ = d :: rest → crash1 fo (ds.drop at_) = (tornF fo (keepN ((fo.has.size : Int) - fo.safe) d), ds.drop (at_ + 1))) := Lib.hid fun d rest e => by
          have e2 : rest = ds.drop (at_ + 1) := by rw [← List.drop_drop, e]; rfl
          rw [e, e2]
          unfold crash1 tailF
          rw [if_neg ht]
        by_cases hal : at_ < ds.length
        · obtain ⟨ad, rfl, hadl, hadG, hadc⟩ := HD.out (fun e => by rw [e] at hal; simp at hal)
          obtain ⟨d, hdd⟩ : ∃ d, ds[at_] = d := ⟨_, rfl⟩
          have hdr : ds.drop at_ = d :: ds.drop (at_ + 1) := by rw [List.drop_eq_getElem_cons hal, hdd]
          have hdc : wr.cell? (ad.add at_) = some (.int .i64 d) := by
            have h0 := hadc at_ d (by rw [List.getElem?_eq_getElem hal, hdd])
            rw [HK.out.cell (p := ad.add at_) (by rw [add_block]; exact hadl) (fun e => hadG (by rw [add_block] at e; exact HF1.out _ e))]
            exact h0
          have hcr := key.out d _ hdr
          rw [hcr] at hC1
          have haz : (at_ : Int) < (ds.length : Int) := by omega
          have hxw : ∀ o, (wr.alloc o).cell? (ad.add at_) = some (.int .i64 d) := fun o => by rw [((Kept.refl wr fun _ => False).alloc o).cell (World.block_lt_of_cell? wr _ hdc) (fun h => h)]; exact hdc
          clear hdr hcr key ht hdd hadc
          by_cases hd0 : 0 ≤ d
          · obtain ⟨keep, hkeep⟩ : ∃ keep, d % ((fo.has.size : Int) - fo.safe + 1) = keep := ⟨_, rfl⟩
            have hk0 : 0 ≤ keep := by rw [← hkeep]; exact Int.emod_nonneg _ (by omega)
            have hk1 : keep ≤ (fo.has.size : Int) - fo.safe := by have := Int.emod_lt_of_pos d (show 0 < (fo.has.size : Int) - fo.safe + 1 by omega); omega
            have hC2 : Hid (crashL s.fs ds = pre ++ (kn, tornF fo keep) :: crashL (s.fs.drop (i + 1)) (ds.drop (at_ + 1))) := Lib.hid (by
              have := hC1.out
              unfold keepN at this
              rw [Int.max_eq_right hd0, hkeep] at this
              exact this)
            have hnn : ¬ ((fo.has.size : Int) - fo.safe + 1 = 0) := by omega
            have hw9 : IntKind.i64.wrap ((fo.has.size : Int) - fo.safe + 1) = (fo.has.size : Int) - fo.safe + 1 := by rw [IntKind.wrap_i64]; omega
            obtain ⟨sk, hsk⟩ : ∃ sk, fo.safe + keep = sk := ⟨_, rfl⟩
            have hC3 : Hid (crashL s.fs ds = pre ++ (kn, ⟨fo.has.extract 0 sk.toNat, sk⟩) :: crashL (s.fs.drop (i + 1)) (ds.drop (at_ + 1))) := Lib.hid (by rw [hC2.out]; unfold tornF; rw [hsk])
            have hw2 : IntKind.i64.wrap (fo.safe + keep) = sk := by rw [IntKind.wrap_i64]; omega
            have HX := Lib.hid (Blk.new wr 79 #[.string kn, .string (fo.has.extract 0 sk.toNat), .int .i64 sk])
            have hs0 : 0 ≤ sk := by omega
            have hmx : max sk 0 = sk := Int.max_eq_left hs0
            have hs1 : sk ≤ (fo.has.size : Int) := by omega
            have hsz : ((fo.has.extract 0 sk.toNat).size : Int) = sk := by rw [ByteArray.size_extract]; omega
            have hat2 : IntKind.i64.wrap ((at_ : Int) + 1) = (at_ : Int) + 1 := by rw [IntKind.wrap_i64]; omega
            have HKX := Lib.hid ((Kept.refl wr fun _ => False).alloc (.cells #[.string kn, .string (fo.has.extract 0 sk.toNat), .int .i64 sk] 79))
            have HRX := Lib.hid (HR.out.kept HKX.out (fun _ _ h => h))
            have HBX := HB'.out.kept HKX.out (fun h => h)
            obtain ⟨e0, e1, e2⟩ := FE_at HRX.out i hmi
            have HRS := HRX.out.set_ (fun _ => rfl) one_file i (kn, ⟨fo.has.extract 0 sk.toNat, sk⟩) hmi
            have HSTEP := Lib.hid (show (pre ++ s.fs.drop i).set i (kn, ⟨fo.has.extract 0 sk.toNat, sk⟩) = (pre ++ [(kn, (⟨fo.has.extract 0 sk.toNat, sk⟩ : DF))]) ++ s.fs.drop (i + 1) by
              rw [HDROP.out, List.set_append_right _ _ (by rw [HPL.out]; exact Nat.le_refl _), HPL.out, Nat.sub_self, List.set_cons_zero, List.append_assoc]
              rfl)
            rw [HSTEP.out] at HRS
            have HR9 := Lib.hid HRS.1
            have HK9 := Lib.hid ((HKX.out.mono (S' := fun k => (Value.slice (some (⟨gb, 0, none⟩ : Addr)) s.fs.length c).ownBlock = some k) (fun _ _ h => h.elim)).trans ((Kept.of_grown HRS.2).mono fun k _ e => by rw [e]; rfl))
            clear HRS HSTEP e0 e1 e2 hmi HDROP
            go_wp2_with (fail)
            generalize wr.alloc (.cells #[.string kn, .string (fo.has.extract 0 sk.toNat), .int .i64 sk] 79) = wx at *
            have c1x := HBX.cell 1
            have hglx := HBX.lt
            have y0 := HX.out.cell 0
            have y1 := HX.out.cell 1
            have y2 := HX.out.cell 2
            have hmi2 : i < (pre ++ s.fs.drop i).length := by rw [List.length_append, HPL.out, List.length_drop]; omega
            obtain ⟨e0, e1, e2⟩ := FE_at HRX.out i hmi2
            have f0 := HRX.out.frozen (i * 3)
            have f1' := HRX.out.frozen (i * 3 + 1)
            have f2 := HRX.out.frozen (i * 3 + 2)
            have hgbx := HRX.out.lt (k := gb) (by simp [Value.ownBlock])
            refine start_ (n := 8) (S := fun w' => w'.cell? ⟨g, 1, none⟩ = some (.slice (some ⟨gb, 0, none⟩) s.fs.length c) ∧ w'.cell? ⟨wr.heap.size, 0, none⟩ = some (.string kn) ∧ w'.cell? ⟨wr.heap.size, 1, none⟩ = some (.string (fo.has.extract 0 sk.toNat)) ∧ w'.cell? ⟨wr.heap.size, 2, none⟩ = some (.int .i64 sk)) (ds := [7]) #[false, false, false, false, false, false, false, false] (by kernel_rfl) rfl rfl ⟨c1x, y0, y1, y2⟩ (fun hHeld => ?_)
            refine pure_ (i := 0) (N := some 75) (v := ?_) (a' := ?_) #[true, false, false, false, false, false, false, false] rfl rfl (by kernel_rfl) (fun _ _ _ h => h) (Or.inl ⟨by rfl, ?_⟩) ?_ ?_
            rotate_left
            · intro w'
              go_simp
              with_reducible rfl
            rotate_left
            · simp only [Act.put, List.setIfInBounds_toArray, List.set_cons_zero, List.set_cons_succ, i64_w, i32_w]
              rfl
            refine pure_ (i := 1) (N := some 76) (v := ?_) (a' := ?_) #[true, true, false, false, false, false, false, false] rfl rfl (by kernel_rfl) (fun _ _ _ h => h) (Or.inl ⟨by rfl, ?_⟩) ?_ ?_
            rotate_left
            · intro w'
              go_simp
              with_reducible rfl
            rotate_left
            · simp only [Act.put, List.setIfInBounds_toArray, List.set_cons_zero, List.set_cons_succ, i64_w, i32_w]
              rfl
            refine pure_ (i := 2) (N := some 77) (v := ?_) (a' := ?_) #[true, true, true, false, false, false, false, false] rfl rfl (by kernel_rfl) (fun _ _ _ h => h) (Or.inl ⟨by rfl, ?_⟩) ?_ ?_
            rotate_left
            · intro w'
              go_simp
              with_reducible rfl
            rotate_left
            · simp only [Act.put, List.setIfInBounds_toArray, List.set_cons_zero, List.set_cons_succ, i64_w, i32_w]
              rfl
            refine pure_ (i := 4) (N := some 79) (v := ?_) (a' := ?_) #[true, true, true, false, true, false, false, false] rfl rfl (by kernel_rfl) (fun _ _ _ h => h) (Or.inl ⟨by rfl, ?_⟩) ?_ ?_
            rotate_left
            · intro w'
              go_simp
              with_reducible rfl
            rotate_left
            · simp only [Act.put, List.setIfInBounds_toArray, List.set_cons_zero, List.set_cons_succ, i64_w, i32_w]
              rfl
            refine take_ (i := 3) (N := some 78) (v := ?_) (a' := ?_) #[true, true, true, true, true, false, false, false] rfl rfl (by kernel_rfl) (fun _ _ _ h => h) (Or.inl ⟨by rfl, ?_⟩) hHeld ?_ ?_
            rotate_left
            · rintro w' ⟨s0, s1, s2, s3⟩
              go_simp
              with_reducible rfl
            rotate_left
            · simp only [Act.put, List.setIfInBounds_toArray, List.set_cons_zero, List.set_cons_succ, i64_w, i32_w]
              rfl
            refine take_ (i := 5) (N := some 80) (v := ?_) (a' := ?_) #[true, true, true, true, true, true, false, false] rfl rfl (by kernel_rfl) (fun _ _ _ h => h) (Or.inl ⟨by rfl, ?_⟩) hHeld ?_ ?_
            rotate_left
            · rintro w' ⟨s0, s1, s2, s3⟩
              go_simp
              with_reducible rfl
            rotate_left
            · simp only [Act.put, List.setIfInBounds_toArray, List.set_cons_zero, List.set_cons_succ, i64_w, i32_w]
              rfl
            refine pure_ (i := 6) (N := some 81) (v := ?_) (a' := ?_) #[true, true, true, true, true, true, true, false] rfl rfl (by kernel_rfl) (fun _ _ _ h => h) (Or.inl ⟨by rfl, ?_⟩) ?_ ?_
            rotate_left
            · intro w'
              go_simp
              with_reducible rfl
            rotate_left
            · simp only [Act.put, List.setIfInBounds_toArray, List.set_cons_zero, List.set_cons_succ, i64_w, i32_w]
              rfl
            refine last_ (i := 7) (N := none) #[true, true, true, true, true, true, true, true] rfl rfl (by kernel_rfl) (by decide) (fun K hK => ?_)
            refine skip_ (w1 := ?_) (by rfl) rfl ?_ ?_
            rotate_left
            · go_simp
              rfl
            refine hK.out _ _ ?_
            clear hK K
            refine done_ (by kernel_rfl) ?_
            go_wp2
            go_roundg (s.fs.length - (i + 1))
            case measure => omega
            case rel => exact ⟨i + 1, at_ + 1, pre ++ [(kn, (⟨fo.has.extract 0 sk.toNat, sk⟩ : DF))], hil, by omega, Nat.le_refl _, by go_num, by go_num, Lib.hid (by rw [List.length_append, HPL.out]; rfl), Lib.hid (by rw [hC3.out, List.append_assoc]; rfl), Lib.hid HR9.out.drew, Lib.hid ((HK.out.trans HK9.out).drew)⟩
          · have hC2 : Hid (crashL s.fs ds = pre ++ (kn, tornF fo 0) :: crashL (s.fs.drop (i + 1)) (ds.drop (at_ + 1))) := Lib.hid (by
              have := hC1.out
              unfold keepN at this
              rw [Int.max_eq_left (by omega), Int.zero_emod] at this
              exact this)
            have hC3 : Hid (crashL s.fs ds = pre ++ (kn, ⟨fo.has.extract 0 fo.safe.toNat, fo.safe⟩) :: crashL (s.fs.drop (i + 1)) (ds.drop (at_ + 1))) := Lib.hid (by rw [hC2.out]; unfold tornF; rw [Int.add_zero])
            have hw2 : IntKind.i64.wrap fo.safe = fo.safe := by rw [IntKind.wrap_i64]; omega
            have HX := Lib.hid (Blk.new wr 79 #[.string kn, .string (fo.has.extract 0 fo.safe.toNat), .int .i64 fo.safe])
            have hs0 : 0 ≤ fo.safe := by omega
            have hmx : max fo.safe 0 = fo.safe := Int.max_eq_left hs0
            have hs1 : fo.safe ≤ (fo.has.size : Int) := by omega
            have hsz : ((fo.has.extract 0 fo.safe.toNat).size : Int) = fo.safe := by rw [ByteArray.size_extract]; omega
            have hat2 : IntKind.i64.wrap ((at_ : Int) + 1) = (at_ : Int) + 1 := by rw [IntKind.wrap_i64]; omega
            have HKX := Lib.hid ((Kept.refl wr fun _ => False).alloc (.cells #[.string kn, .string (fo.has.extract 0 fo.safe.toNat), .int .i64 fo.safe] 79))
            have HRX := Lib.hid (HR.out.kept HKX.out (fun _ _ h => h))
            have HBX := HB'.out.kept HKX.out (fun h => h)
            obtain ⟨e0, e1, e2⟩ := FE_at HRX.out i hmi
            have HRS := HRX.out.set_ (fun _ => rfl) one_file i (kn, ⟨fo.has.extract 0 fo.safe.toNat, fo.safe⟩) hmi
            have HSTEP := Lib.hid (show (pre ++ s.fs.drop i).set i (kn, ⟨fo.has.extract 0 fo.safe.toNat, fo.safe⟩) = (pre ++ [(kn, (⟨fo.has.extract 0 fo.safe.toNat, fo.safe⟩ : DF))]) ++ s.fs.drop (i + 1) by
              rw [HDROP.out, List.set_append_right _ _ (by rw [HPL.out]; exact Nat.le_refl _), HPL.out, Nat.sub_self, List.set_cons_zero, List.append_assoc]
              rfl)
            rw [HSTEP.out] at HRS
            have HR9 := Lib.hid HRS.1
            have HK9 := Lib.hid ((HKX.out.mono (S' := fun k => (Value.slice (some (⟨gb, 0, none⟩ : Addr)) s.fs.length c).ownBlock = some k) (fun _ _ h => h.elim)).trans ((Kept.of_grown HRS.2).mono fun k _ e => by rw [e]; rfl))
            clear HRS HSTEP e0 e1 e2 hmi HDROP
            go_wp2_with (fail)
            generalize wr.alloc (.cells #[.string kn, .string (fo.has.extract 0 fo.safe.toNat), .int .i64 fo.safe] 79) = wx at *
            have c1x := HBX.cell 1
            have hglx := HBX.lt
            have y0 := HX.out.cell 0
            have y1 := HX.out.cell 1
            have y2 := HX.out.cell 2
            have hmi2 : i < (pre ++ s.fs.drop i).length := by rw [List.length_append, HPL.out, List.length_drop]; omega
            obtain ⟨e0, e1, e2⟩ := FE_at HRX.out i hmi2
            have f0 := HRX.out.frozen (i * 3)
            have f1' := HRX.out.frozen (i * 3 + 1)
            have f2 := HRX.out.frozen (i * 3 + 2)
            have hgbx := HRX.out.lt (k := gb) (by simp [Value.ownBlock])
            refine start_ (n := 8) (S := fun w' => w'.cell? ⟨g, 1, none⟩ = some (.slice (some ⟨gb, 0, none⟩) s.fs.length c) ∧ w'.cell? ⟨wr.heap.size, 0, none⟩ = some (.string kn) ∧ w'.cell? ⟨wr.heap.size, 1, none⟩ = some (.string (fo.has.extract 0 fo.safe.toNat)) ∧ w'.cell? ⟨wr.heap.size, 2, none⟩ = some (.int .i64 fo.safe)) (ds := [7]) #[false, false, false, false, false, false, false, false] (by kernel_rfl) rfl rfl ⟨c1x, y0, y1, y2⟩ (fun hHeld => ?_)
            refine pure_ (i := 0) (N := some 75) (v := ?_) (a' := ?_) #[true, false, false, false, false, false, false, false] rfl rfl (by kernel_rfl) (fun _ _ _ h => h) (Or.inl ⟨by rfl, ?_⟩) ?_ ?_
            rotate_left
            · intro w'
              go_simp
              with_reducible rfl
            rotate_left
            · simp only [Act.put, List.setIfInBounds_toArray, List.set_cons_zero, List.set_cons_succ, i64_w, i32_w]
              rfl
            refine pure_ (i := 1) (N := some 76) (v := ?_) (a' := ?_) #[true, true, false, false, false, false, false, false] rfl rfl (by kernel_rfl) (fun _ _ _ h => h) (Or.inl ⟨by rfl, ?_⟩) ?_ ?_
            rotate_left
            · intro w'
              go_simp
              with_reducible rfl
            rotate_left
            · simp only [Act.put, List.setIfInBounds_toArray, List.set_cons_zero, List.set_cons_succ, i64_w, i32_w]
              rfl
            refine pure_ (i := 2) (N := some 77) (v := ?_) (a' := ?_) #[true, true, true, false, false, false, false, false] rfl rfl (by kernel_rfl) (fun _ _ _ h => h) (Or.inl ⟨by rfl, ?_⟩) ?_ ?_
            rotate_left
            · intro w'
              go_simp
              with_reducible rfl
            rotate_left
            · simp only [Act.put, List.setIfInBounds_toArray, List.set_cons_zero, List.set_cons_succ, i64_w, i32_w]
              rfl
            refine pure_ (i := 4) (N := some 79) (v := ?_) (a' := ?_) #[true, true, true, false, true, false, false, false] rfl rfl (by kernel_rfl) (fun _ _ _ h => h) (Or.inl ⟨by rfl, ?_⟩) ?_ ?_
            rotate_left
            · intro w'
              go_simp
              with_reducible rfl
            rotate_left
            · simp only [Act.put, List.setIfInBounds_toArray, List.set_cons_zero, List.set_cons_succ, i64_w, i32_w]
              rfl
            refine take_ (i := 3) (N := some 78) (v := ?_) (a' := ?_) #[true, true, true, true, true, false, false, false] rfl rfl (by kernel_rfl) (fun _ _ _ h => h) (Or.inl ⟨by rfl, ?_⟩) hHeld ?_ ?_
            rotate_left
            · rintro w' ⟨s0, s1, s2, s3⟩
              go_simp
              with_reducible rfl
            rotate_left
            · simp only [Act.put, List.setIfInBounds_toArray, List.set_cons_zero, List.set_cons_succ, i64_w, i32_w]
              rfl
            refine take_ (i := 5) (N := some 80) (v := ?_) (a' := ?_) #[true, true, true, true, true, true, false, false] rfl rfl (by kernel_rfl) (fun _ _ _ h => h) (Or.inl ⟨by rfl, ?_⟩) hHeld ?_ ?_
            rotate_left
            · rintro w' ⟨s0, s1, s2, s3⟩
              go_simp
              with_reducible rfl
            rotate_left
            · simp only [Act.put, List.setIfInBounds_toArray, List.set_cons_zero, List.set_cons_succ, i64_w, i32_w]
              rfl
            refine pure_ (i := 6) (N := some 81) (v := ?_) (a' := ?_) #[true, true, true, true, true, true, true, false] rfl rfl (by kernel_rfl) (fun _ _ _ h => h) (Or.inl ⟨by rfl, ?_⟩) ?_ ?_
            rotate_left
            · intro w'
              go_simp
              with_reducible rfl
            rotate_left
            · simp only [Act.put, List.setIfInBounds_toArray, List.set_cons_zero, List.set_cons_succ, i64_w, i32_w]
              rfl
            refine last_ (i := 7) (N := none) #[true, true, true, true, true, true, true, true] rfl rfl (by kernel_rfl) (by decide) (fun K hK => ?_)
            refine skip_ (w1 := ?_) (by rfl) rfl ?_ ?_
            rotate_left
            · go_simp
              rfl
            refine hK.out _ _ ?_
            clear hK K
            refine done_ (by kernel_rfl) ?_
            go_wp2
            go_roundg (s.fs.length - (i + 1))
            case measure => omega
            case rel => exact ⟨i + 1, at_ + 1, pre ++ [(kn, (⟨fo.has.extract 0 fo.safe.toNat, fo.safe⟩ : DF))], hil, by omega, Nat.le_refl _, by go_num, by go_num, Lib.hid (by rw [List.length_append, HPL.out]; rfl), Lib.hid (by rw [hC3.out, List.append_assoc]; rfl), Lib.hid HR9.out.drew, Lib.hid ((HK.out.trans HK9.out).drew)⟩
        · have hdr : ds.drop at_ = [] := List.drop_of_length_le (by omega)
          have hcr : crash1 fo (ds.drop at_) = (tornF fo 0, ds.drop (at_ + 1)) := by
            rw [hdr, List.drop_of_length_le (by omega)]
            unfold crash1 tailF
            rw [if_neg ht]
          rw [hcr] at hC1
          have hC2 := Lib.hid hC1.out
          have haz : ¬ (at_ : Int) < (ds.length : Int) := by omega
          clear hdr hcr key ht
          have hC3 : Hid (crashL s.fs ds = pre ++ (kn, ⟨fo.has.extract 0 fo.safe.toNat, fo.safe⟩) :: crashL (s.fs.drop (i + 1)) (ds.drop (at_ + 1))) := Lib.hid (by rw [hC2.out]; unfold tornF; rw [Int.add_zero])
          have hw2 : IntKind.i64.wrap fo.safe = fo.safe := by rw [IntKind.wrap_i64]; omega
          have HX := Lib.hid (Blk.new wr 79 #[.string kn, .string (fo.has.extract 0 fo.safe.toNat), .int .i64 fo.safe])
          have hs0 : 0 ≤ fo.safe := by omega
          have hmx : max fo.safe 0 = fo.safe := Int.max_eq_left hs0
          have hs1 : fo.safe ≤ (fo.has.size : Int) := by omega
          have hsz : ((fo.has.extract 0 fo.safe.toNat).size : Int) = fo.safe := by rw [ByteArray.size_extract]; omega
          have hat2 : IntKind.i64.wrap ((at_ : Int) + 1) = (at_ : Int) + 1 := by rw [IntKind.wrap_i64]; omega
          have HKX := Lib.hid ((Kept.refl wr fun _ => False).alloc (.cells #[.string kn, .string (fo.has.extract 0 fo.safe.toNat), .int .i64 fo.safe] 79))
          have HRX := Lib.hid (HR.out.kept HKX.out (fun _ _ h => h))
          have HBX := HB'.out.kept HKX.out (fun h => h)
          obtain ⟨e0, e1, e2⟩ := FE_at HRX.out i hmi
          have HRS := HRX.out.set_ (fun _ => rfl) one_file i (kn, ⟨fo.has.extract 0 fo.safe.toNat, fo.safe⟩) hmi
          have HSTEP := Lib.hid (show (pre ++ s.fs.drop i).set i (kn, ⟨fo.has.extract 0 fo.safe.toNat, fo.safe⟩) = (pre ++ [(kn, (⟨fo.has.extract 0 fo.safe.toNat, fo.safe⟩ : DF))]) ++ s.fs.drop (i + 1) by
            rw [HDROP.out, List.set_append_right _ _ (by rw [HPL.out]; exact Nat.le_refl _), HPL.out, Nat.sub_self, List.set_cons_zero, List.append_assoc]
            rfl)
          rw [HSTEP.out] at HRS
          have HR9 := Lib.hid HRS.1
          have HK9 := Lib.hid ((HKX.out.mono (S' := fun k => (Value.slice (some (⟨gb, 0, none⟩ : Addr)) s.fs.length c).ownBlock = some k) (fun _ _ h => h.elim)).trans ((Kept.of_grown HRS.2).mono fun k _ e => by rw [e]; rfl))
          clear HRS HSTEP e0 e1 e2 hmi HDROP
          go_wp2_with (fail)
          generalize wr.alloc (.cells #[.string kn, .string (fo.has.extract 0 fo.safe.toNat), .int .i64 fo.safe] 79) = wx at *
          have c1x := HBX.cell 1
          have hglx := HBX.lt
          have y0 := HX.out.cell 0
          have y1 := HX.out.cell 1
          have y2 := HX.out.cell 2
          have hmi2 : i < (pre ++ s.fs.drop i).length := by rw [List.length_append, HPL.out, List.length_drop]; omega
          obtain ⟨e0, e1, e2⟩ := FE_at HRX.out i hmi2
          have f0 := HRX.out.frozen (i * 3)
          have f1' := HRX.out.frozen (i * 3 + 1)
          have f2 := HRX.out.frozen (i * 3 + 2)
          have hgbx := HRX.out.lt (k := gb) (by simp [Value.ownBlock])
          refine start_ (n := 8) (S := fun w' => w'.cell? ⟨g, 1, none⟩ = some (.slice (some ⟨gb, 0, none⟩) s.fs.length c) ∧ w'.cell? ⟨wr.heap.size, 0, none⟩ = some (.string kn) ∧ w'.cell? ⟨wr.heap.size, 1, none⟩ = some (.string (fo.has.extract 0 fo.safe.toNat)) ∧ w'.cell? ⟨wr.heap.size, 2, none⟩ = some (.int .i64 fo.safe)) (ds := [7]) #[false, false, false, false, false, false, false, false] (by kernel_rfl) rfl rfl ⟨c1x, y0, y1, y2⟩ (fun hHeld => ?_)
          refine pure_ (i := 0) (N := some 75) (v := ?_) (a' := ?_) #[true, false, false, false, false, false, false, false] rfl rfl (by kernel_rfl) (fun _ _ _ h => h) (Or.inl ⟨by rfl, ?_⟩) ?_ ?_
          rotate_left
          · intro w'
            go_simp
            with_reducible rfl
          rotate_left
          · simp only [Act.put, List.setIfInBounds_toArray, List.set_cons_zero, List.set_cons_succ, i64_w, i32_w]
            rfl
          refine pure_ (i := 1) (N := some 76) (v := ?_) (a' := ?_) #[true, true, false, false, false, false, false, false] rfl rfl (by kernel_rfl) (fun _ _ _ h => h) (Or.inl ⟨by rfl, ?_⟩) ?_ ?_
          rotate_left
          · intro w'
            go_simp
            with_reducible rfl
          rotate_left
          · simp only [Act.put, List.setIfInBounds_toArray, List.set_cons_zero, List.set_cons_succ, i64_w, i32_w]
            rfl
          refine pure_ (i := 2) (N := some 77) (v := ?_) (a' := ?_) #[true, true, true, false, false, false, false, false] rfl rfl (by kernel_rfl) (fun _ _ _ h => h) (Or.inl ⟨by rfl, ?_⟩) ?_ ?_
          rotate_left
          · intro w'
            go_simp
            with_reducible rfl
          rotate_left
          · simp only [Act.put, List.setIfInBounds_toArray, List.set_cons_zero, List.set_cons_succ, i64_w, i32_w]
            rfl
          refine pure_ (i := 4) (N := some 79) (v := ?_) (a' := ?_) #[true, true, true, false, true, false, false, false] rfl rfl (by kernel_rfl) (fun _ _ _ h => h) (Or.inl ⟨by rfl, ?_⟩) ?_ ?_
          rotate_left
          · intro w'
            go_simp
            with_reducible rfl
          rotate_left
          · simp only [Act.put, List.setIfInBounds_toArray, List.set_cons_zero, List.set_cons_succ, i64_w, i32_w]
            rfl
          refine take_ (i := 3) (N := some 78) (v := ?_) (a' := ?_) #[true, true, true, true, true, false, false, false] rfl rfl (by kernel_rfl) (fun _ _ _ h => h) (Or.inl ⟨by rfl, ?_⟩) hHeld ?_ ?_
          rotate_left
          · rintro w' ⟨s0, s1, s2, s3⟩
            go_simp
            with_reducible rfl
          rotate_left
          · simp only [Act.put, List.setIfInBounds_toArray, List.set_cons_zero, List.set_cons_succ, i64_w, i32_w]
            rfl
          refine take_ (i := 5) (N := some 80) (v := ?_) (a' := ?_) #[true, true, true, true, true, true, false, false] rfl rfl (by kernel_rfl) (fun _ _ _ h => h) (Or.inl ⟨by rfl, ?_⟩) hHeld ?_ ?_
          rotate_left
          · rintro w' ⟨s0, s1, s2, s3⟩
            go_simp
            with_reducible rfl
          rotate_left
          · simp only [Act.put, List.setIfInBounds_toArray, List.set_cons_zero, List.set_cons_succ, i64_w, i32_w]
            rfl
          refine pure_ (i := 6) (N := some 81) (v := ?_) (a' := ?_) #[true, true, true, true, true, true, true, false] rfl rfl (by kernel_rfl) (fun _ _ _ h => h) (Or.inl ⟨by rfl, ?_⟩) ?_ ?_
          rotate_left
          · intro w'
            go_simp
            with_reducible rfl
          rotate_left
          · simp only [Act.put, List.setIfInBounds_toArray, List.set_cons_zero, List.set_cons_succ, i64_w, i32_w]
            rfl
          refine last_ (i := 7) (N := none) #[true, true, true, true, true, true, true, true] rfl rfl (by kernel_rfl) (by decide) (fun K hK => ?_)
          refine skip_ (w1 := ?_) (by rfl) rfl ?_ ?_
          rotate_left
          · go_simp
            rfl
          refine hK.out _ _ ?_
          clear hK K
          refine done_ (by kernel_rfl) ?_
          go_wp2
          go_roundg (s.fs.length - (i + 1))
          case measure => omega
          case rel => exact ⟨i + 1, at_ + 1, pre ++ [(kn, (⟨fo.has.extract 0 fo.safe.toNat, fo.safe⟩ : DF))], hil, by omega, Nat.le_refl _, by go_num, by go_num, Lib.hid (by rw [List.length_append, HPL.out]; rfl), Lib.hid (by rw [hC3.out, List.append_assoc]; rfl), Lib.hid HR9.out.drew, Lib.hid ((HK.out.trans HK9.out).drew)⟩
    · have hlz : ¬ (i : Int) < (s.fs.length : Int) := by omega
      go_wp2
      go_ret
      have hie : i = s.fs.length := by omega
      have hfs : pre ++ s.fs.drop i = (s.crashed ds).fs := by
        show _ = crashL s.fs ds
        rw [HC.out, hie, List.drop_length]
        rfl
      have hro := HR.out
      rw [hfs] at hro
      exact ⟨rfl, HKG.out.trans (HK.out.mono fun k _ e => HF1.out k e), .slice Af s.fs.length c, lf, HB'.out, hro, fun e => (by cases e), HG.out, HF1.out⟩
end Go.Proofs.YtaghdopickgpgaaDoor
