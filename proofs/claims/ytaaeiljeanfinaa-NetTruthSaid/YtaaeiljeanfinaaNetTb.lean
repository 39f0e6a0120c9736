import Derived.Test.YtaaeiljeanfinaaNetTa
import Derived.Test.YtaaeiljeanfinaaNetO
import Derived.Carry
import Derived.Deep.DeepCutAuto
import Derived.WalkArith
namespace Go.Proofs.Ytaaeiljeanfinaa
open Go Go.RowKit
open Go.Maps (Keyed IsMap)
set_option linter.unusedVariables false
set_option linter.unusedSimpArgs false

theorem LoneF.post {B : Nat} {w0 w w' : World} {F : Nat → Prop} {g : Nat} {s s' : NetS} (h : LoneF B w0 w F g s) (hp : NetPost w F g s' w') : LoneF B w0 w' (grow F w w') g s' ∧ Kept w w' F := ⟨h.of hp, hp.1⟩
theorem zero_letter : ∀ w : World, (zeroValue 38).run Try.prog w = .ok Letter.zero.val w := fun w => by kernel_rfl
theorem zero_bool : ∀ w : World, (zeroValue 4).run Try.prog w = .ok (.bool false) w := fun w => by kernel_rfl
/-- All that the loop carries. -/
structure TL (w wr : World) (F : Nat → Prop) (g b1 b2 k : Nat) (s : NetS) (sent : Int → Option Letter) (taken : Int → Option Bool) (n1 n2 : Nat) : Prop where
  net : LoneF w.heap.size w wr F g s
  tr : Truth k s sent taken
  m1 : IMap wr 3 b1 n1 Letter.val sent
  m2 : IMap wr 3 b2 n2 Value.bool taken
  f1 : ¬ F b1
  f2 : ¬ F b2
  ge1 : w.heap.size ≤ b1
  ge2 : w.heap.size ≤ b2
  n1 : n1 ≤ k
  n2 : n2 ≤ k
section
variable {w wr W : World} {F : Nat → Prop} {g b1 b2 k n1 n2 : Nat} {s s' : NetS} {sent : Int → Option Letter} {taken : Int → Option Bool}
theorem TL.below (h : TL w wr F g b1 b2 k s sent taken n1 n2) (hb : Below wr.heap.size wr W) : TL w W F g b1 b2 k s sent taken n1 n2 :=
  { h with net := h.net.below hb, m1 := h.m1.kept (Kept.of_below hb fun _ => False) (fun h => h), m2 := h.m2.kept (Kept.of_below hb fun _ => False) (fun h => h) }
theorem TL.post (h : TL w wr F g b1 b2 k s sent taken n1 n2) (hp : NetPost wr F g s' W) (ht : Truth (k + 1) s' sent taken) : TL w W (grow F wr W) g b1 b2 (k + 1) s' sent taken n1 n2 :=
  ⟨h.net.of hp, ht, h.m1.kept hp.1 h.f1, h.m2.kept hp.1 h.f2, grow_out h.m1.lt h.f1, grow_out h.m2.lt h.f2, h.ge1, h.ge2, by have := h.n1; omega, by have := h.n2; omega⟩
end

/-- What the loop carries, without the plain part. -/
structure MM (w wr : World) (F : Nat → Prop) (g b1 b2 : Nat) (s : NetS) (sent : Int → Option Letter) (taken : Int → Option Bool) (n1 n2 : Nat) : Prop where
  net : LoneF w.heap.size w wr F g s
  m1 : IMap wr 3 b1 n1 Letter.val sent
  m2 : IMap wr 3 b2 n2 Value.bool taken
  f1 : ¬ F b1
  f2 : ¬ F b2
  ge1 : w.heap.size ≤ b1
  ge2 : w.heap.size ≤ b2
section
variable {w wr W : World} {F : Nat → Prop} {g b1 b2 k n1 n2 n' : Nat} {s s' : NetS} {sent sent' : Int → Option Letter} {taken taken' : Int → Option Bool}
theorem TL.mm (h : TL w wr F g b1 b2 k s sent taken n1 n2) : MM w wr F g b1 b2 s sent taken n1 n2 := ⟨h.net, h.m1, h.m2, h.f1, h.f2, h.ge1, h.ge2⟩
theorem MM.tl (h : MM w wr F g b1 b2 s sent taken n1 n2) (ht : Truth k s sent taken) (h1 : n1 ≤ k) (h2 : n2 ≤ k) : TL w wr F g b1 b2 k s sent taken n1 n2 := ⟨h.net, ht, h.m1, h.m2, h.f1, h.f2, h.ge1, h.ge2, h1, h2⟩
theorem MM.below (h : MM w wr F g b1 b2 s sent taken n1 n2) (hb : Below wr.heap.size wr W) : MM w W F g b1 b2 s sent taken n1 n2 :=
  { h with net := h.net.below hb, m1 := h.m1.kept (Kept.of_below hb fun _ => False) (fun h => h), m2 := h.m2.kept (Kept.of_below hb fun _ => False) (fun h => h) }
theorem MM.post (h : MM w wr F g b1 b2 s sent taken n1 n2) (hn : LoneF w.heap.size w W (grow F wr W) g s') (hk : Kept wr W F) : MM w W (grow F wr W) g b1 b2 s' sent taken n1 n2 :=
  ⟨hn, h.m1.kept hk h.f1, h.m2.kept hk h.f2, grow_out h.m1.lt h.f1, grow_out h.m2.lt h.f2, h.ge1, h.ge2⟩
theorem MM.store1 (h : MM w wr F g b1 b2 s sent taken n1 n2) (hne : b1 ≠ b2) (hg : wr.grownBy W (some b1)) (hm : IMap W 3 b1 n' Letter.val sent') : MM w W F g b1 b2 s sent' taken n' n2 :=
  ⟨h.net.kept (Kept.of_grown hg) (fun k hk e => h.f1 (e ▸ hk)) (fun k e => e ▸ h.ge1), hm, h.m2.kept (Kept.of_grown hg) (fun e => hne e.symm), h.f1, h.f2, h.ge1, h.ge2⟩
theorem MM.store2 (h : MM w wr F g b1 b2 s sent taken n1 n2) (hne : b1 ≠ b2) (hg : wr.grownBy W (some b2)) (hm : IMap W 3 b2 n' Value.bool taken') : MM w W F g b1 b2 s sent taken' n1 n' :=
  ⟨h.net.kept (Kept.of_grown hg) (fun k hk e => h.f2 (e ▸ hk)) (fun k e => e ▸ h.ge2), h.m1.kept (Kept.of_grown hg) (fun e => hne e), hm, h.f1, h.f2, h.ge1, h.ge2⟩
end
theorem LoneF.copy {B : Nat} {w0 w : World} {F : Nat → Prop} {g : Nat} {s s' : NetS} (h : LoneF B w0 w F g s) {id x er : Int} (he : s.copy id = (s', x, er)) (hl : s.l.length ≤ 1000000) (hn : 0 ≤ s.next) (hs : ∀ x ∈ s.l, x.body.size ≤ 140737488355328) :
    Calls Try.prog 11 #[.pointer (some ⟨g, 0, none⟩), .int .i64 id] w fun e w' => e = .returned (.tuple #[.int .i64 x, .int .i64 er]) ∧ LoneF B w0 w' (grow F w w') g s' ∧ Kept w w' F := by
  refine (net_copy F g s id w h.net hl hn hs).mono ?_
  rw [he]
  rintro e w' ⟨rfl, hp⟩
  exact ⟨rfl, h.of hp, hp.1⟩
theorem nottrue {t : Option Bool} (h : t ≠ some true) {v : Value} (h1 : ∀ x, t = some x → v = .bool x) (h2 : t = none → v = .bool false) : v = .bool false := by
  rcases t with _ | b
  · exact h2 rfl
  · cases b
    · exact h1 _ rfl
    · exact absurd rfl h
theorem lval (x : Letter) : x.val = .agg #[.int .i64 x.id, .int .i64 x.src, .int .i64 x.dst, .string x.body] := rfl
theorem keyI {n : Int} (h : 0 ≤ n ∧ n ≤ 200) : (Lit.int .i64 n).wf = true ∧ keyOf Try.prog 3 (.int .i64 n) = some (.int .i64 n) :=
  have hw := WalkArith.wf_i64 (n := n) (by omega)
  ⟨hw, Go.Maps.keyOf_int_mk Try.underlying3 hw⟩

set_option maxHeartbeats 16000000 in
set_option maxRecDepth 1000000 in
theorem truth_walk (A0 : Option Addr) (len0 cap0 : Nat) (rows0 : List (List Value)) (w : World) (w0 : Open.Rows w [.int .i64, .int .i64, .int .i64, .int .i64, .str, .bool] A0 len0 cap0 rows0) (y0 : len0 * Try.prog.bytesOf 48 ≤ 140737488351232) :
    Calls Try.prog 5 #[.slice A0 len0 cap0] w fun e w' => e = .returned (.bool true) ∧ Below w.heap.size w w' := by
  obtain ⟨f, hF⟩ := args_of w0 ActK.cells ActK.fits 6 rfl actK_of
  have hlen : len0 ≤ 9223372036854775807 := by have h1 := w0.2.1; have h2 := w0.2.2.1; unfold maxLen at h2; omega
  clear w0 y0
  have HF := Lib.hid hF
  clear hF
  have hmm := @run_makeMap Try.prog
  go_enter Try.func5, Try.ntmps5
  go_wp2_with (fail)
  refine (Lone.new (w0 := w) 4 (by decide) (by decide) (Below.refl _ _)).mono ?_
  rintro e w2 ⟨rfl, h2⟩
  have H2 := Lib.hid h2
  clear h2
  go_wp2_with (fail)
  refine (works_true _).mono ?_
  rintro e w3 ⟨rfl, hb3⟩
  have H3 := Lib.hid (H2.out.below hb3).told
  clear hb3
  go_wp2_with (fail)
  have HT0 := Lib.hid (show ∃ F, TL w ((w3.alloc (.map #[] 0)).alloc (.map #[] 0)) F w.heap.size w3.heap.size (w3.heap.size + 1) 0 ⟨4, 0, [], []⟩ (fun _ => none) (fun _ => none) 0 0 from by
    obtain ⟨F, hF⟩ := H3.out
    have hz := hF.back.size
    have hb := hF.base
    refine ⟨F, (hF.below ((Below.refl _ _).alloc (Nat.le_refl _) _)).below ((Below.refl _ _).alloc (Nat.le_refl _) _), ⟨rfl, by simp, by simp, by simp, by simp, by simp, by simp, by simp, by simp, by simp, by simp⟩, (IMap.made w3 _ _).alloc _, ?_, fun h => by have := (hF.foot _ h).2; omega, fun h => by have := (hF.foot _ h).2; omega, by omega, by omega, Nat.le_refl _, Nat.le_refl _⟩
    have := IMap.made (w3.alloc (.map #[] 0)) 3 Value.bool
    simpa using this)
  generalize ((w3.alloc (.map #[] 0)).alloc (.map #[] 0)) = W0 at HT0 ⊢
  obtain ⟨b1, HB1⟩ : ∃ b1, Hid (w3.heap.size = b1) := ⟨_, Lib.hid rfl⟩
  obtain ⟨b2, HB2⟩ : ∃ b2, Hid (w3.heap.size + 1 = b2) := ⟨_, Lib.hid rfl⟩
  rw [HB2.out, HB1.out] at HT0
  have hne := Lib.hid (show b1 ≠ b2 by have := HB1.out; have := HB2.out; omega)
  rw [HB2.out, HB1.out]
  clear hmm
  go_loopg [7] 200 (fun gg s7 wr => ∃ (k : Nat) (s : NetS) (F : Nat → Prop) (sent : Int → Option Letter) (taken : Int → Option Bool) (n1 n2 : Nat), k ≤ len0 ∧ k ≤ 200 ∧ 200 - k ≤ gg ∧ s7 = .int .i64 k ∧ Hid (TL w wr F w.heap.size b1 b2 k s sent taken n1 n2))
  case atStart =>
    obtain ⟨F, hF⟩ := HT0.out
    exact ⟨0, _, F, _, _, 0, 0, Nat.zero_le _, by omega, by omega, rfl, Lib.hid hF⟩
  case round =>
    obtain ⟨k, s, F, sent, taken, n1, n2, hk1, hk2, hg, rfl, HT⟩ := hrel
    by_cases hlt : k < len0 ∧ k < 200
    · obtain ⟨hlt, h200⟩ := hlt
      have g1 : (k : Int) < (len0 : Int) := by omega
      have g2 : (k : Int) < 200 := by omega
      have g0 : (0 : Int) ≤ (k : Int) := by omega
      obtain ⟨ad, hA, hcell⟩ := (HF.out.below HT.out.net.back).2 (by omega)
      obtain rfl := hA
      have c0 := hcell k hlt 0 _ rfl
      have c1 := hcell k hlt 1 _ rfl
      have c2 := hcell k hlt 2 _ rfl
      have c3 := hcell k hlt 3 _ rfl
      have c4 := hcell k hlt 4 _ rfl
      have c5 := hcell k hlt 5 _ rfl
      have hfit := Lib.hid (HF.out.1 k hlt)
      clear hcell
      generalize f k = a at c0 c1 c2 c3 c4 c5 hfit
      obtain ⟨ak, aa, ab, ai, abd, ao⟩ := a
      simp only [adr, ActK.cells, List.getElem?_cons_zero, List.getElem?_cons_succ, Nat.zero_add] at c0 c1 c2 c3 c4 c5
      go_wp2_with (fail)
      go_quiet ((go_at_call 14; exact Calls.quiet_of_same (among_calls _ _ _ (by decide))))
      have hb1 := Lib.hid (amg_bounds aa 4 (by decide) (by decide))
      have hb2 := Lib.hid (amg_bounds ab 4 (by decide) (by decide))
      generalize amg aa 4 = x1 at hb1 ⊢
      generalize amg ab 4 = x2 at hb2 ⊢
      clear c0 c1 c2 c3 c4 c5
      have hbox0 := Blk.new wr 48 #[.int .i64 ak, .int .i64 aa, .int .i64 ab, .int .i64 ai, .string abd, .bool ao]
      have HFB := Lib.hid (show ¬ F wr.heap.size from fun hf => by have := (HT.out.net.foot _ hf).2; omega)
      have hnl := Lib.hid HT.out.tr.len
      obtain ⟨m, hm⟩ : ∃ m, s.l.length = m := ⟨_, rfl⟩
      have HM := Lib.hid hm
      clear hm
      go_wp2_with (fail)
      refine (((HT.out.below (pw_drewN ((Below.refl wr.heap.size wr).alloc (Nat.le_refl _) _) _)).net).lone.letters m HM.out (by have := hnl.out; omega)).mono ?_
      rintro e w6 ⟨A6, c6, rfl, hr6, hn6, hb6, h6⟩
      have HR6 := Lib.hid hr6
      have HT6 := Lib.hid ((HT.out.below (pw_drewN ((Below.refl wr.heap.size wr).alloc (Nat.le_refl _) _) _)).below hb6)
      have HBX := Lib.hid ((hbox0.drewN _).kept (Kept.of_below hb6 fun _ => False) (fun h => h))
      have hbxl := HBX.out.lt
      have hsz6 := Lib.hid (show wr.heap.size + 1 ≤ w6.heap.size by have := hb6.size; simpa using this)
      have d0 := HBX.out.cell 0
      have d1 := HBX.out.cell 1
      have d2 := HBX.out.cell 2
      have d3 := HBX.out.cell 3
      have d4 := HBX.out.cell 4
      clear hr6 hn6 hb6 h6 hbox0
      have hmm0 : m = 0 ∨ 0 < m := by omega
      have hm4 : m ≤ 4096 := by have := HM.out; have := hnl.out; omega
      go_upto_region 12 with (fail)
      go_cut [12] (fun s12 wx => s12 = .int .i64 ai ∧ wx = w6)
      case first =>
        go_wp2_with (fail)
        go_meet
        exact ⟨rfl, rfl⟩
      obtain ⟨rfl, hwx⟩ := hcut
      obtain rfl := hwx.symm
      clear hwx
      rename_i hK1
      refine hK1 _ _ ?_
      clear hK1
      refine wp_seq_k (fun K2 hK2 => ?_)
      go_cut [12] (fun s12 wx => ∃ id : Int, s12 = .int .i64 id ∧ wx = w6)
      case first =>
        rcases hmm0 with hm0 | hm0
        · have hmz : ¬ ((0 : Int) < (m : Int)) := by omega
          clear hm0
          go_wp2_with (fail)
          go_meet
          exact ⟨ai, rfl, rfl⟩
        · have hmz : (0 : Int) < (m : Int) := by omega
          clear hm0
          have hab := amg_bounds ai (m : Int) hmz (by omega)
          obtain ⟨j, hj⟩ := Int.eq_ofNat_of_zero_le hab.1
          have hjl : j < s.l.length := by have := HM.out; omega
          obtain ⟨gb, cc, hv, hgl, hcl⟩ := HR6.out.form (by have := HM.out; omega)
          injection hv with hA hm7 hc7
          subst hA hc7
          clear hm7
          have q0 := HR6.out.cell (fun _ => rfl) j 0 hjl (by omega)
          generalize s.l[j] = x at q0
          simp only [Letter.cells, List.getElem?_cons_zero, Nat.add_zero] at q0
          have HJ := Lib.hid hj
          have j1 : (0 : Int) ≤ (j : Int) := by omega
          have j2 : (j : Int) < (m : Int) := by omega
          clear hab hj
          go_wp2_with (fail)
          refine (among_calls ai (m : Int) _ hmz).mono ?_
          rintro e w7 ⟨rfl, hw7⟩
          obtain rfl := hw7.symm
          clear hw7
          rw [HJ.out]
          go_wp2_with (fail)
          go_meet
          exact ⟨x.id, rfl, rfl⟩
      case rest =>
        obtain ⟨id, rfl, hwx⟩ := hcut
        obtain rfl := hwx.symm
        clear hwx hmm0 hm4 HR6
        go_wp2_with (fail)
        refine (among_calls ak 6 _ (by decide)).mono ?_
        rintro e w7 ⟨rfl, hw7⟩
        obtain rfl := hw7.symm
        clear hw7
        have hk6 := amg_bounds ak 6 (by decide) (by decide)
        have hk := show amg ak 6 = 0 ∨ amg ak 6 = 1 ∨ amg ak 6 = 2 ∨ amg ak 6 = 3 ∨ amg ak 6 = 4 ∨ amg ak 6 = 5 by omega
        clear hk6
        generalize amg ak 6 = y at hk ⊢
        rcases hk with rfl | rfl | rfl | rfl | rfl | rfl
        · have hsnd := HT6.out.net.send (a := x1) (b := x2) (body := abd) (s' := (s.send x1 x2 abd).1) (x := (s.send x1 x2 abd).2.1) (er := (s.send x1 x2 abd).2.2) rfl HT6.out.tr.nlo (by have : abd.size ≤ 140737488351232 := hfit.out; omega)
          have hcs := HT6.out.tr.sendCases x1 x2 abd hb1.out hb2.out (by have : abd.size ≤ 140737488351232 := hfit.out; omega)
          rcases hcs with hcs | ⟨hcs, hno, htr⟩
          · rw [hcs] at hsnd
            clear hcs
            go_wp2_with (fail)
            refine hsnd.mono ?_
            rintro e w8 ⟨rfl, h8, k8⟩
            have HT8 := Lib.hid (show TL w w8 (grow F w6 w8) w.heap.size b1 b2 (k + 1) s sent taken n1 n2 from ⟨h8, HT6.out.tr.more, HT6.out.m1.kept k8 HT6.out.f1, HT6.out.m2.kept k8 HT6.out.f2, grow_out HT6.out.m1.lt HT6.out.f1, grow_out HT6.out.m2.lt HT6.out.f2, HT6.out.ge1, HT6.out.ge2, by have := HT6.out.n1; omega, by have := HT6.out.n2; omega⟩)
            clear h8 k8 hsnd
            go_wp2
            go_roundg (200 - (k + 1))
            case measure => omega
            case rel => exact ⟨k + 1, _, _, sent, taken, n1, n2, by omega, by omega, Nat.le_refl _, by go_num, HT8⟩
          · rw [hcs] at hsnd
            clear hcs
            have HNO := Lib.hid hno
            have HTR := Lib.hid htr
            have HKI := Lib.hid (keyI (n := s.next) ⟨HT6.out.tr.nlo, by have := HT6.out.tr.nhi; omega⟩)
            clear hno htr
            go_wp2_with (fail)
            refine hsnd.mono ?_
            rintro e w8 ⟨rfl, h8, k8⟩
            have HM8 := Lib.hid (HT6.out.mm.post h8 k8)
            have HBX8 := Lib.hid (HBX.out.kept k8 HFB.out)
            clear d0 d1 d2 d3 d4 hbxl hsnd h8 k8
            have d4 := HBX8.out.cell 4
            have hbxl := HBX8.out.lt
            go_wp2_with (first
              | (refine IMap.lookOk (by rfl) (.tmp 99) (.tmp 100) 45 38 (by rfl) (Go.Maps.int_keyed Try.underlying3) Try.underlying45 zero_letter (by rfl) HM8.out.m1 s.next (by rfl) HKI.out.1 HKI.out.2 fun v hv => ?_; rw [HNO.out] at hv ⊢; obtain rfl := hv; rw [lval, Option.isSome_none])
              | (refine IMap.store (by rfl) (.tmp 105) (.tmp 106) (.tmp 112) 45 38 (by rfl) (Go.Maps.int_keyed Try.underlying3) Try.underlying45 (by rfl) (HM8.out.below ((Below.refl _ _).alloc (Nat.le_refl _) _)).m1 (by have := HT6.out.n1; unfold maxLen; omega) s.next (⟨s.next, x1, x2, abd⟩ : Letter) (by rfl) (by rfl) HKI.out.1 HKI.out.2 fun W9 hm9 hg9 => ?_; have HT9 := Lib.hid (((HM8.out.below ((Below.refl _ _).alloc (Nat.le_refl _) _)).store1 hne.out hg9 hm9).tl HTR.out (by have := HT6.out.n1; omega) (by have := HT6.out.n2; omega)); clear hm9 hg9)
              | fail)
            go_roundg (200 - (k + 1))
            case measure => omega
            case rel => exact ⟨k + 1, _, _, _, _, _, _, by omega, by omega, Nat.le_refl _, by go_num, HT9⟩
        · have hcs := HT6.out.tr.takeCases id
          have hlp := Lib.hid (show s.parted.length ≤ 1000000 by have := HT6.out.tr.plen; omega)
          have hll := Lib.hid (show s.l.length ≤ 1000000 by have := hnl.out; omega)
          rcases hcs with hcs | hcs | ⟨s', x', hcs, hid0, hsx, htx, hap, htr, hpl⟩
          · have htk := HT6.out.net.take hcs hll.out hlp.out
            clear hcs
            go_wp2_with (fail)
            refine htk.mono ?_
            rintro e w8 ⟨rfl, h8, k8⟩
            have HT8 := Lib.hid ((HT6.out.mm.post h8 k8).tl HT6.out.tr.more (by have := HT6.out.n1; omega) (by have := HT6.out.n2; omega))
            clear h8 k8 htk
            go_wp2
            go_roundg (200 - (k + 1))
            case measure => omega
            case rel => exact ⟨k + 1, _, _, sent, taken, n1, n2, by omega, by omega, Nat.le_refl _, by go_num, HT8.out.below ((Below.refl _ _).alloc (Nat.le_refl _) _)⟩
          · have htk := HT6.out.net.take hcs hll.out hlp.out
            clear hcs
            go_wp2_with (fail)
            refine htk.mono ?_
            rintro e w8 ⟨rfl, h8, k8⟩
            have HT8 := Lib.hid ((HT6.out.mm.post h8 k8).tl HT6.out.tr.more (by have := HT6.out.n1; omega) (by have := HT6.out.n2; omega))
            clear h8 k8 htk
            go_wp2
            go_roundg (200 - (k + 1))
            case measure => omega
            case rel => exact ⟨k + 1, _, _, sent, taken, n1, n2, by omega, by omega, Nat.le_refl _, by go_num, HT8.out.below ((Below.refl _ _).alloc (Nat.le_refl _) _)⟩
          · have htk := HT6.out.net.take hcs hll.out hlp.out
            have HSX := Lib.hid hsx
            have HTX := Lib.hid htx
            have HAP := Lib.hid hap
            have HTR := Lib.hid htr
            have HKI := Lib.hid (keyI (n := id) ⟨hid0, by have := htr.tk id true (by unfold upd; rw [if_pos rfl]); have := htr.nhi; omega⟩)
            have hneq := neq_letter x'
            clear hcs hsx htx hap htr hpl hid0
            go_wp2_with (fail)
            refine htk.mono ?_
            rintro e w8 ⟨rfl, h8, k8⟩
            have HM8 := Lib.hid (HT6.out.mm.post h8 k8)
            clear h8 k8 htk
            go_wp2_with (fail)
            refine (net_parted _ w.heap.size s' x'.src x'.dst _ (HM8.out.net.below ((Below.refl _ _).alloc (Nat.le_refl _) _)).net (by have := HTR.out.plen; omega)).mono ?_
            rintro e w9 ⟨rfl, hb9⟩
            rw [HAP.out]
            have HM9 := Lib.hid ((HM8.out.below ((Below.refl _ _).alloc (Nat.le_refl _) _)).below hb9)
            have hx9 := Lib.hid ((Blk.new w8 38 #[.int .i64 x'.id, .int .i64 x'.src, .int .i64 x'.dst, .string x'.body]).kept (Kept.of_below hb9 fun _ => False) (fun h => h))
            have e0 := hx9.out.cell 0
            have e1 := hx9.out.cell 1
            have e2 := hx9.out.cell 2
            have e3 := hx9.out.cell 3
            have hx9l := hx9.out.lt
            clear hb9 HM8
            go_wp2_with (first
              | (refine IMap.look (by rfl) (.tmp 133) (.tmp 134) 45 38 (by rfl) (Go.Maps.int_keyed Try.underlying3) Try.underlying45 zero_letter (by rfl) HM9.out.m1 id (by rfl) HKI.out.1 HKI.out.2 fun v hv => ?_; rw [HSX.out] at hv; have hq : v = .agg #[.int .i64 x'.id, .int .i64 x'.src, .int .i64 x'.dst, .string x'.body] := hv; clear hv; subst hq)
              | (refine gate_ (by rfl) ?_; refine IMap.look (by rfl) (.tmp 138) (.tmp 139) 46 4 (by rfl) (Go.Maps.int_keyed Try.underlying3) Try.underlying46 zero_bool (by rfl) HM9.out.m2 id (by rfl) HKI.out.1 HKI.out.2 fun v hv => ?_; have hq := nottrue HTX.out (fun x e => by rw [e] at hv; exact hv) (fun e => by rw [e] at hv; exact hv); clear hv; subst hq)
              | (refine IMap.store (by rfl) (.tmp 149) (.tmp 150) (.const (.bool true)) 46 4 (by rfl) (Go.Maps.int_keyed Try.underlying3) Try.underlying46 (by rfl) HM9.out.m2 (by have := HT6.out.n2; unfold maxLen; omega) id true (by rfl) (by rfl) HKI.out.1 HKI.out.2 fun W9 hm9 hg9 => ?_; have HT9 := Lib.hid ((HM9.out.store2 hne.out hg9 hm9).tl HTR.out (by have := HT6.out.n1; omega) (by have := HT6.out.n2; omega)); clear hm9 hg9)
              | fail)
            go_roundg (200 - (k + 1))
            case measure => omega
            case rel => exact ⟨k + 1, _, _, _, _, _, _, by omega, by omega, Nat.le_refl _, by go_num, HT9⟩
        · go_wp2_with (fail)
          refine (net_lose F w.heap.size s id _ HT6.out.net.net (by have := hnl.out; omega)).mono ?_
          rintro e w8 ⟨rfl, p8⟩
          have HT8 := Lib.hid (HT6.out.post p8 (HT6.out.tr.loseCases id))
          clear p8
          go_wp2
          go_roundg (200 - (k + 1))
          case measure => omega
          case rel => exact ⟨k + 1, _, _, sent, taken, n1, n2, by omega, by omega, Nat.le_refl _, by go_num, HT8⟩
        · have hcs := HT6.out.tr.copyCases id
          have hll := Lib.hid (show s.l.length ≤ 1000000 by have := hnl.out; omega)
          have hbb := Lib.hid (show ∀ x ∈ s.l, x.body.size ≤ 140737488355328 from fun x hx => (HT6.out.tr.ok x hx).2)
          rcases hcs with hcs | hcs | ⟨x', hid0, hsx, hcs, hno, htr⟩
          · have htk := HT6.out.net.copy hcs hll.out HT6.out.tr.nlo hbb.out
            clear hcs
            go_wp2_with (fail)
            refine htk.mono ?_
            rintro e w8 ⟨rfl, h8, k8⟩
            have HT8 := Lib.hid ((HT6.out.mm.post h8 k8).tl HT6.out.tr.more (by have := HT6.out.n1; omega) (by have := HT6.out.n2; omega))
            clear h8 k8 htk
            go_wp2
            go_roundg (200 - (k + 1))
            case measure => omega
            case rel => exact ⟨k + 1, _, _, sent, taken, n1, n2, by omega, by omega, Nat.le_refl _, by go_num, HT8⟩
          · have htk := HT6.out.net.copy hcs hll.out HT6.out.tr.nlo hbb.out
            clear hcs
            go_wp2_with (fail)
            refine htk.mono ?_
            rintro e w8 ⟨rfl, h8, k8⟩
            have HT8 := Lib.hid ((HT6.out.mm.post h8 k8).tl HT6.out.tr.more (by have := HT6.out.n1; omega) (by have := HT6.out.n2; omega))
            clear h8 k8 htk
            go_wp2
            go_roundg (200 - (k + 1))
            case measure => omega
            case rel => exact ⟨k + 1, _, _, sent, taken, n1, n2, by omega, by omega, Nat.le_refl _, by go_num, HT8⟩
          · have htk := HT6.out.net.copy hcs hll.out HT6.out.tr.nlo hbb.out
            have HSX := Lib.hid hsx
            have HNO := Lib.hid hno
            have HTR := Lib.hid htr
            have HKI := Lib.hid (keyI (n := id) ⟨hid0, by have := HT6.out.tr.sent id x' hsx; have := HT6.out.tr.nhi; omega⟩)
            have HKN := Lib.hid (keyI (n := s.next) ⟨HT6.out.tr.nlo, by have := HT6.out.tr.nhi; omega⟩)
            clear hcs hsx hno htr hid0
            go_wp2_with (fail)
            refine htk.mono ?_
            rintro e w8 ⟨rfl, h8, k8⟩
            have HM8 := Lib.hid (HT6.out.mm.post h8 k8)
            clear h8 k8 htk
            go_wp2_with (first
              | (refine IMap.lookOk (by rfl) (.tmp 167) (.tmp 168) 45 38 (by rfl) (Go.Maps.int_keyed Try.underlying3) Try.underlying45 zero_letter (by rfl) HM8.out.m1 s.next (by rfl) HKN.out.1 HKN.out.2 fun v hv => ?_; rw [HNO.out] at hv ⊢; obtain rfl := hv; rw [lval, Option.isSome_none])
              | (refine IMap.look (by rfl) (.tmp 173) (.tmp 174) 45 38 (by rfl) (Go.Maps.int_keyed Try.underlying3) Try.underlying45 zero_letter (by rfl) (HM8.out.below ((Below.refl _ _).alloc (Nat.le_refl _) _)).m1 id (by rfl) HKI.out.1 HKI.out.2 fun v hv => ?_; rw [HSX.out] at hv; have hq : v = .agg #[.int .i64 x'.id, .int .i64 x'.src, .int .i64 x'.dst, .string x'.body] := hv; clear hv; subst hq)
              | (refine IMap.store (by rfl) (.tmp 178) (.tmp 179) (.tmp 180) 45 38 (by rfl) (Go.Maps.int_keyed Try.underlying3) Try.underlying45 (by rfl) (HM8.out.below (((Below.refl _ _).alloc (Nat.le_refl _) _).alloc (by simp) _)).m1 (by have := HT6.out.n1; unfold maxLen; omega) s.next (⟨s.next, x'.src, x'.dst, x'.body⟩ : Letter) (by rfl) (by rfl) HKN.out.1 HKN.out.2 fun W9 hm9 hg9 => ?_; have HT9 := Lib.hid (((HM8.out.below (((Below.refl _ _).alloc (Nat.le_refl _) _).alloc (by simp) _)).store1 hne.out hg9 hm9).tl HTR.out (by have := HT6.out.n1; omega) (by have := HT6.out.n2; omega)); clear hm9 hg9)
              | fail)
            go_roundg (200 - (k + 1))
            case measure => omega
            case rel => exact ⟨k + 1, _, _, _, _, _, _, by omega, by omega, Nat.le_refl _, by go_num, HT9⟩
        · go_wp2_with (fail)
          refine (net_part F w.heap.size s x1 x2 _ HT6.out.net.net (by have := HT6.out.tr.plen; omega)).mono ?_
          rintro e w8 ⟨rfl, p8⟩
          have HT8 := Lib.hid (HT6.out.post p8 (HT6.out.tr.partCases x1 x2))
          clear p8
          go_wp2
          go_roundg (200 - (k + 1))
          case measure => omega
          case rel => exact ⟨k + 1, _, _, sent, taken, n1, n2, by omega, by omega, Nat.le_refl _, by go_num, HT8⟩
        · go_wp2_with (fail)
          refine (net_join F w.heap.size s x1 x2 _ HT6.out.net.net (fun q hq => (HT6.out.net.foot q hq).2) (by have := HT6.out.tr.plen; omega)).mono ?_
          rintro e w8 ⟨rfl, p8⟩
          have HT8 := Lib.hid (HT6.out.post p8 (HT6.out.tr.joinCases x1 x2))
          clear p8
          go_wp2
          go_roundg (200 - (k + 1))
          case measure => omega
          case rel => exact ⟨k + 1, _, _, sent, taken, n1, n2, by omega, by omega, Nat.le_refl _, by go_num, HT8⟩
    · have g00 : ¬ ((k : Int) < (len0 : Int)) ∨ (k : Int) < (len0 : Int) ∧ ¬ ((k : Int) < 200) := by omega
      have HBk := Lib.hid HT.out.net.back
      clear hlt
      rcases g00 with g1 | ⟨g1, g2⟩
      all_goals
        go_wp2
        go_ret
        exact ⟨rfl, HBk.out⟩
end Go.Proofs.Ytaaeiljeanfinaa
