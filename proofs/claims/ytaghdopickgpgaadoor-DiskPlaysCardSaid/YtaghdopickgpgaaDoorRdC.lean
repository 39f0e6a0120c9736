import Derived.Test.YtaghdopickgpgaaDoorRdB
namespace Go.Proofs.YtaghdopickgpgaaDoor
open Go Go.RowKit
set_option linter.unusedVariables false
set_option linter.unusedSimpArgs false

theorem ltB_total {a b : ByteArray} (h : ltB a b = false) (hne : a ≠ b) : ltB b a = true := by
  have h1 : ¬ a.data.toList < b.data.toList := by simpa [ltB] using h
  refine decide_eq_true ?_
  have h2 : b.data.toList ≤ a.data.toList := List.not_lt.1 h1
  rcases List.le_iff_lt_or_eq.1 h2 with h3 | h3
  · exact h3
  · exact absurd (ByteArray.ext (Array.toList_inj.1 h3)).symm hne
theorem ltB_asymm {a b : ByteArray} (h : ltB a b = true) : ltB b a = false := by
  cases hh : ltB b a with
  | false => rfl
  | true => have := ltB_trans h hh; rw [ltB_irrefl] at this; cases this
theorem posF_cons_lt {p : ByteArray × DF} {fs : Files} {k : ByteArray} (h : ltB p.1 k = true) : posF (p :: fs) k = posF fs k + 1 := by
  unfold posF
  rw [List.takeWhile_cons_of_pos (p := fun p : ByteArray × DF => ltB p.1 k) h, List.length_cons]
theorem posF_cons_ge {p : ByteArray × DF} {fs : Files} {k : ByteArray} (h : ltB p.1 k = false) : posF (p :: fs) k = 0 := by
  unfold posF
  rw [List.takeWhile_cons_of_neg (p := fun p : ByteArray × DF => ltB p.1 k) (by rw [h]; simp), List.length_nil]
theorem pos_all {fs : Files} (h : fs.Pairwise fun p q => ltB p.1 q.1 = true) (k : ByteArray) :
    fs.filter (fun p => ltB p.1 k) = fs.take (posF fs k) ∧ fs.filter (fun p => ltB k p.1) = fs.drop (posF fs k + if hasF fs k = true then 1 else 0) ∧ look fs k = (if hasF fs k = true then (fs[posF fs k]?).map (·.2) else none) := by
  induction fs with
  | nil => exact ⟨rfl, rfl, rfl⟩
  | cons p fs ih =>
    obtain ⟨h1, h2⟩ := List.pairwise_cons.1 h
    obtain ⟨i1, i2, i3⟩ := ih h2
    cases hp : ltB p.1 k with
    | true =>
      have e1 := posF_cons_lt (fs := fs) hp
      have e2 : hasF (p :: fs) k = hasF fs k := by unfold hasF; rw [e1, List.getElem?_cons_succ]
      rw [e1, e2, List.filter_cons_of_pos (p := fun p : ByteArray × DF => ltB p.1 k) hp, List.filter_cons_of_neg (p := fun p : ByteArray × DF => ltB k p.1) (by rw [ltB_asymm hp]; simp), look_cons, if_neg (ltB_ne hp), i1, i2, i3, List.take_succ_cons, List.getElem?_cons_succ]
      refine ⟨rfl, ?_, rfl⟩
      rw [show posF fs k + 1 + (if hasF fs k = true then 1 else 0) = (posF fs k + if hasF fs k = true then 1 else 0) + 1 by omega, List.drop_succ_cons]
    | false =>
      have e1 := posF_cons_ge (fs := fs) hp
      have e2 : hasF (p :: fs) k = decide (p.1 = k) := by unfold hasF; rw [e1]; rfl
      have hle : ∀ q ∈ fs, ltB k q.1 = true := fun q hq => by
        by_cases hpk : p.1 = k
        · exact hpk ▸ h1 q hq
        · exact ltB_trans (ltB_total hp hpk) (h1 q hq)
      have f1 : (p :: fs).filter (fun p => ltB p.1 k) = [] := by
        refine List.filter_eq_nil_iff.2 fun q hq => ?_
        rcases List.mem_cons.1 hq with rfl | hq
        · rw [hp]; simp
        · rw [ltB_asymm (hle q hq)]; simp
      have f2 : fs.filter (fun p => ltB k p.1) = fs := List.filter_eq_self.2 hle
      rw [e1, e2, f1, look_cons]
      by_cases hpk : p.1 = k
      · rw [decide_eq_true hpk, List.filter_cons_of_neg (p := fun p : ByteArray × DF => ltB k p.1) (by rw [hpk, ltB_irrefl]; simp), f2, if_pos hpk]
        exact ⟨rfl, rfl, rfl⟩
      · rw [decide_eq_false hpk, List.filter_cons_of_pos (p := fun p : ByteArray × DF => ltB k p.1) (ltB_total hp hpk), f2, if_neg hpk]
        refine ⟨rfl, rfl, ?_⟩
        exact look_none fun q hq e => by have := hle q hq; rw [e, ltB_irrefl] at this; cases this
theorem hasF_look {fs : Files} (h : fs.Pairwise fun p q => ltB p.1 q.1 = true) (k : ByteArray) : hasF fs k = (look fs k).isSome := by
  rw [(pos_all h k).2.2]
  cases hh : hasF fs k with
  | false => rfl
  | true =>
    rw [if_pos rfl, Option.isSome_map]
    unfold hasF at hh
    cases hg : fs[posF fs k]? with
    | none => rw [hg] at hh; cases hh
    | some p => rfl
theorem hasF_at {fs : Files} (h : fs.Pairwise fun p q => ltB p.1 q.1 = true) {k : ByteArray} (hh : hasF fs k = true) : ∃ hi : posF fs k < fs.length, fs[posF fs k] = (k, fileAt fs k) := by
  have h3 := (pos_all h k).2.2
  rw [if_pos hh] at h3
  have hu := hh
  unfold hasF at hu
  cases hg : fs[posF fs k]? with
  | none => rw [hg] at hu; cases hu
  | some p =>
    obtain ⟨hi, he⟩ := List.getElem?_eq_some_iff.1 hg
    refine ⟨hi, ?_⟩
    rw [hg] at hu h3
    have hp : p.1 = k := of_decide_eq_true hu
    rw [he]
    refine Prod.ext hp ?_
    unfold fileAt
    rw [h3]
    rfl
theorem file_none {fs : Files} {k : ByteArray} (h : look fs k = none) : fileAt fs k = ⟨⟨#[]⟩, 0⟩ := by unfold fileAt; rw [h]; rfl
set_option maxRecDepth 100000 in
set_option maxHeartbeats 4000000 in
theorem refd_used (G : Nat → Prop) (g : Nat) (s : DkS) (w : World) (h : RkAt w G g s) (hs : s.Ok) :
    Calls Tryd.prog 45 #[.pointer (some ⟨g, 0, none⟩)] w fun e w' => e = .returned (.int .i64 s.used) ∧ w' = w := by
  obtain ⟨vl, lf, hb, h1, hlf, hg, f1⟩ := h
  have hlt := hb.lt
  obtain ⟨A, c, rfl⟩ := h1.shape
  have c1 := hb.cell 1
  have H1 := Lib.hid h1
  have hu : Hid (s.used = total s.fs) := Lib.hid hs.used
  have hub : total s.fs ≤ 262144 := by have := hs.used; have := hs.u1; have := hs.r1; omega
  have hn := hs.n
  clear hb h1 hs
  go_enter Tryd.func45, Tryd.ntmps45
  go_wp2_with (fail)
  go_loopg [3, 4] s.fs.length (fun gg s3 s4 wr => ∃ (i : Nat) (x : Int), i ≤ s.fs.length ∧ s.fs.length - i ≤ gg ∧ s3 = .int .i64 x ∧ s4 = .int .i64 i ∧ wr = w ∧ 0 ≤ x ∧ Hid (x + total (s.fs.drop i) = total s.fs))
  case atStart => exact ⟨0, 0, Nat.zero_le _, by omega, by go_num, by go_num, rfl, Int.le_refl _, Lib.hid (by simp)⟩
  case round =>
    obtain ⟨i, x, hi, hgg, rfl, rfl, rfl, hx0, HX⟩ := hrel
    have hn64 : (s.fs.length : Int) ≤ 64 := by omega
    by_cases hil : i < s.fs.length
    · obtain ⟨gb, c', hv, hgl, hcl⟩ := H1.out.form (by omega)
      injection hv with hA _ hc
      subst hA hc
      have c0 := (FE_at H1.out i hil).2.1
      have hlz : (i : Int) < (s.fs.length : Int) := by omega
      have hd : s.fs.drop i = s.fs[i] :: s.fs.drop (i + 1) := List.drop_eq_getElem_cons hil
      have hxt : x + ((s.fs[i].2.has.size : Int) + total (s.fs.drop (i + 1))) = total s.fs := by have := HX.out; rw [hd, total_cons] at this; exact this
      have htn := total_nn (s.fs.drop (i + 1))
      generalize s.fs[i].2.has = hs9 at c0 hxt
      have hw : IntKind.i64.wrap (x + (hs9.size : Int)) = x + (hs9.size : Int) := by rw [IntKind.wrap_i64]; omega
      have HXT := Lib.hid hxt
      clear hd hxt htn
      go_wp2
      go_roundg (s.fs.length - (i + 1))
      case measure => omega
      case rel => exact ⟨i + 1, x + (hs9.size : Int), by omega, Nat.le_refl _, by go_num, by go_num, rfl, by omega, Lib.hid (by have := HXT.out; omega)⟩
    · have hlz : ¬ (i : Int) < (s.fs.length : Int) := by omega
      go_wp2
      go_ret
      refine ⟨ret_int ?_, rfl⟩
      have := HX.out
      rw [List.drop_of_length_le (by omega)] at this
      rw [hu.out, ← this]
      show x = x + 0
      omega
theorem namesOf_take (fs : Files) (k : Nat) (h : k < fs.length) : namesOf (fs.take (k + 1)) = namesOf (fs.take k) ++ [fs[k].1] := by
  unfold namesOf
  rw [List.take_succ_eq_append_getElem h, List.map_append]
  rfl
set_option maxRecDepth 100000 in
set_option maxHeartbeats 4000000 in
theorem refd_names (G : Nat → Prop) (g : Nat) (s : DkS) (w : World) (h : RkAt w G g s) (hn : s.fs.length ≤ 64) :
    Calls Tryd.prog 44 #[.pointer (some ⟨g, 0, none⟩)] w fun e w' => ∃ v, e = .returned v ∧ Row w' 9 1 scells v (namesOf s.fs) ∧ Below w.heap.size w w' ∧ ∀ k, v.ownBlock = some k → w.heap.size ≤ k := by
  obtain ⟨vl, lf, hb, h1, hlf, hg, f1⟩ := h
  have hlt := hb.lt
  obtain ⟨A, c, rfl⟩ := h1.shape
  have H1 := Lib.hid h1
  have HB0 := Lib.hid hb
  clear hb h1
  go_enter Tryd.func44, Tryd.ntmps44
  go_wp2_with (fail)
  go_loopg [3, 4] s.fs.length (fun gg s3 s4 wr => ∃ (k : Nat), k ≤ s.fs.length ∧ s.fs.length - k ≤ gg ∧ s4 = .int .i64 k ∧ Hid (Below w.heap.size w wr) ∧ Hid (Row wr 9 1 scells s3 (namesOf (s.fs.take k))) ∧ Hid (∀ k, s3.ownBlock = some k → w.heap.size ≤ k))
  case atStart => exact ⟨0, Nat.zero_le _, by omega, by go_num, Lib.hid (Below.refl _ _), Lib.hid (Row.nil_ ..), Lib.hid (fun k e => by simp [Value.ownBlock] at e)⟩
  case round =>
    obtain ⟨k, hk, hgg, rfl, HB, HR, HO⟩ := hrel
    have hn64 : (s.fs.length : Int) ≤ 64 := by omega
    have hb' := HB0.out.kept (Kept.of_below HB.out fun _ => False) (fun h => h)
    have c1 := hb'.cell 1
    have hgl0 := hb'.lt
    clear hb'
    by_cases hil : k < s.fs.length
    · obtain ⟨gb, c', hv, hgl, hcl⟩ := H1.out.form (by omega)
      injection hv with hA _ hc
      subst hA hc
      have r1 := H1.out.kept (Kept.of_below HB.out fun _ => False) (fun _ _ h => h)
      have c0 := (FE_at r1 k hil).1
      have HT := Lib.hid (namesOf_take s.fs k hil)
      have hlz : (k : Int) < (s.fs.length : Int) := by omega
      generalize s.fs[k].1 = nm at c0 HT
      obtain ⟨A3, n3, c3, rfl⟩ := HR.out.some_slice
      have hw3 := Lib.hid (HR.out.alloc (.cells #[.string nm] 9))
      have hlen : (namesOf (s.fs.take k)).length = k := by unfold namesOf; rw [List.length_map, List.length_take]; omega
      clear r1
      go_wp2_with (first
        | (refine Row.append_list (by rfl) (.tmp 14) (.tmp 23) 22 9 (.string ⟨#[]⟩) 1 16 (by rfl) Tryd.underlying22 info_str rfl (by decide) (by decide) (.slice A3 n3 c3) (namesOf (s.fs.take k)) [nm] (by rfl) ⟨wr.heap.size, 0, none⟩ 1 1 (by rfl) hw3.out rfl (fun _ => rfl) ?_ one_str (by rw [hlen]; omega) ?_
           · exact fun j u hu => World.news_of_block (heap_alloc_new wr _) j u (by simpa [scells] using hu)
           intro v4 w4 hR hG hO
           have HR4 := Lib.hid hR
           have HB4 := Lib.hid (HB.out.trans ((((Kept.refl wr fun k => w.heap.size ≤ k).alloc _).grown hG (fun k e => .inl (HO.out k e))).below HB.out.size (fun k hk hge => by omega)))
           have HO4 := Lib.hid (own_ge2 hO HO.out (by rw [World.size_alloc]; have := HB.out.size; omega))
           clear hR hG hO)
        | fail)
      obtain ⟨A4, n4, c4, rfl⟩ := HR4.out.some_slice
      go_wp2
      go_roundg (s.fs.length - (k + 1))
      case measure => omega
      case rel => exact ⟨k + 1, hil, Nat.le_refl _, by go_num, HB4, Lib.hid (by rw [HT.out]; exact HR4.out), HO4⟩
    · have hlz : ¬ (k : Int) < (s.fs.length : Int) := by omega
      obtain ⟨A3, n3, c3, rfl⟩ := HR.out.some_slice
      go_wp2
      go_ret
      have hk' : k = s.fs.length := by omega
      refine ⟨_, rfl, ?_, HB.out, HO.out⟩
      have := HR.out
      rwa [hk', List.take_length] at this
def knownN (fs : Files) (k : ByteArray) : ByteArray := if knownE fs k = 0 then k else ⟨#[]⟩
set_option maxRecDepth 100000 in
set_option maxHeartbeats 4000000 in
theorem refd_known (G : Nat → Prop) (g : Nat) (s : DkS) (k : ByteArray) (w : World) (h : RkAt w G g s) (hs : s.Ok) (hk : k.size ≤ maxLen) :
    Calls Tryd.prog 56 #[.pointer (some ⟨g, 0, none⟩), .string k] w fun e w' => e = .returned (.tuple #[.agg #[.string (knownN s.fs k), .string (fileAt s.fs k).has, .int .i64 (fileAt s.fs k).safe], .int .i64 (knownE s.fs k)]) ∧ Below w.heap.size w w' := by
  have hnm := fun W => refd_named k W (by simp only [maxLen] at hk; omega)
  have H := Lib.hid h
  have HPL := Lib.hid (fun W (hW : RkAt W G g s) => refd_place G g s k W hW hs.n)
  have hlook := hasF_look hs.sorted k
  have hat := @hasF_at s.fs hs.sorted k
  have hno : okName k = false → fileAt s.fs k = ⟨⟨#[]⟩, 0⟩ := fun e => file_none (look_none fun p hp e2 => by have := hs.names p hp; rw [e2, e] at this; cases this)
  have hnt : hasF s.fs k = false → fileAt s.fs k = ⟨⟨#[]⟩, 0⟩ := fun e => file_none (by rw [hlook] at e; simpa using e)
  have hke : knownE s.fs k = if okName k = true then (if hasF s.fs k = true then 0 else 5) else 20 := by unfold knownE; rw [hlook]
  have hkn : knownN s.fs k = if knownE s.fs k = 0 then k else ⟨#[]⟩ := rfl
  generalize knownN s.fs k = kn at *
  generalize knownE s.fs k = ke at *
  have HAT := Lib.hid hat
  have hn64 := hs.n
  have HNO := Lib.hid hno
  have HNT := Lib.hid hnt
  have HKE := Lib.hid hke
  have HKN := Lib.hid hkn
  clear hlook hs h hat hno hnt hke hkn
  have HNM := Lib.hid hnm
  clear hnm
  have fret : ∀ (W : World) (fo : DF), W.cell? ⟨w.heap.size, 0, none⟩ = some (.string kn) → W.cell? ⟨w.heap.size, 1, none⟩ = some (.string fo.has) → W.cell? ⟨w.heap.size, 2, none⟩ = some (.int .i64 fo.safe) → Below w.heap.size w W → fo = fileAt s.fs k → ∀ tmps : Array Value, tmps[4]? = some (.pointer (some ⟨w.heap.size, 0, none⟩)) → tmps[5]? = some (.int .i64 ke) → bodyPost Tryd.prog Tryd.f56 (fun e w' => e = .returned (.tuple #[.agg #[.string kn, .string (fileAt s.fs k).has, .int .i64 (fileAt s.fs k).safe], .int .i64 ke]) ∧ Below w.heap.size w w') Exit.ret ⟨tmps, []⟩ W := by
    intro W fo h0 h1 h2 hB hfo tmps t4 t5
    subst hfo
    refine bodyPost_ret (v := .tuple #[.agg #[.string kn, .string (fileAt s.fs k).has, .int .i64 (fileAt s.fs k).safe], .int .i64 ke]) ?_ rfl ⟨rfl, hB⟩
    simp [results, Tryd.results56, go_sem, t4, t5, h0, h1, h2]
  have FRET := Lib.hid fret
  clear fret
  have HWA := Lib.hid ((Below.refl w.heap.size w).alloc (Nat.le_refl _) (.cells #[.string ⟨#[]⟩, .string ⟨#[]⟩, .int .i64 0] 79))
  have HX := Lib.hid (Blk.new w 79 #[.string ⟨#[]⟩, .string ⟨#[]⟩, .int .i64 0])
  have hszz : (w.alloc (.cells #[.string ⟨#[]⟩, .string ⟨#[]⟩, .int .i64 0] 79)).heap.size = w.heap.size + 1 := by simp
  go_enter Tryd.func56, Tryd.ntmps56
  go_wp2_with (fail)
  refine (HNM.out _).mono ?_
  rintro e w1 ⟨rfl, hw1⟩
  subst hw1
  generalize (w.alloc (.cells #[.string ⟨#[]⟩, .string ⟨#[]⟩, .int .i64 0] 79)) = wa at *
  cases hq : okName k with
  | false =>
    have hfo := HNO.out hq
    have hke : ke = 20 := by rw [HKE.out, hq]; rfl
    subst hke
    have hkn : kn = ⟨#[]⟩ := HKN.out
    subst hkn
    have xz0 := HX.out.frozen 0
    have xz1 := HX.out.frozen 1
    have xz2 := HX.out.frozen 2
    have xc0 := HX.out.cell 0
    have xc1 := HX.out.cell 1
    have xc2 := HX.out.cell 2
    have hxl := HX.out.lt
    have hx5 := ((HX.out.set_ 0 (.string ⟨#[]⟩)).set_ 1 (.string ⟨#[]⟩)).set_ 2 (.int .i64 0)
    have e0 := Lib.hid (show (((wa.setCell ⟨w.heap.size, 0, none⟩ (.string ⟨#[]⟩)).setCell ⟨w.heap.size, 1, none⟩ (.string ⟨#[]⟩)).setCell ⟨w.heap.size, 2, none⟩ (.int .i64 0)).cell? ⟨w.heap.size, 0, none⟩ = some (.string ⟨#[]⟩) by have := hx5.cell 0; simpa using this)
    have e1 := Lib.hid (show (((wa.setCell ⟨w.heap.size, 0, none⟩ (.string ⟨#[]⟩)).setCell ⟨w.heap.size, 1, none⟩ (.string ⟨#[]⟩)).setCell ⟨w.heap.size, 2, none⟩ (.int .i64 0)).cell? ⟨w.heap.size, 1, none⟩ = some (.string ⟨#[]⟩) by have := hx5.cell 1; simpa using this)
    have e2 := Lib.hid (show (((wa.setCell ⟨w.heap.size, 0, none⟩ (.string ⟨#[]⟩)).setCell ⟨w.heap.size, 1, none⟩ (.string ⟨#[]⟩)).setCell ⟨w.heap.size, 2, none⟩ (.int .i64 0)).cell? ⟨w.heap.size, 2, none⟩ = some (.int .i64 0) by have := hx5.cell 2; simpa using this)
    clear hq hx5
    have HFO := Lib.hid hfo
    clear hfo
    go_wp2
    exact FRET.out _ ⟨⟨#[]⟩, 0⟩ e0.out e1.out e2.out (((HWA.out.setCell (Nat.le_refl _) _).setCell (Nat.le_refl _) _).setCell (Nat.le_refl _) _) HFO.out.symm _ rfl rfl
  | true =>
    have hpl := HPL.out wa (H.out.below HWA.out)
    have hpos := posF_le s.fs k
    generalize hpo : posF s.fs k = po at *
    have HPO := Lib.hid hpo
    clear hpo
    cases hh : hasF s.fs k with
    | false =>
      rw [hh] at hpl
      have hfo := HNT.out hh
      have hke : ke = 5 := by rw [HKE.out, hq, hh]; rfl
      subst hke
      have hkn : kn = ⟨#[]⟩ := HKN.out
      subst hkn
      have HFO := Lib.hid hfo
      clear hq hh hfo
      go_wp2_with (fail)
      refine hpl.mono ?_
      rintro e w2 ⟨rfl, hb2⟩
      have HX2 := Lib.hid (HX.out.kept (Kept.of_below hb2 fun _ => False) (fun h => h))
      have HW2 := Lib.hid (HWA.out.trans (hb2.mono HWA.out.size))
      clear hpl hb2 HX
      have xz0 := HX2.out.frozen 0
      have xz1 := HX2.out.frozen 1
      have xz2 := HX2.out.frozen 2
      have xc0 := HX2.out.cell 0
      have xc1 := HX2.out.cell 1
      have xc2 := HX2.out.cell 2
      have hxl := HX2.out.lt
      have hx5 := ((HX2.out.set_ 0 (.string ⟨#[]⟩)).set_ 1 (.string ⟨#[]⟩)).set_ 2 (.int .i64 0)
      have e0 := Lib.hid (show (((w2.setCell ⟨w.heap.size, 0, none⟩ (.string ⟨#[]⟩)).setCell ⟨w.heap.size, 1, none⟩ (.string ⟨#[]⟩)).setCell ⟨w.heap.size, 2, none⟩ (.int .i64 0)).cell? ⟨w.heap.size, 0, none⟩ = some (.string ⟨#[]⟩) by have := hx5.cell 0; simpa using this)
      have e1 := Lib.hid (show (((w2.setCell ⟨w.heap.size, 0, none⟩ (.string ⟨#[]⟩)).setCell ⟨w.heap.size, 1, none⟩ (.string ⟨#[]⟩)).setCell ⟨w.heap.size, 2, none⟩ (.int .i64 0)).cell? ⟨w.heap.size, 1, none⟩ = some (.string ⟨#[]⟩) by have := hx5.cell 1; simpa using this)
      have e2 := Lib.hid (show (((w2.setCell ⟨w.heap.size, 0, none⟩ (.string ⟨#[]⟩)).setCell ⟨w.heap.size, 1, none⟩ (.string ⟨#[]⟩)).setCell ⟨w.heap.size, 2, none⟩ (.int .i64 0)).cell? ⟨w.heap.size, 2, none⟩ = some (.int .i64 0) by have := hx5.cell 2; simpa using this)
      clear hx5
      go_wp2
      exact FRET.out _ ⟨⟨#[]⟩, 0⟩ e0.out e1.out e2.out (((HW2.out.setCell (Nat.le_refl _) _).setCell (Nat.le_refl _) _).setCell (Nat.le_refl _) _) HFO.out.symm _ rfl rfl
    | true =>
      rw [hh] at hpl
      have hke : ke = 0 := by rw [HKE.out, hq, hh]; rfl
      subst hke
      have hkn : k = kn := HKN.out.symm
      subst hkn
      obtain ⟨hil, hfk⟩ := HAT.out hh
      have HFK := Lib.hid hfk
      clear hq hh hfk
      go_wp2_with (fail)
      refine hpl.mono ?_
      rintro e w2 ⟨rfl, hb2⟩
      have HX2 := Lib.hid (HX.out.kept (Kept.of_below hb2 fun _ => False) (fun h => h))
      have HW2 := Lib.hid (HWA.out.trans (hb2.mono HWA.out.size))
      have H2 := (H.out.below HWA.out).below hb2
      clear hpl hb2 HX
      obtain ⟨vl, lf, hb, h1, _, _, _⟩ := H2
      obtain ⟨gb, c, rfl, hgl, hcl⟩ := h1.form (by omega)
      have c1 := hb.cell 1
      have hglt := hb.lt
      obtain ⟨a0, a1, a2⟩ := FE_at h1 po hil
      rw [HFK.out] at a0 a1 a2
      have xz0 := HX2.out.frozen 0
      have xz1 := HX2.out.frozen 1
      have xz2 := HX2.out.frozen 2
      have xc0 := HX2.out.cell 0
      have xc1 := HX2.out.cell 1
      have xc2 := HX2.out.cell 2
      have hxl := HX2.out.lt
      obtain ⟨fo, hfo⟩ : ∃ fo, fileAt s.fs k = fo := ⟨_, rfl⟩
      rw [hfo] at a0 a1 a2
      have HFO := Lib.hid hfo
      clear hfo
      have hx5 := ((HX2.out.set_ 0 (.string k)).set_ 1 (.string fo.has)).set_ 2 (.int .i64 fo.safe)
      have e0 := Lib.hid (show (((w2.setCell ⟨w.heap.size, 0, none⟩ (.string k)).setCell ⟨w.heap.size, 1, none⟩ (.string fo.has)).setCell ⟨w.heap.size, 2, none⟩ (.int .i64 fo.safe)).cell? ⟨w.heap.size, 0, none⟩ = some (.string k) by have := hx5.cell 0; simpa using this)
      have e1 := Lib.hid (show (((w2.setCell ⟨w.heap.size, 0, none⟩ (.string k)).setCell ⟨w.heap.size, 1, none⟩ (.string fo.has)).setCell ⟨w.heap.size, 2, none⟩ (.int .i64 fo.safe)).cell? ⟨w.heap.size, 1, none⟩ = some (.string fo.has) by have := hx5.cell 1; simpa using this)
      have e2 := Lib.hid (show (((w2.setCell ⟨w.heap.size, 0, none⟩ (.string k)).setCell ⟨w.heap.size, 1, none⟩ (.string fo.has)).setCell ⟨w.heap.size, 2, none⟩ (.int .i64 fo.safe)).cell? ⟨w.heap.size, 2, none⟩ = some (.int .i64 fo.safe) by have := hx5.cell 2; simpa using this)
      have hlz : (po : Int) < (s.fs.length : Int) := by omega
      clear hx5 hb h1
      go_wp2
      exact FRET.out _ fo e0.out e1.out e2.out (((HW2.out.setCell (Nat.le_refl _) _).setCell (Nat.le_refl _) _).setCell (Nat.le_refl _) _) HFO.out.symm _ rfl rfl
theorem refd_read (G : Nat → Prop) (g : Nat) (s : DkS) (k : ByteArray) (w : World) (h : RkAt w G g s) (hs : s.Ok) (hk : k.size ≤ maxLen) :
    Calls Tryd.prog 41 #[.pointer (some ⟨g, 0, none⟩), .string k] w fun e w' => e = .returned (.tuple #[.string (fileAt s.fs k).has, .int .i64 (knownE s.fs k)]) ∧ Below w.heap.size w w' := by
  have hkn := refd_known G g s k w h hs hk
  generalize fileAt s.fs k = fo at *
  generalize knownE s.fs k = er at *
  generalize knownN s.fs k = kn at *
  clear h
  go_enter Tryd.func41, Tryd.ntmps41
  go_wp2_with (fail)
  refine hkn.mono ?_
  rintro e w1 ⟨rfl, hb⟩
  go_wp2
  go_ret2
  exact ⟨rfl, hb.trans ((Below.refl _ _).alloc hb.size _)⟩
end Go.Proofs.YtaghdopickgpgaaDoor
