import Derived.Test.YtaaeiljeanfinaaNetT
namespace Go.Proofs.Ytaaeiljeanfinaa
open Go Go.RowKit
set_option linter.unusedVariables false
set_option linter.unusedSimpArgs false

theorem ref_take_none (F : Nat → Prop) (g : Nat) (s : RefS) (id : Int) (w : World) (h : RefAt w F g s) (hl : s.l.length ≤ 1000000) (hn : s.find id = -1) :
    Calls Try.prog 35 #[.pointer (some ⟨g, 0, none⟩), .int .i64 id] w fun e w' => e = .returned (.tuple #[Letter.zero.val, .int .i64 5]) ∧ Below w.heap.size w w' := by
  have ha := ref_find F g s id _ (h.below ((Below.refl _ w).alloc (Nat.le_refl _) (.cells #[.int .i64 0, .int .i64 0, .int .i64 0, .string ⟨#[]⟩] 81))) hl
  rw [hn] at ha
  clear h hn
  go_enter Try.func35, Try.ntmps35
  go_wp2_with (fail)
  refine ha.mono ?_
  rintro e w' ⟨rfl, hw⟩
  subst hw
  go_wp2
  refine bodyPost_ret (v := .tuple #[.agg #[.int .i64 0, .int .i64 0, .int .i64 0, .string ⟨#[]⟩], .int .i64 5]) (by simp [results, Try.results35, go_sem]) rfl ⟨rfl, ?_⟩
  exact (Below.refl _ w).alloc (Nat.le_refl _) _

set_option maxHeartbeats 2000000 in
set_option maxRecDepth 100000 in
theorem ref_take_at (F : Nat → Prop) (g : Nat) (s : RefS) (id : Int) (i : Nat) (hi : i < s.l.length) (w : World) (h : RefAt w F g s) (hw : s.wf) (hF : ∀ k, F k → k < w.heap.size) (hl : s.l.length ≤ 1000000) (hn : s.find id = (i : Int)) (an bn : Nat) (h1 : s.l[i].src = (an : Int)) (h2 : s.l[i].dst = (bn : Int)) (ha : (an : Int) < s.nodes) (hb : (bn : Int) < s.nodes) (q : Bool) (hq : getC s.cut an bn = q) :
    Calls Try.prog 35 #[.pointer (some ⟨g, 0, none⟩), .int .i64 id] w fun e w' => e = .returned (.tuple #[(if q then Letter.zero else s.l[i]).val, .int .i64 (if q then 4 else 0)]) ∧ RefPost w F g (if q then s else s.cutL i) w' := by
  have hbel := Lib.hid ((Below.refl _ w).alloc (Nat.le_refl _) (.cells #[.int .i64 0, .int .i64 0, .int .i64 0, .string ⟨#[]⟩] 81))
  have hfind := ref_find F g s id _ (h.below hbel.out) hl
  rw [hn] at hfind
  have H := Lib.hid h
  have hdrop := Lib.hid (fun W hW => ref_drop F g s i hi W hW hl)
  obtain ⟨cb, c, n, ba, N, t1, t2, t3, t4, t5, t6, t7, t8⟩ := h.table hw an bn ha hb
  rw [hq] at t3
  obtain ⟨vl, vc, bs, N', hb0, r1, r2, r3, hg', f1, f2⟩ := h
  obtain ⟨gb, c', rfl, hgl, hcl⟩ := r1.form (by omega)
  have hglt := hb0.lt
  have hc1 := hb0.cell 1
  have c0 := r1.cell (fun _ => rfl) i 0 hi (by omega)
  have c1 := r1.cell (fun _ => rfl) i 1 hi (by omega)
  have c2 := r1.cell (fun _ => rfl) i 2 hi (by omega)
  have c3 := r1.cell (fun _ => rfl) i 3 hi (by omega)
  generalize s.l[i] = x at c0 c1 c2 c3 h1 h2 ⊢
  obtain ⟨xi, xs, xd, xb⟩ := x
  simp only at h1 h2
  subst h1 h2
  simp only [Letter.cells, List.getElem?_cons_zero, List.getElem?_cons_succ, Nat.add_zero, Nat.mul_one] at c0 c1 c2 c3
  have i1 : (an : Int) < (n : Int) := by omega
  have i2 : (bn : Int) < (N : Int) := by omega
  have i3 : (0 : Int) ≤ (an : Int) := by omega
  have i4 : (0 : Int) ≤ (bn : Int) := by omega
  have hiz : (0 : Int) ≤ (i : Int) := by omega
  have hiz2 : (i : Int) < (s.l.length : Int) := by omega
  clear hb0 r1 r2 r3 hn hw ha hb t4 t5 hq
  cases q with
  | true =>
    go_enter Try.func35, Try.ntmps35
    go_wp2_with (fail)
    refine hfind.mono ?_
    rintro e w' ⟨rfl, hw⟩
    subst hw
    go_wp2
    go_quiet (fail)
    go_wp2
    refine bodyPost_ret (v := .tuple #[.agg #[.int .i64 0, .int .i64 0, .int .i64 0, .string ⟨#[]⟩], .int .i64 4]) (by simp [results, Try.results35, go_sem]) rfl ⟨rfl, RefPost.of_below H.out ?_⟩
    exact (((((pw_drewN (((Below.refl _ w).alloc (Nat.le_refl _) _).alloc (by simp) _) _).setCell (Nat.le_refl _) _).setCell (Nat.le_refl _) _).setCell (Nat.le_refl _) _).setCell (Nat.le_refl _) _)
  | false =>
    go_enter Try.func35, Try.ntmps35
    go_wp2_with (fail)
    refine hfind.mono ?_
    rintro e w' ⟨rfl, hw⟩
    subst hw
    go_wp2
    go_quiet (fail)
    go_wp2_with (fail)
    have hbw := Lib.hid (pw_drewN (((Below.refl w.heap.size w).alloc (Nat.le_refl _) (.cells #[.int .i64 0, .int .i64 0, .int .i64 0, .string ⟨#[]⟩] 81)).alloc (by simp) (.cells #[.int .i64 xi, .int .i64 (an : Int), .int .i64 (bn : Int), .string xb] 81)) 0)
    refine (hdrop.out _ (H.out.below (pw_drewN (((Below.refl w.heap.size w).alloc (Nat.le_refl _) _).alloc (by simp) _) _))).mono ?_
    rintro e w3 ⟨rfl, h3⟩
    have hb0 := Lib.hid ((((Blk.new w 81 #[.int .i64 0, .int .i64 0, .int .i64 0, .string ⟨#[]⟩]).alloc _).drewN _).kept h3.1 (fun h => absurd (hF _ h) (by omega)))
    have hb1 := Lib.hid (((Blk.new (w.alloc _) 81 #[.int .i64 xi, .int .i64 (an : Int), .int .i64 (bn : Int), .string xb]).drewN _).kept h3.1 (fun h => absurd (hF _ h) (by simp <;> omega)))
    have y0 := hb0.out.cell 0
    have y1 := hb0.out.cell 1
    have y2 := hb0.out.cell 2
    have y3 := hb0.out.cell 3
    have z0 := hb0.out.frozen
    have x0 := hb1.out.cell 0
    have x1 := hb1.out.cell 1
    have x2 := hb1.out.cell 2
    have x3 := hb1.out.cell 3
    simp only [World.size_alloc] at x0 x1 x2 x3
    have hsz3 : w.heap.size + 2 ≤ w3.heap.size := by have := hb1.out.lt; simp at this; omega
    have H3 := Lib.hid h3
    clear h3
    go_wp2
    refine bodyPost_ret (v := .tuple #[.agg #[.int .i64 xi, .int .i64 an, .int .i64 bn, .string xb], .int .i64 0]) (by simp [results, Try.results35, go_sem, y0, y1, y2, y3]) rfl ⟨rfl, ?_⟩
    have hk4 := ((((Kept.refl w3 (fun k => k = w.heap.size)).setCell (p := ⟨w.heap.size, 0, none⟩) (.inl rfl) (.int .i64 xi)).setCell (p := ⟨w.heap.size, 1, none⟩) (.inl rfl) (.int .i64 (an : Int))).setCell (p := ⟨w.heap.size, 2, none⟩) (.inl rfl) (.int .i64 (bn : Int))).setCell (p := ⟨w.heap.size, 3, none⟩) (.inl rfl) (.string xb)
    refine ⟨((Kept.of_below (pw_drewN (((Below.refl w.heap.size w).alloc (Nat.le_refl _) _).alloc (by simp) _) _) F).trans H3.out.1).then_ hk4 (fun k h => .inr (h ▸ Nat.le_refl _)), (H3.out.2.kept hk4 ?_).mono ?_⟩
    · rintro k _ (hf | hf) e
      · exact absurd (hF _ hf) (by omega)
      · have := hf.1; simp at this; omega
    · rintro k _ (hf | hf)
      · exact .inl hf
      · refine .inr ⟨?_, by simpa using hf.2⟩
        have := hf.1
        simp at this
        omega

def RefS.take (s : RefS) (id : Int) : RefS × Letter × Int := match s.pos id with
  | none => (s, Letter.zero, 5)
  | some i => if getC s.cut (s.l.getD i Letter.zero).src.toNat (s.l.getD i Letter.zero).dst.toNat then (s, Letter.zero, 4) else (s.cutL i, s.l.getD i Letter.zero, 0)
theorem ref_take (F : Nat → Prop) (g : Nat) (s : RefS) (id : Int) (w : World) (h : RefAt w F g s) (hw : s.wf) (hF : ∀ k, F k → k < w.heap.size) (hl : s.l.length ≤ 1000000) (hv : ∀ x ∈ s.l, 0 ≤ x.src ∧ x.src < s.nodes ∧ 0 ≤ x.dst ∧ x.dst < s.nodes) :
    Calls Try.prog 35 #[.pointer (some ⟨g, 0, none⟩), .int .i64 id] w fun e w' => e = .returned (.tuple #[(s.take id).2.1.val, .int .i64 (s.take id).2.2]) ∧ RefPost w F g (s.take id).1 w' := by
  rcases s.pos_cases id with ⟨h1, h2⟩ | ⟨i, hi, h1, h2⟩
  · have e : s.take id = (s, Letter.zero, 5) := by unfold RefS.take; rw [h1]
    rw [e]
    exact (ref_take_none F g s id w h hl h2).mono fun e w' ⟨he, hb⟩ => ⟨he, RefPost.of_below h hb⟩
  · have hx := hv s.l[i] (List.getElem_mem hi)
    obtain ⟨an, ha⟩ := Int.eq_ofNat_of_zero_le hx.1
    obtain ⟨bn, hb⟩ := Int.eq_ofNat_of_zero_le hx.2.2.1
    have e : s.take id = if getC s.cut an bn then (s, Letter.zero, 4) else (s.cutL i, s.l[i], 0) := by
      unfold RefS.take
      rw [h1]
      simp only [s.getD i hi]
      rw [ha, hb, Int.toNat_natCast, Int.toNat_natCast]
    have hc := ref_take_at F g s id i hi w h hw hF hl h2 an bn ha hb (by omega) (by omega) _ rfl
    rw [e]
    cases hq : getC s.cut an bn with
    | true => rw [hq] at hc; exact hc
    | false => rw [hq] at hc; exact hc

/-! Drop -/
def RefS.drop (s : RefS) (nd : Int) : RefS × Int × Int := if s.none_ nd = true then (s, 0, 30) else ({ s with l := s.l.filter fun x : Letter => x.src != nd && x.dst != nd }, (s.l.length : Int) - ((s.l.filter fun x : Letter => x.src != nd && x.dst != nd).length : Int), 0)
set_option maxHeartbeats 2000000 in
set_option maxRecDepth 100000 in
theorem ref_dropn (F : Nat → Prop) (g : Nat) (s : RefS) (nd : Int) (w : World) (h : RefAt w F g s) (hl : s.l.length ≤ 1000000) :
    Calls Try.prog 41 #[.pointer (some ⟨g, 0, none⟩), .int .i64 nd] w fun e w' => e = .returned (.tuple #[.int .i64 (s.drop nd).2.1, .int .i64 (s.drop nd).2.2]) ∧ RefPost w F g (s.drop nd).1 w' := by
  have ha := ref_none F g s nd w h
  have H := Lib.hid h
  have HS := Lib.hid (show s.drop nd = if s.none_ nd = true then (s, 0, 30) else ({ s with l := s.l.filter fun x : Letter => x.src != nd && x.dst != nd }, (s.l.length : Int) - ((s.l.filter fun x : Letter => x.src != nd && x.dst != nd).length : Int), 0) from rfl)
  generalize s.drop nd = r at HS ⊢
  generalize s.none_ nd = q at ha HS
  cases q with
  | true =>
    obtain rfl : r = (s, 0, 30) := HS.out
    clear h HS
    go_enter Try.func41, Try.ntmps41
    go_wp2_with (fail)
    refine ha.mono ?_
    rintro e w' ⟨rfl, hw⟩
    subst hw
    go_wp2
    go_ret2
    exact ⟨rfl, RefPost.of_below H.out (Below.refl _ _)⟩
  | false =>
    obtain ⟨p, HP⟩ : ∃ p : Letter → Bool, Hid (p = fun x : Letter => x.src != nd && x.dst != nd) := ⟨_, Lib.hid rfl⟩
    rw [← HP.out] at HS
    obtain rfl : r = ({ s with l := s.l.filter p }, (s.l.length : Int) - ((s.l.filter p).length : Int), 0) := HS.out
    obtain ⟨vl, vc, bs, N, hb0, r1, r2, r3, hg', f1, f2⟩ := h
    have hglt := hb0.lt
    have hc1 := hb0.cell 1
    obtain ⟨A, c, rfl⟩ := r1.shape
    have HB := Lib.hid hb0
    have R1 := Lib.hid r1
    clear HS hb0 r1 r2 r3
    go_enter Try.func41, Try.ntmps41
    go_wp2_with (fail)
    refine ha.mono ?_
    rintro e w' ⟨rfl, hw⟩
    have hw2 := hw.symm
    subst hw2
    clear ha hw
    go_wp2
    go_loopg [6, 7] s.l.length (fun gg s6 s7 wr => ∃ (k m : Nat) (B : Option Addr) (c' : Nat), k ≤ s.l.length ∧ s.l.length - k ≤ gg ∧ s7 = .int .i64 k ∧ s6 = .slice B m c' ∧ Hid (((s.l.take k).filter p).length = m) ∧ Hid (Row wr 81 4 Letter.cells (.slice B m c') ((s.l.take k).filter p)) ∧ Hid (∀ q, (Value.slice B m c').ownBlock = some q → w.heap.size ≤ q) ∧ Hid (Below w.heap.size w wr))
    case atStart => exact ⟨0, 0, none, 0, Nat.zero_le _, by omega, rfl, rfl, Lib.hid rfl, Lib.hid (Row.nil_ ..), Lib.hid (by simp [Value.ownBlock]), Lib.hid (Below.refl _ _)⟩
    case round =>
      obtain ⟨k, m, B, c', hk, hg, rfl, rfl, HM, HR, HO, HW⟩ := hrel
      have hgr : wr.cell? ⟨g, 1, none⟩ = _ := (HW.out.cell (p := ⟨g, 1, none⟩) hglt).trans hc1
      by_cases hlt : k < s.l.length
      · have hltz : (k : Int) < (s.l.length : Int) := by omega
        have h0z : (0 : Int) ≤ (k : Int) := by omega
        have r1 := R1.out.kept (Kept.of_below HW.out fun _ => False) (fun _ _ h => h)
        obtain ⟨gb, c2, hv, hgl, hcl⟩ := r1.form (by omega)
        injection hv with hA _ hc
        subst hA hc
        have c0 := r1.cell (fun _ => rfl) k 0 hlt (by omega)
        have c1 := r1.cell (fun _ => rfl) k 1 hlt (by omega)
        have c2' := r1.cell (fun _ => rfl) k 2 hlt (by omega)
        have c3 := r1.cell (fun _ => rfl) k 3 hlt (by omega)
        have HX := Lib.hid (show (s.l.take (k + 1)).filter p = (s.l.take k).filter p ++ if p s.l[k] then [s.l[k]] else [] by
          rw [List.take_succ_eq_append_getElem hlt, List.filter_append]
          cases hq : p s.l[k] <;> simp [hq])
        generalize s.l[k] = x at c0 c1 c2' c3 HX
        simp only [Letter.cells, List.getElem?_cons_zero, List.getElem?_cons_succ, Nat.add_zero, Nat.mul_one] at c0 c1 c2' c3
        clear r1
        have hpx := Lib.hid (show p x = (x.src != nd && x.dst != nd) by rw [HP.out])
        have go : (x.src != nd) = false ∨ (x.src != nd) = true ∧ (x.dst != nd) = false ∨ (x.src != nd) = true ∧ (x.dst != nd) = true := by
          cases (x.src != nd) <;> cases (x.dst != nd) <;> simp
        rcases go with q1 | ⟨q1, q2⟩ | ⟨q1, q2⟩
        · have hx := HX.out
          rw [hpx.out, q1, Bool.false_and, if_neg (by decide), List.append_nil] at hx
          have HX2 := Lib.hid hx
          clear hx
          go_wp2
          go_roundg (s.l.length - (k + 1))
          case measure => omega
          case rel => exact ⟨k + 1, m, B, c', by omega, Nat.le_refl _, by go_num, rfl, Lib.hid (by rw [HX2.out]; exact HM.out), Lib.hid (by rw [HX2.out]; exact HR.out), HO, HW⟩
        · have hx := HX.out
          rw [hpx.out, q1, q2, Bool.and_false, if_neg (by decide), List.append_nil] at hx
          have HX2 := Lib.hid hx
          clear hx
          go_wp2
          go_roundg (s.l.length - (k + 1))
          case measure => omega
          case rel => exact ⟨k + 1, m, B, c', by omega, Nat.le_refl _, by go_num, rfl, Lib.hid (by rw [HX2.out]; exact HM.out), Lib.hid (by rw [HX2.out]; exact HR.out), HO, HW⟩
        · have hx := HX.out
          rw [hpx.out, q1, q2, Bool.and_true, if_pos rfl] at hx
          have HX2 := Lib.hid hx
          clear hx
          have hml := List.length_filter_le p (s.l.take k)
          have hle : (((s.l.take k).filter p).length + 1) * 40 ≤ 140737488355328 := by rw [List.length_take] at hml; omega
          have HLE := Lib.hid hle
          have hgs : g < wr.heap.size := World.block_lt_of_cell? _ _ hgr
          have HXc : Hid (#[Value.int .i64 x.id, .int .i64 x.src, .int .i64 x.dst, .string x.body].toList = x.cells) := Lib.hid rfl
          clear hle hml
          go_wp2_with (at_builtin; refine Row.append_list (by rfl) (.tmp 43) (.tmp 51) 76 81 (.agg #[.int .i64 0, .int .i64 0, .int .i64 0, .string ⟨#[]⟩]) 4 40 rfl Try.underlying76 info_rl rfl (by decide) (by decide) (.slice B m c') ((s.l.take k).filter p) [x] rfl ⟨wr.heap.size, 0, none⟩ 1 1 rfl (HR.out.alloc _) rfl (fun _ => rfl) (news_lit Letter.cells wr 81 x #[.int .i64 x.id, .int .i64 x.src, .int .i64 x.dst, .string x.body] HXc.out) one_letter HLE.out ?_)
          intro v1 w6 hR6 hG6 hO6
          have hl6 : ((s.l.take k).filter p ++ [x]).length = m + 1 := by rw [List.length_append, HM.out]; rfl
          obtain ⟨B1, c1', rfl⟩ := hR6.shape_n hl6
          have HL6 := Lib.hid hl6
          have HR6 := Lib.hid hR6
          have HW6 := Lib.hid ((HW.out.alloc HW.out.size (.cells #[.int .i64 x.id, .int .i64 x.src, .int .i64 x.dst, .string x.body] 81)).grown hG6 (by have := HW.out.size; simp; omega) (fun q e => HO.out q e))
          have HO6 := Lib.hid (own_ge2 hO6 HO.out (by have := HW.out.size; simp; omega))
          clear hR6 hG6 hO6 hl6
          go_wp2
          go_roundg (s.l.length - (k + 1))
          case measure => omega
          case rel => exact ⟨k + 1, m + 1, B1, c1', by omega, Nat.le_refl _, by go_num, rfl, Lib.hid (by rw [HX2.out]; exact HL6.out), Lib.hid (by rw [HX2.out]; exact HR6.out), HO6, HW6⟩
      · have hltz : ¬ ((k : Int) < (s.l.length : Int)) := by omega
        have hk2 : s.l.take k = s.l := List.take_of_length_le (by omega)
        rw [hk2] at HM HR
        have hfr := (HB.out.kept (Kept.of_below HW.out fun _ => False) (fun h => h)).frozen 1
        have hml := List.length_filter_le p s.l
        rw [HM.out] at hml
        have i1 : (0 : Int) ≤ (m : Int) := by omega
        have i2 : (m : Int) ≤ (s.l.length : Int) := by omega
        have i3 : (s.l.length : Int) ≤ 1000000 := by omega
        have HMM := Lib.hid (show ((s.l.filter p).length : Int) = (m : Int) by rw [HM.out])
        clear hk2 hml
        go_wp2
        go_ret2
        have hk : Kept wr (wr.setCell ⟨g, 1, none⟩ (.slice B m c')) (fun k => k = g) := (Kept.refl wr (fun k => k = g)).setCell (p := ⟨g, 1, none⟩) (.inl rfl) _
        exact ⟨by rw [HMM.out]; rfl, RefAt.reset (next := s.next) H.out HW.out HR.out HO.out hk (fun vl vc hb => hb.set_ 1 _)⟩
end Go.Proofs.Ytaaeiljeanfinaa
