import Derived.Test.YtaaeiljeanfinaaNetS
namespace Go.Proofs.Ytaaeiljeanfinaa
open Go Go.RowKit
set_option linter.unusedVariables false
set_option linter.unusedSimpArgs false

/-! set -/
theorem one_bool : ∀ x : Bool, ∀ u ∈ bcells x, u.oneCell' = true := fun x u hu => by simp [bcells] at hu; subst hu; rfl
theorem Cuts.set_ {w : World} {F : Nat → Prop} {N : Nat} {bs : List Nat} {cut : List (List Bool)} (h : Cuts w F N bs cut) (a b : Nat) (ha : a < bs.length) (ha2 : a < cut.length) (hb : b < cut[a].length) (v : Bool) :
    Cuts (w.setCell ⟨bs[a], b, none⟩ (.bool v)) F N bs (setC cut a b v) := by
  have hs := (h.each a ha ha2).1.set_ (fun _ => rfl) one_bool b v hb
  have hw : w.setCells bs[a] (b * 1) (bcells v) = w.setCell ⟨bs[a], b, none⟩ (.bool v) := by rw [Nat.mul_one]; rfl
  rw [hw] at hs
  refine ⟨by unfold setC; rw [List.length_set]; exact h.len, h.nodup, fun i h1 h2 => ?_⟩
  unfold setC at h2 ⊢
  rw [List.length_set] at h2
  by_cases hi : a = i
  · subst hi
    rw [List.getElem_set_self, getD_at _ _ _ ha2]
    exact ⟨hs.1, (h.each a h1 h2).2⟩
  · rw [List.getElem_set_ne hi]
    refine ⟨(h.each i h1 h2).1.grown hs.2 (fun k e e2 => ?_), (h.each i h1 h2).2⟩
    have e3 : bs[i] = k := by simpa [Value.ownBlock] using e
    have e4 : k = bs[a] := by injection e2
    exact hi ((List.getElem_inj h.nodup).1 (e3.trans e4).symm)
def RefS.withCut (s : RefS) (a b : Nat) (v : Bool) : RefS := { s with cut := setC (setC s.cut a b v) b a v }
theorem setC_len (cut : List (List Bool)) (a b : Nat) (v : Bool) : (setC cut a b v).length = cut.length := by unfold setC; rw [List.length_set]
theorem setC_row (cut : List (List Bool)) (a b : Nat) (v : Bool) (ha : a < cut.length) : ∀ r ∈ setC cut a b v, ∃ r' ∈ cut, r.length = r'.length := by
  intro r hr
  unfold setC at hr
  rw [getD_at _ _ _ ha] at hr
  rcases List.mem_or_eq_of_mem_set hr with h | h
  · exact ⟨r, h, rfl⟩
  · exact ⟨cut[a], List.getElem_mem ha, by rw [h, List.length_set]⟩
set_option maxRecDepth 100000 in
set_option maxHeartbeats 1000000 in
theorem ref_set_in (F : Nat → Prop) (g : Nat) (s : RefS) (a b : Nat) (v : Bool) (w : World) (h : RefAt w F g s) (hw : s.wf) (ha : (a : Int) < s.nodes) (hb : (b : Int) < s.nodes) (hv : v = true → a ≠ b) :
    Calls Try.prog 53 #[.pointer (some ⟨g, 0, none⟩), .int .i64 (a : Int), .int .i64 (b : Int), .bool v] w fun e w' => e = .returned (.int .i64 0) ∧ RefPost w F g (s.withCut a b v) w' := by
  have hna := ref_none F g s a w h
  have hnb := ref_none F g s b w h
  have e1 : s.none_ a = false := by unfold RefS.none_; rw [decide_eq_false_iff_not]; omega
  have e2 : s.none_ b = false := by unfold RefS.none_; rw [decide_eq_false_iff_not]; omega
  rw [e1] at hna
  rw [e2] at hnb
  obtain ⟨vl, vc, bs, N, hb0, r1, r2, r3, hg, f1, f2⟩ := h
  have hr := hw.rows
  have hal : a < bs.length := by rw [r3.len]; omega
  have hal2 : a < s.cut.length := by omega
  have hbl : b < bs.length := by rw [r3.len]; omega
  have hbl2 : b < s.cut.length := by omega
  obtain ⟨cb, c, rfl, hcl, hcc⟩ := r2.form (by omega)
  have hca := r2.cell (fun _ => rfl) a 0 hal (by omega)
  have hcb := r2.cell (fun _ => rfl) b 0 hbl (by omega)
  simp only [scells, List.getElem?_cons_zero, Nat.mul_one, Nat.add_zero] at hca hcb
  have hrowa := (r3.each a hal hal2).1
  have hrowb := (r3.each b hbl hbl2).1
  have hla : b < s.cut[a].length := by have := hw.row _ (List.getElem_mem hal2); omega
  have hlb : a < s.cut[b].length := by have := hw.row _ (List.getElem_mem hbl2); omega
  have hN := hrowa.block.1
  have hd := hrowa.cell (fun _ => rfl) b 0 hla (by omega)
  have hd2 := hrowb.cell (fun _ => rfl) a 0 hlb (by omega)
  simp only [bcells, List.getElem?_cons_zero, Nat.mul_one, Nat.add_zero] at hd hd2
  have hfa := hrowa.frozen b
  have hfb := hrowb.frozen a
  have hc3 := hb0.cell 3
  have hne1 : cb ≠ bs[a] := fun e => r2.apart hrowa (by decide) cb rfl (by rw [e]; rfl)
  have hne2 : g ≠ bs[a] := fun e => hrowa.ne_blk hb0 (by decide) (by rw [e]; rfl)
  have hgl := hb0.lt
  have i1 : (a : Int) < (bs.length : Int) := by omega
  have i2 : (b : Int) < (bs.length : Int) := by omega
  have i3 : (b : Int) < (N : Int) := by omega
  have i4 : (a : Int) < (N : Int) := by have := hrowb.block.1; omega
  have R3 := Lib.hid ((r3.set_ a b hal hal2 hla v).set_ b a hbl (by rw [setC_len]; exact hbl2) (by
    have h3 : (setC s.cut a b v).length = s.cut.length := setC_len _ _ _ _
    obtain ⟨r', hr', e⟩ := setC_row s.cut a b v hal2 _ (List.getElem_mem (show b < (setC s.cut a b v).length by omega))
    rw [e]
    have := hw.row r' hr'
    omega) v)
  have HND := Lib.hid (show a ≠ b → bs[a] ≠ bs[b] from fun hab e => hab ((List.getElem_inj r3.nodup).1 e))
  have HB0 := Lib.hid hb0
  have R1 := Lib.hid r1
  have R2 := Lib.hid r2
  have HRA := Lib.hid hrowa
  have HRB := Lib.hid hrowb
  have HFA := Lib.hid (r3.each a hal hal2).2
  have HFB := Lib.hid (r3.each b hbl hbl2).2
  clear e1 e2 hw hr hN hrowa hrowb r1 r2 r3 hb0
  generalize s.cut[a][b] = q1 at hd
  generalize s.cut[b][a] = q2 at hd2
  have hfin : ∀ w', w' = (w.setCell ⟨bs[a], b, none⟩ (.bool v)).setCell ⟨bs[b], a, none⟩ (.bool v) → RefPost w F g (s.withCut a b v) w' := by
    rintro w' rfl
    have hk1 : Kept w ((w.setCell ⟨bs[a], b, none⟩ (.bool v)).setCell ⟨bs[b], a, none⟩ (.bool v)) (fun k => k = bs[a] ∨ k = bs[b]) := ((Kept.refl w (fun k => k = bs[a] ∨ k = bs[b])).setCell (p := ⟨bs[a], b, none⟩) (.inl (.inl rfl)) _).setCell (p := ⟨bs[b], a, none⟩) (.inl (.inr rfl)) _
    refine RefPost.kept (hk1.mono fun k _ e => e.elim (fun e => e ▸ HFA.out) (fun e => e ▸ HFB.out)) ⟨vl, _, bs, N, HB0.out.kept hk1 ?_, R1.out.kept hk1 ?_, R2.out.kept hk1 ?_, R3.out, hg, f1, f2⟩
    · rintro (e | e)
      · exact HRA.out.ne_blk HB0.out (by decide) (by rw [e]; rfl)
      · exact HRB.out.ne_blk HB0.out (by decide) (by rw [e]; rfl)
    · rintro k e (e2 | e2)
      · exact R1.out.apart HRA.out (by decide) k e (by rw [e2]; rfl)
      · exact R1.out.apart HRB.out (by decide) k e (by rw [e2]; rfl)
    · rintro k e (e2 | e2)
      · exact R2.out.apart HRA.out (by decide) k e (by rw [e2]; rfl)
      · exact R2.out.apart HRB.out (by decide) k e (by rw [e2]; rfl)
  have HFIN := Lib.hid hfin
  clear hfin
  by_cases hab : a = b
  · subst hab
    have hv2 : v = false := by cases v with | false => rfl | true => exact absurd rfl (hv rfl)
    subst hv2
    clear hv
    generalize bs[a] = ba at *
    go_enter Try.func53, Try.ntmps53
    go_wp2_with (fail)
    refine hna.mono ?_
    rintro e w' ⟨rfl, hw⟩
    subst hw
    go_wp2_with (fail)
    refine hnb.mono ?_
    rintro e w2 ⟨rfl, hw⟩
    subst hw
    go_wp2
    go_ret
    exact ⟨rfl, HFIN.out _ rfl⟩
  · have hbne := HND.out hab
    have hq : ((a : Int) == (b : Int)) = false := beq_eq_false_iff_ne.2 (by omega)
    clear hv hab
    generalize bs[a] = ba at *
    generalize bs[b] = bb at *
    have hbne2 := hbne.symm
    cases v
    all_goals
      go_enter Try.func53, Try.ntmps53
      go_wp2_with (fail)
      refine hna.mono ?_
      rintro e w' ⟨rfl, hw⟩
      subst hw
      go_wp2_with (fail)
      refine hnb.mono ?_
      rintro e w2 ⟨rfl, hw⟩
      subst hw
      go_wp2
      go_ret
      exact ⟨rfl, HFIN.out _ rfl⟩

def RefS.set_ (s : RefS) (a b : Int) (v : Bool) : RefS × Int := if (s.none_ a || s.none_ b) = true then (s, 30) else if (v && a == b) = true then (s, 4) else (s.withCut a.toNat b.toNat v, 0)
theorem ref_set (F : Nat → Prop) (g : Nat) (s : RefS) (a b : Int) (v : Bool) (w : World) (h : RefAt w F g s) (hw : s.wf) :
    Calls Try.prog 53 #[.pointer (some ⟨g, 0, none⟩), .int .i64 a, .int .i64 b, .bool v] w fun e w' => e = .returned (.int .i64 (s.set_ a b v).2) ∧ RefPost w F g (s.set_ a b v).1 w' := by
  have ha := ref_none F g s a w h
  have hb := ref_none F g s b w h
  have H := Lib.hid h
  have HS := Lib.hid (show s.set_ a b v = if (s.none_ a || s.none_ b) = true then (s, 30) else if (v && a == b) = true then (s, 4) else (s.withCut a.toNat b.toNat v, 0) from rfl)
  generalize s.set_ a b v = r at HS ⊢
  cases qa : s.none_ a with
  | true =>
    rw [qa] at ha HS
    obtain rfl : r = (s, 30) := by simpa using HS.out
    clear HS h hw qa
    go_enter Try.func53, Try.ntmps53
    go_wp2_with (fail)
    refine ha.mono ?_
    rintro e w' ⟨rfl, hw⟩
    subst hw
    go_wp2
    go_ret
    exact ⟨rfl, RefPost.of_below H.out (Below.refl _ _)⟩
  | false =>
    cases qb : s.none_ b with
    | true =>
      rw [qa] at ha HS
      rw [qb] at hb HS
      obtain rfl : r = (s, 30) := by simpa using HS.out
      clear HS h hw qa qb
      go_enter Try.func53, Try.ntmps53
      go_wp2_with (fail)
      refine ha.mono ?_
      rintro e w' ⟨rfl, hw⟩
      subst hw
      go_wp2_with (fail)
      refine hb.mono ?_
      rintro e w2 ⟨rfl, hw⟩
      subst hw
      go_wp2
      go_ret
      exact ⟨rfl, RefPost.of_below H.out (Below.refl _ _)⟩
    | false =>
      rw [qa, qb] at HS
      have hra := RefS.none_false qa
      have hrb := RefS.none_false qb
      by_cases hv : v = true ∧ a = b
      · obtain ⟨rfl, rfl⟩ := hv
        have e : r = (s, 4) := by rw [HS.out]; simp
        subst e
        rw [qa] at ha
        clear HS h hw hra hrb qa qb hb
        go_enter Try.func53, Try.ntmps53
        go_wp2_with (fail)
        refine ha.mono ?_
        rintro e w' ⟨rfl, hw⟩
        subst hw
        go_wp2_with (fail)
        refine ha.mono ?_
        rintro e w2 ⟨rfl, hw⟩
        subst hw
        go_wp2
        go_ret
        exact ⟨rfl, RefPost.of_below H.out (Below.refl _ _)⟩
      · have hq : (v && a == b) = false := by
          cases hv2 : v with
          | false => rfl
          | true => rw [Bool.true_and]; exact beq_eq_false_iff_ne.2 (fun e => hv ⟨hv2, e⟩)
        have e := HS.out
        rw [hq, if_neg (by decide), if_neg (by decide)] at e
        subst e
        obtain ⟨an, rfl⟩ := Int.eq_ofNat_of_zero_le hra.1
        obtain ⟨bn, rfl⟩ := Int.eq_ofNat_of_zero_le hrb.1
        exact ref_set_in F g s an bn v w h hw hra.2 hrb.2 (fun hv2 e => hv ⟨hv2, by rw [e]⟩)

theorem ref_part (F : Nat → Prop) (g : Nat) (s : RefS) (a b : Int) (w : World) (h : RefAt w F g s) (hw : s.wf) :
    Calls Try.prog 38 #[.pointer (some ⟨g, 0, none⟩), .int .i64 a, .int .i64 b] w fun e w' => e = .returned (.int .i64 (s.set_ a b true).2) ∧ RefPost w F g (s.set_ a b true).1 w' := by
  have hs := ref_set F g s a b true w h hw
  generalize s.set_ a b true = r at hs ⊢
  clear h hw
  go_enter Try.func38, Try.ntmps38
  go_wp2_with (fail)
  refine hs.mono ?_
  rintro e w' ⟨rfl, hp⟩
  have HP := Lib.hid hp
  clear hp
  go_wp2
  go_ret
  exact ⟨rfl, HP.out⟩
theorem ref_join (F : Nat → Prop) (g : Nat) (s : RefS) (a b : Int) (w : World) (h : RefAt w F g s) (hw : s.wf) :
    Calls Try.prog 39 #[.pointer (some ⟨g, 0, none⟩), .int .i64 a, .int .i64 b] w fun e w' => e = .returned (.int .i64 (s.set_ a b false).2) ∧ RefPost w F g (s.set_ a b false).1 w' := by
  have hs := ref_set F g s a b false w h hw
  generalize s.set_ a b false = r at hs ⊢
  clear h hw
  go_enter Try.func39, Try.ntmps39
  go_wp2_with (fail)
  refine hs.mono ?_
  rintro e w' ⟨rfl, hp⟩
  have HP := Lib.hid hp
  clear hp
  go_wp2
  go_ret
  exact ⟨rfl, HP.out⟩
end Go.Proofs.Ytaaeiljeanfinaa
