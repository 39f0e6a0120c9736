import Derived.Test.YtdfdlajfjcakaaaGreatCnM
import Derived.Test.YtdfdlajfjcakaaaGreatKV
namespace Go.Proofs.YtdfdlajfjcakaaaGreat
open Go Go.RowKit
open Go.Proofs.YtdfdlajfjcakaaaGreatW.PrintLast
set_option linter.unusedVariables false
set_option linter.unusedSimpArgs false
set_option maxRecDepth 100000

/-! wrong, Config: of orders that rise. -/
set_option maxHeartbeats 2000000 in
theorem min_calls (v : Value) (l : List Int) (lo hi : Int) (w : World) (h : SegG w icell v l) (h1 : 1 ≤ l.length) (hl : l.length ≤ 1000) (hall : ∀ z ∈ l, lo ≤ z ∧ z ≤ hi) :
    Calls Tryz.prog 54 #[v] w fun e w' => (∃ z, e = .returned (.int .i64 z) ∧ lo ≤ z ∧ z ≤ hi) ∧ w' = w := by
  obtain ⟨A, c, rfl, hc, hmx⟩ := h.shape
  have HH := Lib.hid h
  have HA := Lib.hid hall
  obtain ⟨n, HN⟩ : ∃ n, Hid (l.length = n) := ⟨_, Lib.hid rfl⟩
  have hn : n ≤ 1000 := by rw [← HN.out]; exact hl
  have hn1 : 1 ≤ n := by rw [← HN.out]; exact h1
  rw [HN.out] at HH ⊢
  obtain ⟨ad0, rfl, y0⟩ := icell_at h (i := 0) (by omega)
  replace y0 : w.cell? ad0 = some (.int .i64 l[0]) := y0
  have hz0 := hall _ (List.getElem_mem (show 0 < l.length by omega))
  generalize l[0] = z0 at y0 hz0
  have q1 : decide ((n : Int) < 1) = false := decide_eq_false (by omega)
  have q2 : (0 : Int) < (n : Int) := by omega
  have hA0 : ad0.add 0 = ad0 := rfl
  clear h hl hc hmx hall h1
  go_enter Tryz.func54, Tryz.ntmps54
  go_wp2_with (fail)
  go_loopg [3, 4] n (fun gg s3 s4 wr => ∃ (i : Nat) (z : Int), 1 ≤ i ∧ i ≤ n ∧ n - i ≤ gg ∧ s3 = .int .i64 z ∧ s4 = .int .i64 i ∧ lo ≤ z ∧ z ≤ hi ∧ Hid (wr = w))
  case atStart => exact ⟨1, z0, by omega, by omega, by omega, rfl, by go_num, hz0.1, hz0.2, Lib.hid rfl⟩
  case round =>
    obtain ⟨i, z, hi1, hi, hgg, rfl, rfl, hz1, hz2, HW⟩ := hrel
    by_cases hlt : i < n
    · have hz : (i : Int) < (n : Int) := by omega
      have hi0 : (0 : Int) ≤ (i : Int) := by omega
      have hil : i < l.length := by have := HN.out; omega
      have hw5 : IntKind.i64.wrap ((i : Int) + 1) = ((i + 1 : Nat) : Int) := by rw [IntKind.wrap_i64]; omega
      obtain ⟨ad, hA, x0⟩ := icell_at HH.out hil
      injection hA with hA
      subst hA
      have hzi := HA.out _ (List.getElem_mem hil)
      generalize l[i] = y at x0 hzi
      have hww := HW.out
      subst hww
      go_wp2
      go_roundg (n - (i + 1))
      case measure => omega
      case rel => exact ⟨i + 1, _, by omega, by omega, Nat.le_refl _, rfl, by go_num, by omega, by omega, Lib.hid rfl⟩
    · have hz : ¬ (i : Int) < (n : Int) := by omega
      go_wp2
      go_ret
      exact ⟨⟨z, rfl, hz1, hz2⟩, HW.out⟩
set_option maxHeartbeats 2000000 in
theorem max_calls (v : Value) (l : List Int) (lo hi : Int) (w : World) (h : SegG w icell v l) (h1 : 1 ≤ l.length) (hl : l.length ≤ 1000) (hall : ∀ z ∈ l, lo ≤ z ∧ z ≤ hi) :
    Calls Tryz.prog 55 #[v] w fun e w' => (∃ z, e = .returned (.int .i64 z) ∧ lo ≤ z ∧ z ≤ hi) ∧ w' = w := by
  obtain ⟨A, c, rfl, hc, hmx⟩ := h.shape
  have HH := Lib.hid h
  have HA := Lib.hid hall
  obtain ⟨n, HN⟩ : ∃ n, Hid (l.length = n) := ⟨_, Lib.hid rfl⟩
  have hn : n ≤ 1000 := by rw [← HN.out]; exact hl
  have hn1 : 1 ≤ n := by rw [← HN.out]; exact h1
  rw [HN.out] at HH ⊢
  obtain ⟨ad0, rfl, y0⟩ := icell_at h (i := 0) (by omega)
  replace y0 : w.cell? ad0 = some (.int .i64 l[0]) := y0
  have hz0 := hall _ (List.getElem_mem (show 0 < l.length by omega))
  generalize l[0] = z0 at y0 hz0
  have q1 : decide ((n : Int) < 1) = false := decide_eq_false (by omega)
  have q2 : (0 : Int) < (n : Int) := by omega
  have hA0 : ad0.add 0 = ad0 := rfl
  clear h hl hc hmx hall h1
  go_enter Tryz.func55, Tryz.ntmps55
  go_wp2_with (fail)
  go_loopg [3, 4] n (fun gg s3 s4 wr => ∃ (i : Nat) (z : Int), 1 ≤ i ∧ i ≤ n ∧ n - i ≤ gg ∧ s3 = .int .i64 z ∧ s4 = .int .i64 i ∧ lo ≤ z ∧ z ≤ hi ∧ Hid (wr = w))
  case atStart => exact ⟨1, z0, by omega, by omega, by omega, rfl, by go_num, hz0.1, hz0.2, Lib.hid rfl⟩
  case round =>
    obtain ⟨i, z, hi1, hi, hgg, rfl, rfl, hz1, hz2, HW⟩ := hrel
    by_cases hlt : i < n
    · have hz : (i : Int) < (n : Int) := by omega
      have hi0 : (0 : Int) ≤ (i : Int) := by omega
      have hil : i < l.length := by have := HN.out; omega
      have hw5 : IntKind.i64.wrap ((i : Int) + 1) = ((i + 1 : Nat) : Int) := by rw [IntKind.wrap_i64]; omega
      obtain ⟨ad, hA, x0⟩ := icell_at HH.out hil
      injection hA with hA
      subst hA
      have hzi := HA.out _ (List.getElem_mem hil)
      generalize l[i] = y at x0 hzi
      have hww := HW.out
      subst hww
      go_wp2
      go_roundg (n - (i + 1))
      case measure => omega
      case rel => exact ⟨i + 1, _, by omega, by omega, Nat.le_refl _, rfl, by go_num, by omega, by omega, Lib.hid rfl⟩
    · have hz : ¬ (i : Int) < (n : Int) := by omega
      go_wp2
      go_ret
      exact ⟨⟨z, rfl, hz1, hz2⟩, HW.out⟩
set_option maxHeartbeats 2000000 in
theorem compact_calls (v : Value) (l : List Int) (w : World) (h : SegG w icell v l) (hl : l.length ≤ 1000) (hr : l.Pairwise (· < ·)) :
    Calls Tryz.prog 56 #[v] w fun e w' => e = .returned v ∧ Below w.heap.size w w' := by
  obtain ⟨A, c, rfl, hc, hmx⟩ := h.shape
  have HH := Lib.hid h
  have HR := Lib.hid hr
  obtain ⟨n, HN⟩ : ∃ n, Hid (l.length = n) := ⟨_, Lib.hid rfl⟩
  have hn : n ≤ 1000 := by rw [← HN.out]; exact hl
  rw [HN.out] at HH ⊢
  clear h hl hc hmx hr
  go_enter Tryz.func56, Tryz.ntmps56
  by_cases h2 : n < 2
  · have q1 : decide ((n : Int) < 2) = true := decide_eq_true (by omega)
    go_wp2
    go_ret
    exact ⟨rfl, Below.refl _ _⟩
  have q1 : decide ((n : Int) < 2) = false := decide_eq_false (by omega)
  go_wp2_with (fail)
  go_loopg [3] n (fun gg s3 wr => ∃ (i : Nat), 1 ≤ i ∧ i ≤ n ∧ n - i ≤ gg ∧ s3 = .int .i64 i ∧ Hid (Below w.heap.size w wr))
  case atStart => exact ⟨1, by omega, by omega, by omega, by go_num, Lib.hid (Below.refl _ _)⟩
  case round =>
    obtain ⟨i, hi1, hi, hgg, rfl, HB⟩ := hrel
    by_cases hlt : i < n
    · have hz : (i : Int) < (n : Int) := by omega
      have hi0 : (0 : Int) ≤ (i : Int) := by omega
      obtain ⟨j, hj⟩ : ∃ j, i = j + 1 := ⟨i - 1, by omega⟩
      have hj0 : (0 : Int) ≤ (j : Int) := by omega
      have hjn : (j : Int) < (n : Int) := by omega
      have hil : i < l.length := by have := HN.out; omega
      have hjl : j < l.length := by omega
      have hw4 : IntKind.i64.wrap ((i : Int) - 1) = (j : Int) := by rw [IntKind.wrap_i64]; omega
      have hw5 : IntKind.i64.wrap ((i : Int) + 1) = ((i + 1 : Nat) : Int) := by rw [IntKind.wrap_i64]; omega
      obtain ⟨ad, rfl, x0⟩ := icell_at (HH.out.below HB.out) hil
      obtain ⟨ad', hA, x1⟩ := icell_at (HH.out.below HB.out) hjl
      injection hA with hA
      subst hA
      have hne := List.pairwise_iff_getElem.1 HR.out j i hjl hil (by omega)
      have q2 : (l[i] == l[j]) = false := by simp; omega
      generalize l[i] = y at x0 q2
      generalize l[j] = y' at x1 q2
      clear hne hj
      go_wp2_with (fail)
      go_quiet (fail)
      go_wp2
      go_roundg (n - (i + 1))
      case measure => omega
      case rel => exact ⟨i + 1, by omega, by omega, Nat.le_refl _, by go_num, Lib.hid (below_drewN HB.out _)⟩
    · have hz : ¬ (i : Int) < (n : Int) := by omega
      go_wp2
      go_ret
      exact ⟨rfl, HB.out⟩
theorem isort_rising {l : List Int} (h : l.Pairwise (· < ·)) : isort l = l := by
  unfold isort
  refine List.mergeSort_of_pairwise ?_
  exact h.imp (fun hab => by simpa using Int.le_of_lt hab)
/-- An order that may be, written down rising. -/
structure OrderOk (l : List Int) : Prop where
  len : 1 ≤ l.length ∧ l.length ≤ 8
  rise : l.Pairwise (· < ·)
  all : ∀ z ∈ l, 0 ≤ z ∧ z ≤ 15
set_option maxHeartbeats 4000000 in
theorem wrong_calls (ep : Int) (v : Value) (l : List Int) (w : World) (h : Row w 3 1 icell v l) (ho : OrderOk l) (he : 1 ≤ ep ∧ ep ≤ 1073741824) :
    Calls Tryz.prog 29 #[.int .i64 ep, v] w fun e w' => e = .returned (.int .i64 0) ∧ Below w.heap.size w w' := by
  have hlen := ho.len
  obtain ⟨b, c, rfl, hbl, hcl⟩ := h.form (by omega)
  have hmin := min_calls _ l 0 15 w (SegG.of_row h) hlen.1 (by omega) ho.all
  have hmax := max_calls _ l 0 15 w (SegG.of_row h) hlen.1 (by omega) ho.all
  have HO := Lib.hid ho
  have HR := Lib.hid h
  obtain ⟨n, HN⟩ : ∃ n, Hid (l.length = n) := ⟨_, Lib.hid rfl⟩
  rw [HN.out] at hlen hmin hmax hcl ⊢
  have q1 : decide ((n : Int) < 1) = false := decide_eq_false (by omega)
  have q2 : decide ((8 : Int) < (n : Int)) = false := decide_eq_false (by omega)
  have q3 : decide (ep < 1) = false := decide_eq_false (by omega)
  have q4 : decide ((1073741824 : Int) < ep) = false := decide_eq_false (by omega)
  clear h ho
  go_enter Tryz.func29, Tryz.ntmps29
  go_wp2_with (fail)
  refine hmin.mono ?_
  rintro e w1 ⟨⟨z, rfl, hz1, hz2⟩, rfl⟩
  have q5 : decide (z < 0) = false := decide_eq_false (by omega)
  go_wp2_with (fail)
  refine hmax.mono ?_
  rintro e w2 ⟨⟨y, rfl, hy1, hy2⟩, rfl⟩
  have q6 : decide ((16 : Int) ≤ y) = false := decide_eq_false (by omega)
  clear hmin hmax hz1 hz2 hy1 hy2
  have hv := callsIn_wide.1 (values_in 10 (some ⟨b, 0, none⟩) n c w2)
  go_wp2_with (fail)
  refine hv.mono ?_
  rintro e w3 ⟨rfl, rfl⟩
  have hb3 := (Below.refl w2.heap.size w2).alloc (Nat.le_refl _) (.cells #[.slice (some ⟨b, 0, none⟩) n c] 29)
  have HB3 := Lib.hid hb3
  have hR3 := HR.out.alloc (.cells #[.slice (some ⟨b, 0, none⟩) n c] 29)
  have bS := Blk.new w2 29 #[.slice (some ⟨b, 0, none⟩) n c]
  have hcell : ∀ j, j < l.length → (w2.alloc (.cells #[.slice (some ⟨b, 0, none⟩) n c] 29)).cell? ⟨b, j, none⟩ = some (.int .i64 (l[j]?.getD 0)) := fun j hj => by
    have := hR3.cell (fun _ => rfl) j 0 hj (by decide)
    rw [Nat.mul_one, Nat.add_zero] at this
    rw [this, List.getElem?_eq_getElem hj]
    rfl
  have hst := callsIn_wide.1 (sorted_in 20 (by omega) w2.heap.size b c l (by have := HN.out; omega) (by have := HN.out; omega) _ (by rw [World.size_alloc]; omega) (by rw [World.size_alloc]; omega) (by rw [HN.out]; exact bS.cell 0) hcell)
  rw [HN.out, isort_rising HO.out.rise] at hst
  clear hR3 bS hcell hb3 hv
  go_wp2_with (fail)
  refine hst.mono ?_
  rintro e w4 ⟨g, c4, rfl, hc4, hcs, hb4⟩
  have HB4 := Lib.hid (HB3.out.trans (hb4.mono HB3.out.size))
  have hseg : SegG w4 icell (.slice (some ⟨g, 0, none⟩) n c4) l := by
    refine ⟨some ⟨g, 0, none⟩, c4, by rw [HN.out], by rw [HN.out]; exact hc4.1, hc4.2, fun _ => ⟨_, rfl, fun j u hu => ?_⟩⟩
    rw [icells_map, List.getElem?_map] at hu
    obtain ⟨z, hz, rfl⟩ := Option.map_eq_some_iff.1 hu
    obtain ⟨hjl, hz⟩ := List.getElem?_eq_some_iff.1 hz
    have := hcs j (by have := HN.out; omega)
    rw [addr0, this, List.getElem?_eq_getElem hjl, hz]
    rfl
  have hcp := compact_calls _ l w4 hseg (by have := HN.out; omega) HO.out.rise
  clear hst hb4 hcs hseg hc4
  go_wp2_with (fail)
  refine hcp.mono ?_
  rintro e w5 ⟨rfl, hb5⟩
  have HB5 := Lib.hid (HB4.out.trans (hb5.mono HB4.out.size))
  clear hcp hb5
  go_wp2
  go_ret
  exact ⟨rfl, HB5.out⟩
theorem info_ints_c : (Tryz.prog.info? 3).map (fun i => (i.zero, i.size, i.bytes)) = some (some (.int .i64 0), 1, 8) := by kernel_rfl
set_option maxHeartbeats 4000000 in
/-- slices.Clone of a stretch that is read. -/
theorem clone_ints (v : Value) (l : List Int) (w : World) (h : SegG w icell v l) (hl : l.length * 8 ≤ 140737488355328) (h1 : ∀ (x : Int), ∀ u ∈ icell x, u.oneCell' = true) (hsz : ∀ (x : Int), (icell x).length = 1) :
    Calls Tryz.prog 30 #[v] w fun e w' => ∃ v', e = .returned v' ∧ Row w' 3 1 icell v' l ∧ Below w.heap.size w w' ∧ ∀ k, v'.ownBlock = some k → w.heap.size ≤ k := by
  obtain ⟨A, c, rfl, hc, hm, hcell⟩ := h
  have he := fun (w : World) (n c : Nat) => Lib.run_eql_slice_nil (P := Tryz.prog) w 29 3 A n c 0 0 Tryz.underlying29
  cases A with
  | none =>
    obtain rfl : l = [] := by
      rcases Nat.eq_zero_or_pos l.length with h | h
      · exact List.eq_nil_of_length_eq_zero h
      · obtain ⟨ad, e, _⟩ := hcell h
        cases e
    clear hcell
    go_enter Tryz.func30, Tryz.ntmps30
    go_wp2
    go_ret
    exact ⟨_, rfl, Row.nil_ .., Below.refl _ _, fun k e => by simp [Value.ownBlock] at e⟩
  | some ad =>
    have hl0 : l.length ≤ 9223372036854775807 := by simp only [maxLen] at hm; omega
    have hn := Lib.hid (show ∀ j u, (l.flatMap icell)[j]? = some u → (w.alloc (.cells #[] 3)).cell? (ad.add j) = some u from fun j u hu => by
      rcases Nat.eq_zero_or_pos l.length with h | h
      · rw [List.eq_nil_of_length_eq_zero h] at hu; simp at hu
      · obtain ⟨ad', e, hcl⟩ := hcell h
        injection e with e
        subst e
        have := hcl j u hu
        rw [World.cell?_alloc_lt _ _ _ (World.block_lt_of_cell? w _ this)]
        exact this)
    have hm2 := Lib.hid (show Row (w.alloc (.cells #[] 3)) 3 1 icell (.slice (some ⟨w.heap.size, 0, none⟩) 0 0) [] from World.ownsRow_made w #[] 0 (Nat.zero_le _) (by decide) rfl)
    have h1' := Lib.hid h1
    have h2' := Lib.hid hsz
    have hle := Lib.hid (show (([] : List Int).length + l.length) * 8 ≤ 140737488355328 by simpa using hl)
    clear hcell h1 hsz hl hm hc
    go_enter Tryz.func30, Tryz.ntmps30
    go_wp2_with (at_builtin; refine Row.append_list (by rfl) (.tmp 5) (.tmp 6) 29 3 (.int .i64 0) 1 8 rfl Tryz.underlying29 info_ints_c rfl (by decide) (by decide) (.slice (some ⟨w.heap.size, 0, none⟩) 0 0) [] l rfl ad l.length c rfl hm2.out rfl h2'.out hn.out h1'.out hle.out ?_)
    intro v1 w1 hR hg hat
    have HR := Lib.hid hR
    have HG := Lib.hid hg
    have HA := Lib.hid hat
    clear hR hg hat
    go_wp2
    go_ret
    exact ⟨_, rfl, by simpa using HR.out, ((Below.refl _ _).alloc (Nat.le_refl _) _).grown HG.out (by simp) (fun k hk => by simp [Value.ownBlock] at hk; omega), fun k (hk : v1.ownBlock = some k) => by
      rcases HA.out with h | h
      · rw [h] at hk; simp [Value.ownBlock] at hk; omega
      · rw [h] at hk; simp at hk; omega⟩
theorem one_int : ∀ (x : Int), ∀ u ∈ icell x, u.oneCell' = true := by
  intro x u hu
  simp [icell] at hu
  subst hu
  rfl
theorem MemP.putE {w w1 : World} {g : Nat} {m : Mem} {tb : Nat} {vo vw vl vt : Value} {rw_ : List UndW} {rt : List RepW} (h : MemP w g m tb vo vw vl vt rw_ rt) (hb : Below w.heap.size w w1) {vo' : Value} {zs : List Int} (hR : Row w1 3 1 icell vo' zs) (hf : ∀ k, vo'.ownBlock = some k → w.heap.size ≤ k) (ep : Int) :
    MPost w (Foot g tb vo vw vl vt) g { m with epoch := ep, order := zs } ((w1.setCell ⟨g, 1, none⟩ (.int .i64 ep)).setCell ⟨g, 2, none⟩ vo') := by
  have h1 := h.below hb
  have hk : Kept w1 ((w1.setCell ⟨g, 1, none⟩ (.int .i64 ep)).setCell ⟨g, 2, none⟩ vo') (fun k => k = g) := ((Kept.refl w1 fun k => k = g).setCell (p := ⟨g, 1, none⟩) (.inl rfl) (.int .i64 ep)).setCell (p := ⟨g, 2, none⟩) (.inl rfl) vo'
  have hz : Frz w1 (fun k => k = g) := ⟨NoT.one h1.b (by decide), NoT.one h1.b (by decide), NoT.one h1.b (by decide)⟩
  refine ⟨_, ⟨tb, vo', vw, vl, vt, rw_, rt, { b := by simpa using (h1.b.set_ 1 (.int .i64 ep)).set_ 2 vo', o := hR.keptT hk (NoT.one h1.b (by decide)), t := h1.t.kept hk (fun e => by obtain ⟨ct, ht⟩ := h1.t.blk; subst e; exact ht.ne_ h1.b (by decide) rfl) hz.2.2, r := h1.r.keptT hk (NoT.one h1.b (by decide)), l := h1.l.keptT hk (NoT.one h1.b (by decide)), d := h1.d.keptT hk (NoT.one h1.b (by decide)), ri := h1.ri.imp (fun _ _ x => x.kept hk hz), di := h1.di.imp (fun _ _ x => x.kept hk hz) }, rfl⟩, ((Kept.of_below hb _).trans hk).mono (fun k _ e => .inl e), fun k e => ?_⟩
  rcases e with e | e | e | e | e | e
  · exact .inl (.inl e)
  · exact .inl (.inr (.inl e))
  · exact .inr (hf k e)
  · exact .inl (.inr (.inr (.inr (.inl e))))
  · exact .inl (.inr (.inr (.inr (.inr (.inl e)))))
  · exact .inl (.inr (.inr (.inr (.inr (.inr e)))))
def Mem.config (m : Mem) (ep : Int) (zs : List Int) : Mem := if ({ m with epoch := ep, order := zs } : Mem).tail = true then ({ m with epoch := ep, order := zs } : Mem).settled else { m with epoch := ep, order := zs }
set_option maxHeartbeats 4000000 in
theorem config_calls {w : World} {F : Nat → Prop} {g : Nat} {m : Mem} (h : MemAt w F g m) (hok : m.Ok) (ep : Int) (v : Value) (zs : List Int) (hv : Row w 3 1 icell v zs) (ho : OrderOk zs) (he : m.epoch < ep ∧ ep ≤ 1073741824) :
    Calls Tryz.prog 8 #[.pointer (some ⟨g, 0, none⟩), .int .i64 ep, v] w fun e w' => e = .returned (.int .i64 0) ∧ MPost w F g (m.config ep zs) w' := by
  have hep := hok.epoch
  have hwr := wrong_calls ep v zs w hv ho (by omega)
  obtain ⟨A, n, c, rfl⟩ := hv.some_slice
  have HM := Lib.hid h
  have HOK := Lib.hid hok
  have HV := Lib.hid hv
  have HO := Lib.hid ho
  have HE := Lib.hid he
  clear h hok hv ho
  go_enter Tryz.func8, Tryz.ntmps8
  go_wp2_with (fail)
  refine hwr.mono ?_
  rintro e w1 ⟨rfl, hb1⟩
  have B1 := Lib.hid hb1
  have hM1 := HM.out.below hb1
  obtain ⟨tb, vo, vw, vl, vt, rw_, rt, hM1, rfl⟩ := hM1
  have HP1 := Lib.hid hM1
  have c1 := hM1.b.cell 1
  have q1 : decide (ep ≤ m.epoch) = false := decide_eq_false (by omega)
  have hcl := clone_ints (.slice A n c) zs w1 ((SegG.of_row HV.out).below hb1) (by have := HO.out.len; omega) one_int (fun _ => rfl)
  obtain ⟨me, HME⟩ : ∃ x, Hid (m.epoch = x) := ⟨_, Lib.hid rfl⟩
  rw [HME.out] at c1 q1
  clear hwr hb1 hM1 he hep
  go_wp2_with (fail)
  refine hcl.mono ?_
  rintro e w2 ⟨v2, rfl, hr2, hb2, hf2⟩
  obtain ⟨A2, n2, c2, rfl⟩ := hr2.some_slice
  have hM2 := HP1.out.below hb2
  have d1 := hM2.b.cell 1
  have d2 := hM2.b.cell 2
  have e1 := hM2.b.frozen 1
  have e2 := hM2.b.frozen 2
  have hgl := hM2.b.lt
  obtain ⟨oA, on, oc, hvo⟩ := hM2.o.some_slice
  have HPE := Lib.hid (HP1.out.putE hb2 hr2 hf2 ep)
  clear hcl hr2 hb2 hf2 hM2 c1
  go_wp2_with (fail)
  have hp := HPE.out
  generalize (w2.setCell ⟨g, 1, none⟩ (.int .i64 ep)).setCell ⟨g, 2, none⟩ (.slice A2 n2 c2) = w3 at *
  obtain ⟨F3, hm3, hk3, hf3⟩ := hp
  have HM3 := Lib.hid hm3
  have HK3 := Lib.hid hk3
  have HF3 := Lib.hid hf3
  have hord : ({ m with epoch := ep, order := zs } : Mem).order.length ≤ 1000 := by have := HO.out.len; show zs.length ≤ 1000; omega
  have hta := tail_calls hm3 hord
  have HORD := Lib.hid hord
  clear hm3 hk3 hf3 d1 d2 e1 e2 hgl hord
  go_wp2_with (fail)
  refine hta.mono ?_
  rintro e w4 ⟨rfl, hb4⟩
  have HB4 := Lib.hid hb4
  have hm4 := HM3.out.below hb4
  cases ht : ({ m with epoch := ep, order := zs } : Mem).tail with
  | false =>
    have HC := Lib.hid (show m.config ep zs = { m with epoch := ep, order := zs } by unfold Mem.config; rw [if_neg (by rw [ht]; decide)])
    clear hta hb4
    go_wp2
    go_ret
    exact ⟨rfl, by rw [HC.out]; exact MPost.from_ B1.out (MPost.join HK3.out HF3.out (MPost.mk0 HM3.out HB4.out))⟩
  | true =>
    have HC := Lib.hid (show m.config ep zs = ({ m with epoch := ep, order := zs } : Mem).settled by unfold Mem.config; rw [if_pos ht])
    have hst := settle_calls hm4 HORD.out (show Num63 ep by have := HE.out; have := HOK.out.epoch; exact ⟨by omega, by omega⟩) HOK.out.bb HOK.out.ww HOK.out.oo (by have := HOK.out.told; show m.told.length ≤ _; omega)
    clear hta hb4 hm4 ht
    go_wp2_with (fail)
    refine hst.mono ?_
    rintro e w5 ⟨rfl, h5⟩
    have H5 := Lib.hid h5
    clear hst h5
    go_wp2
    go_ret
    exact ⟨rfl, by rw [HC.out]; exact MPost.from_ B1.out (MPost.join HK3.out HF3.out (MPost.from_ HB4.out H5.out))⟩
end Go.Proofs.YtdfdlajfjcakaaaGreat
