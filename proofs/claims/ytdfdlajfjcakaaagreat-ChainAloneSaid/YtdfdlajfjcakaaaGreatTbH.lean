import Derived.WalkSpells
import Derived.Test.YtdfdlajfjcakaaaGreatTbG
namespace Go.Proofs.YtdfdlajfjcakaaaGreat
open Go Go.RowKit
set_option linter.unusedVariables false
set_option linter.unusedSimpArgs false
set_option maxRecDepth 100000

/-! slices.Clone of rows and of operations. -/
theorem info_rows_c : (Tryz.prog.info? 115).map (fun i => (i.zero, i.size, i.bytes)) = some (some (.agg #[.string ⟨#[]⟩, .int .i64 0, .string ⟨#[]⟩]), 3, 40) := by kernel_rfl
set_option maxHeartbeats 4000000 in
/-- slices.Clone of a stretch that is read. -/
theorem clone_rows (v : Value) (l : List RowT) (w : World) (h : SegG w RowT.cells v l) (hl : l.length * 40 ≤ 140737488355328) (h1 : ∀ (x : RowT), ∀ u ∈ RowT.cells x, u.oneCell' = true) (hsz : ∀ (x : RowT), (RowT.cells x).length = 3) :
    Calls Tryz.prog 65 #[v] w fun e w' => ∃ v', e = .returned v' ∧ Row w' 115 3 RowT.cells v' l ∧ Below w.heap.size w w' ∧ ∀ k, v'.ownBlock = some k → w.heap.size ≤ k := by
  obtain ⟨A, c, rfl, hc, hm, hcell⟩ := h
  have he := fun (w : World) (n c : Nat) => Lib.run_eql_slice_nil (P := Tryz.prog) w 72 115 A n c 0 0 Tryz.underlying72
  cases A with
  | none =>
    obtain rfl : l = [] := by
      rcases Nat.eq_zero_or_pos l.length with h | h
      · exact List.eq_nil_of_length_eq_zero h
      · obtain ⟨ad, e, _⟩ := hcell h
        cases e
    clear hcell
    go_enter Tryz.func65, Tryz.ntmps65
    go_wp2
    go_ret
    exact ⟨_, rfl, Row.nil_ .., Below.refl _ _, fun k e => by simp [Value.ownBlock] at e⟩
  | some ad =>
    have hl0 : l.length ≤ 9223372036854775807 := by simp only [maxLen] at hm; omega
    have hn := Lib.hid (show ∀ j u, (l.flatMap RowT.cells)[j]? = some u → (w.alloc (.cells #[] 115)).cell? (ad.add j) = some u from fun j u hu => by
      rcases Nat.eq_zero_or_pos l.length with h | h
      · rw [List.eq_nil_of_length_eq_zero h] at hu; simp at hu
      · obtain ⟨ad', e, hcl⟩ := hcell h
        injection e with e
        subst e
        have := hcl j u hu
        rw [World.cell?_alloc_lt _ _ _ (World.block_lt_of_cell? w _ this)]
        exact this)
    have hm2 := Lib.hid (show Row (w.alloc (.cells #[] 115)) 115 3 RowT.cells (.slice (some ⟨w.heap.size, 0, none⟩) 0 0) [] from World.ownsRow_made w #[] 0 (Nat.zero_le _) (by decide) rfl)
    have h1' := Lib.hid h1
    have h2' := Lib.hid hsz
    have hle := Lib.hid (show (([] : List RowT).length + l.length) * 40 ≤ 140737488355328 by simpa using hl)
    clear hcell h1 hsz hl hm hc
    go_enter Tryz.func65, Tryz.ntmps65
    go_wp2_with (at_builtin; refine Row.append_list (by rfl) (.tmp 5) (.tmp 6) 72 115 (.agg #[.string ⟨#[]⟩, .int .i64 0, .string ⟨#[]⟩]) 3 40 rfl Tryz.underlying72 info_rows_c rfl (by decide) (by decide) (.slice (some ⟨w.heap.size, 0, none⟩) 0 0) [] l rfl ad l.length c rfl hm2.out rfl h2'.out hn.out h1'.out hle.out ?_)
    intro v1 w1 hR hg hat
    have HR := Lib.hid hR
    have HG := Lib.hid hg
    have HA := Lib.hid hat
    clear hR hg hat
    go_wp2
    go_ret
    exact ⟨_, rfl, by simpa using HR.out, ((Below.refl _ _).alloc (Nat.le_refl _) _).grown HG.out (by simp) (fun k hk => by simp [Value.ownBlock] at hk; omega), fun k (hk : v1.ownBlock = some k) => by
      rcases HA.out with h | h
      · rw [h] at hk; simp [Value.ownBlock] at hk; omega
      · rw [h] at hk; simp at hk; omega⟩
theorem info_ops_c : (Tryz.prog.info? 85).map (fun i => (i.zero, i.size, i.bytes)) = some (some (.agg #[.int .i64 0, .string ⟨#[]⟩, .string ⟨#[]⟩, .int .i64 0, .int .i64 0, .int .i64 0]), 6, 64) := by kernel_rfl
set_option maxHeartbeats 4000000 in
/-- slices.Clone of a stretch that is read. -/
theorem clone_ops (v : Value) (l : List OpT) (w : World) (h : SegG w OpT.cells v l) (hl : l.length * 64 ≤ 140737488355328) (h1 : ∀ (x : OpT), ∀ u ∈ OpT.cells x, u.oneCell' = true) (hsz : ∀ (x : OpT), (OpT.cells x).length = 6) :
    Calls Tryz.prog 61 #[v] w fun e w' => ∃ v', e = .returned v' ∧ Row w' 85 6 OpT.cells v' l ∧ Below w.heap.size w w' ∧ ∀ k, v'.ownBlock = some k → w.heap.size ≤ k := by
  obtain ⟨A, c, rfl, hc, hm, hcell⟩ := h
  have he := fun (w : World) (n c : Nat) => Lib.run_eql_slice_nil (P := Tryz.prog) w 37 85 A n c 0 0 Tryz.underlying37
  cases A with
  | none =>
    obtain rfl : l = [] := by
      rcases Nat.eq_zero_or_pos l.length with h | h
      · exact List.eq_nil_of_length_eq_zero h
      · obtain ⟨ad, e, _⟩ := hcell h
        cases e
    clear hcell
    go_enter Tryz.func61, Tryz.ntmps61
    go_wp2
    go_ret
    exact ⟨_, rfl, Row.nil_ .., Below.refl _ _, fun k e => by simp [Value.ownBlock] at e⟩
  | some ad =>
    have hl0 : l.length ≤ 9223372036854775807 := by simp only [maxLen] at hm; omega
    have hn := Lib.hid (show ∀ j u, (l.flatMap OpT.cells)[j]? = some u → (w.alloc (.cells #[] 85)).cell? (ad.add j) = some u from fun j u hu => by
      rcases Nat.eq_zero_or_pos l.length with h | h
      · rw [List.eq_nil_of_length_eq_zero h] at hu; simp at hu
      · obtain ⟨ad', e, hcl⟩ := hcell h
        injection e with e
        subst e
        have := hcl j u hu
        rw [World.cell?_alloc_lt _ _ _ (World.block_lt_of_cell? w _ this)]
        exact this)
    have hm2 := Lib.hid (show Row (w.alloc (.cells #[] 85)) 85 6 OpT.cells (.slice (some ⟨w.heap.size, 0, none⟩) 0 0) [] from World.ownsRow_made w #[] 0 (Nat.zero_le _) (by decide) rfl)
    have h1' := Lib.hid h1
    have h2' := Lib.hid hsz
    have hle := Lib.hid (show (([] : List OpT).length + l.length) * 64 ≤ 140737488355328 by simpa using hl)
    clear hcell h1 hsz hl hm hc
    go_enter Tryz.func61, Tryz.ntmps61
    go_wp2_with (at_builtin; refine Row.append_list (by rfl) (.tmp 5) (.tmp 6) 37 85 (.agg #[.int .i64 0, .string ⟨#[]⟩, .string ⟨#[]⟩, .int .i64 0, .int .i64 0, .int .i64 0]) 6 64 rfl Tryz.underlying37 info_ops_c rfl (by decide) (by decide) (.slice (some ⟨w.heap.size, 0, none⟩) 0 0) [] l rfl ad l.length c rfl hm2.out rfl h2'.out hn.out h1'.out hle.out ?_)
    intro v1 w1 hR hg hat
    have HR := Lib.hid hR
    have HG := Lib.hid hg
    have HA := Lib.hid hat
    clear hR hg hat
    go_wp2
    go_ret
    exact ⟨_, rfl, by simpa using HR.out, ((Below.refl _ _).alloc (Nat.le_refl _) _).grown HG.out (by simp) (fun k hk => by simp [Value.ownBlock] at hk; omega), fun k (hk : v1.ownBlock = some k) => by
      rcases HA.out with h | h
      · rw [h] at hk; simp [Value.ownBlock] at hk; omega
      · rw [h] at hk; simp at hk; omega⟩
theorem one_op : ∀ (x : OpT), ∀ u ∈ OpT.cells x, u.oneCell' = true := by
  intro x u hu
  simp [OpT.cells] at hu
  rcases hu with rfl | rfl | rfl | rfl | rfl | rfl <;> rfl
/-- Rows that are read, in a block of rows. -/
def RowsV (w : World) (v : Value) (l : List RowT) : Prop := SegG w RowT.cells v l ∧ ∀ k, v.ownBlock = some k → ∃ cs, Blk w k 115 cs
theorem RowsV.kept {w w' : World} {S : Nat → Prop} {v : Value} {l : List RowT} (h : RowsV w v l) (hk : Kept w w' S) (hS : NoRows w S) : RowsV w' v l := by
  have hn : ∀ k, v.ownBlock = some k → ¬ S k := fun k e hs' => by
    obtain ⟨cs, hc⟩ := h.2 k e
    exact hS k hs' cs hc
  exact ⟨h.1.kept hk hn, fun k e => by
    obtain ⟨cs, hc⟩ := h.2 k e
    exact ⟨cs, hc.kept hk (hn k e)⟩⟩
theorem RowsV.below {w w' : World} {v : Value} {l : List RowT} (h : RowsV w v l) (hb : Below w.heap.size w w') : RowsV w' v l := h.kept (Kept.of_below hb fun _ => False) (fun _ h => h.elim)
theorem RowsV.nil (w : World) : RowsV w (.slice none 0 0) [] := ⟨⟨none, 0, rfl, Nat.le_refl _, by decide, fun h => absurd h (Nat.lt_irrefl 0)⟩, fun k e => by simp [Value.ownBlock] at e⟩
end Go.Proofs.YtdfdlajfjcakaaaGreat
