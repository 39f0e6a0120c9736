import Derived.Test.YtcpenjbgiecgnaaBkQ
namespace Go.Proofs.Ytcpenjbgiecgnaa
open Go Go.RowKit
open Go.Proofs.Ytcpenjbgiecgnaa.PAll (S62 fN fT)
set_option linter.unusedVariables false
set_option linter.unusedSimpArgs false
set_option maxRecDepth 100000

/-! Load. -/
theorem rise_unique : ∀ {a b : List Int}, a.Pairwise (· < ·) → b.Pairwise (· < ·) → (∀ x, x ∈ a ↔ x ∈ b) → a = b
  | [], [], _, _, _ => rfl
  | [], y :: b, _, _, h => absurd ((h y).2 (by simp)) (by simp)
  | x :: a, [], _, _, h => absurd ((h x).1 (by simp)) (by simp)
  | x :: a, y :: b, ha, hb, h => by
    obtain ⟨a1, a2⟩ := List.pairwise_cons.1 ha
    obtain ⟨b1, b2⟩ := List.pairwise_cons.1 hb
    have hxy : x = y := by
      rcases List.mem_cons.1 ((h x).1 (by simp)) with e | e
      · exact e
      · rcases List.mem_cons.1 ((h y).2 (by simp)) with e' | e'
        · exact e'.symm
        · have := b1 x e
          have := a1 y e'
          omega
    subst hxy
    congr 1
    refine rise_unique a2 b2 (fun z => ⟨fun hz => ?_, fun hz => ?_⟩)
    · rcases List.mem_cons.1 ((h z).1 (List.mem_cons_of_mem _ hz)) with e | e
      · have := a1 z hz
        omega
      · exact e
    · rcases List.mem_cons.1 ((h z).2 (List.mem_cons_of_mem _ hz)) with e | e
      · have := b1 z hz
        omega
      · exact e
theorem IsCl.unique {S : Int → List Int} {a b : List Int} (ha : IsCl S a) (hb : IsCl S b) : a = b := rise_unique ha.1 hb.1 (fun x => (ha.2 x).trans (hb.2 x).symm)
theorem neq_fault (w : World) : (binOp .neq 36 (.agg #[.int .i64 0, .int .i64 0]) (.agg #[.int .i64 0, .int .i64 0])).run Try.prog w = .ok (.bool false) w := by
  have u3 := Try.underlying3
  have a3 := Try.isAgg3
  have z3 := Try.sizeOf3
  have u9 := Try.underlying26
  have a9 := Try.isAgg26
  have z9 := Try.sizeOf26
  have hS : Try.prog.underlying 36 = some (.struct (Try.prog.fieldsOf 36)) := by kernel_rfl
  have hp : Try.prog.stoodInHeld 36 = false := by kernel_rfl
  rw [run_neq_struct, show (10000 : Nat) = 9999 + 1 from rfl, run_equalIn_agg w 9999 36 _ _ hS hp]
  simp only [Program.fieldsOf, Try.underlying36]
  go_simp
set_option maxHeartbeats 8000000 in
theorem bk_load (d : Nat) (S : Int → List Int) (cs : List Int) (w : World) (hS : Small S) (hcl : IsCl S cs) (hr : ∀ c, (S c).Pairwise (· < ·)) (hd : ∀ c, (S c).length ≤ d) (hd1 : 1 ≤ d) (hd64 : d ≤ 64) :
    Calls Try.prog 15 #[.int .i64 d, .string (saveT d S cs)] w fun e w' => ∃ g, e = .returned (.tuple #[.pointer (some ⟨g, 0, none⟩), .int .i64 0]) ∧ ∃ F nb, BkAt w' F g d nb S ∧ nb ≤ 256 ∧ Below w.heap.size w w' ∧ ∀ k, F k → w.heap.size ≤ k := by
  have hc := bk_new d w hd1 hd64
  have he := neq_fault
  obtain ⟨tx, HT⟩ : ∃ tx, Hid (saveT d S cs = tx) := ⟨_, Lib.hid rfl⟩
  rw [HT.out]
  go_enter Try.func15, Try.ntmps15
  go_wp2_with (fail)
  refine hc.mono ?_
  rintro e w1 ⟨g, rfl, F, h1, h2, h3⟩
  have B1 := Lib.hid h1
  have L1 := Lib.hid h2
  have F1 := Lib.hid h3
  have hc := code_dec tx (bookF d S cs) w1 HT.out.symm (book_fit hS hcl hd64) (by have := bookF_len (d := d) hS hcl; omega) (book_enc hS hcl hd64)
  clear h1 h2 h3
  go_wp2_with (fail)
  refine hc.mono ?_
  rintro e w2 ⟨v, rfl, hR, hb2, hf2⟩
  obtain ⟨gv, cv, rfl, hgv, hcv⟩ := hR.form (by unfold bookF; simp)
  have hg2 : w1.heap.size ≤ gv := hf2 gv (by simp [Value.ownBlock])
  obtain ⟨n, HN⟩ : ∃ n, Hid ((bookF d S cs).length = n) := ⟨_, Lib.hid rfl⟩
  have hn1 : 1 ≤ n := by rw [← HN.out]; unfold bookF; simp
  rw [HN.out] at hR hcv ⊢
  have BF := Lib.hid (Blk.new w2 36 #[.int .i64 0, .int .i64 0])
  have B3 := Lib.hid ((B1.out.below hb2).below ((Below.refl _ _).alloc (Nat.le_refl _) (.cells #[.int .i64 0, .int .i64 0] 36)))
  have L3 := Lib.hid ((L1.out.trans (hb2.mono L1.out.size)).alloc (Nat.le_trans L1.out.size hb2.size) (.cells #[.int .i64 0, .int .i64 0] 36))
  have R3 := Lib.hid (QRow.of_row (hR.alloc (.cells #[.int .i64 0, .int .i64 0] 36)))
  have y0 := BF.out.cell 0
  have y1 := BF.out.cell 1
  have hF1 := Lib.hid B1.out.lt
  have hw3 : (w2.alloc (.cells #[.int .i64 0, .int .i64 0] 36)).heap.size = w2.heap.size + 1 := World.size_alloc ..
  have hz0 : ¬ ((n : Int) = 0) := by omega
  have hz1 : (1 : Int) ≤ (n : Int) := by omega
  have hz2 : n ≤ cv := hcv
  have hz3 : ((n : Nat) : Int) ≤ (cv : Int) := by omega
  have HSF := Lib.hid (VRow.suffix (gq := gv) (o := 0) (n := n) (cc := cv) (by rw [Nat.zero_mul]; exact R3.out) HN.out hz2 (by obtain ⟨_, _, e, _, h⟩ := R3.out.shape; injection e with _ _ e; rw [e]; exact h) 1 hn1 (by omega))
  rw [show (bookF d S cs).drop 1 = cs.flatMap (cliA S) from rfl] at HSF
  have HRD := Lib.hid (fun (v : Value) (W : World) (hb : BkAt W F g d 0 (fun _ => [])) (hv : VRow W v (cs.flatMap (cliA S))) (ho : ∀ k, v.ownBlock = some k → ¬ F k) (hl : ∀ k, v.ownBlock = some k → k < W.heap.size) => bk_read F g d 0 _ S cs v W hb hv ho hl hS hcl hr hd hd1 hd64)
  have HSV := Lib.hid (fun (W : World) (F' : Nat → Prop) (nb : Nat) (hb : BkAt W F' g d nb S) (hn : nb ≤ 256) => bk_save F' g d nb S W hb (by omega) hd64 hS)
  have HCL := Lib.hid hcl
  clear hc hR hb2 hf2 B1 L1 hcv hS hcl hr hd
  have hcc : cv = 1 ∨ ¬ cv = 1 := by omega
  rcases hcc with hcc | hcc
  all_goals
    first | (subst hcc; obtain rfl : n = 1 := (by omega); rw [if_pos rfl] at HSF) | (rw [if_neg hcc] at HSF)
    have hc := HRD.out _ _ B3.out HSF.out (fun k e hF => by have e9 : gv = k := (by simpa [Value.ownBlock] using e); have := hF1.out k hF; omega) (fun k e => by have e9 : gv = k := (by simpa [Value.ownBlock] using e); omega)
    simp only [Nat.zero_mul, Nat.one_mul, Nat.zero_add, Nat.sub_self] at hc
    go_wp2_with (fail)
    refine hc.mono ?_
    rintro e w4 ⟨rfl, F', nb', h4, hn4, hk4, hg4⟩
    have B4 := Lib.hid h4
    have L4 := Lib.hid (L3.out.trans (hk4.below (by have := L3.out.size; exact this) (fun k hk hF => by have := F1.out k hF; omega)))
    have G4 := Lib.hid (fun k (hF : F' k) => (show w.heap.size ≤ k from by
      rcases hg4 k hF with h | h
      · exact F1.out k h
      · have := L3.out.size
        omega))
    have hc := HSV.out w4 F' nb' h4 hn4
    clear h4 hk4 hg4 HSF HRD
    go_wp2_with (fail)
    refine hc.mono ?_
    rintro e w5 ⟨cs', rfl, hcs', hb5⟩
    obtain rfl := hcs'.unique HCL.out
    rw [HT.out]
    go_wp2
    go_ret2
    exact ⟨g, rfl, F', nb', B4.out.below hb5, hn4, L4.out.trans (hb5.mono L4.out.size), G4.out⟩
end Go.Proofs.Ytcpenjbgiecgnaa
