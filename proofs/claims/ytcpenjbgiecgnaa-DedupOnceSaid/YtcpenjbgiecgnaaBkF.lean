import Derived.Test.YtcpenjbgiecgnaaBkFa
namespace Go.Proofs.Ytcpenjbgiecgnaa
open Go Go.RowKit
open Go.Proofs.YtcpenjbgiecgnaaW.PrintWords Go.Proofs.YtcpenjbgiecgnaaW.PrintLast Go.Proofs.YtcpenjbgiecgnaaW.PrintMore
open Go.Proofs.Ytcpenjbgiecgnaa.PAll (S59 k59)
set_option linter.unusedVariables false
set_option linter.unusedSimpArgs false
set_option maxRecDepth 100000

/-! A book of the call's own; the chapter's example. -/
structure LB (w0 w : World) (F : Nat → Prop) (g d nb : Nat) (S : Int → List Int) : Prop where
  bk : BkAt w F g d nb S
  own : ∀ k, F k → w0.heap.size ≤ k
  h : Below w0.heap.size w0 w
section
variable {w0 w w' : World} {F : Nat → Prop} {g d nb : Nat} {S : Int → List Int} {c n : Int} {rv : Value}
theorem LB.below (h : LB w0 w F g d nb S) (hb : Below w.heap.size w w') : LB w0 w' F g d nb S := ⟨h.bk.below hb, h.own, h.h.trans (hb.mono h.h.size)⟩
theorem LB.alloc (h : LB w0 w F g d nb S) (o : Obj) : LB w0 (w.alloc o) F g d nb S := h.below ((Below.refl _ _).alloc (Nat.le_refl _) o)
theorem LB.drew (h : LB w0 w F g d nb S) : LB w0 w.drew F g d nb S := h.below (Kept.below ((Kept.refl w fun _ => False).drew) (Nat.le_refl _) (fun _ _ h => h))
theorem One.below (h : One w rv n) (hb : Below w.heap.size w w') : One w' rv n := h.kept (Kept.of_below hb fun _ => False) (fun _ _ h => h)
theorem LB.noted (h : LB w0 w F g d nb S) {F' : Nat → Prop} {nb' : Nat} {S' : Int → List Int} (hb : BkAt w' F' g d nb' S') (hk : Kept w w' F) (hf : ∀ k, F' k → F k ∨ w.heap.size ≤ k) : LB w0 w' F' g d nb' S' :=
  ⟨hb, fun k e => (hf k e).elim (h.own k) (fun e => Nat.le_trans h.h.size e), h.h.trans (hk.below h.h.size (fun k hk e => absurd (h.own k e) (by omega)))⟩
theorem LB.note (h : LB w0 w F g d nb S) (hr : One w rv n) (hc : 0 ≤ c) (hc2 : c ≤ 1000) (hn : 1 ≤ n) (hn2 : n ≤ 1048576) (hd1 : 1 ≤ d) (hd : d ≤ 64) (hS : (S c).length ≤ 64) (hnb : nb < 1000000) :
    Calls Try.prog 10 #[.pointer (some ⟨g, 0, none⟩), .agg #[.int .i64 c, .int .i64 n, rv, .int .i64 0, .int .i64 0]] w fun e w' => e = .returned (.int .i64 (noteE (S c) n)) ∧ ∃ F' nb', LB w0 w' F' g d nb' (noteS d S c n) ∧ nb' ≤ nb + 1 :=
  (bk_note F g d nb S c n rv w h.bk hr hc hc2 hn hn2 hd1 hd hS hnb).mono fun e w' ⟨he, F', nb', h1, h2, h3, h4⟩ => ⟨he, F', nb', h.noted h1 h2 h3, h4⟩
theorem LB.ask (h : LB w0 w F g d nb S) (hc : 0 ≤ c) (hc2 : c ≤ 1000) (hn : 1 ≤ n) (hn2 : n ≤ 1048576) :
    Calls Try.prog 12 #[.pointer (some ⟨g, 0, none⟩), .int .i64 c, .int .i64 n] w fun e w' => LB w0 w' F g d nb S ∧ ((n ∈ S c ∧ ∃ g5 c5, e = askHit c n (.slice (some ⟨g5, 0, none⟩) 1 c5) ∧ One w' (.slice (some ⟨g5, 0, none⟩) 1 c5) n) ∨ (n ∉ S c ∧ e = askMiss (S c) n)) :=
  (bk_ask F g d nb S c n w h.bk hc hc2 hn hn2).mono fun e w' ⟨hb, hq⟩ => ⟨h.below hb, hq.imp (fun ⟨h1, rv, h2, h3, _⟩ => by
    obtain ⟨g5, c5, rfl, _⟩ := h3.form
    exact ⟨h1, g5, c5, h2, h3⟩) id⟩
theorem LB.ask_in (h : LB w0 w F g d nb S) (hc : 0 ≤ c) (hc2 : c ≤ 1000) (hn : 1 ≤ n) (hn2 : n ≤ 1048576) (hin : n ∈ S c) :
    Calls Try.prog 12 #[.pointer (some ⟨g, 0, none⟩), .int .i64 c, .int .i64 n] w fun e w' => ∃ g5 c5, e = askHit c n (.slice (some ⟨g5, 0, none⟩) 1 c5) ∧ One w' (.slice (some ⟨g5, 0, none⟩) 1 c5) n ∧ LB w0 w' F g d nb S :=
  (h.ask hc hc2 hn hn2).mono fun e w' ⟨hb, hq⟩ => hq.elim (fun ⟨_, g5, c5, h1, h2⟩ => ⟨g5, c5, h1, h2, hb⟩) (fun h => absurd hin h.1)
theorem LB.ask_out (h : LB w0 w F g d nb S) (hc : 0 ≤ c) (hc2 : c ≤ 1000) (hn : 1 ≤ n) (hn2 : n ≤ 1048576) (hin : n ∉ S c) :
    Calls Try.prog 12 #[.pointer (some ⟨g, 0, none⟩), .int .i64 c, .int .i64 n] w fun e w' => e = askMiss (S c) n ∧ LB w0 w' F g d nb S :=
  (h.ask hc hc2 hn hn2).mono fun e w' ⟨hb, hq⟩ => hq.elim (fun h => absurd h.1 hin) (fun ⟨_, h1⟩ => ⟨h1, hb⟩)
end
theorem among_calls (a b : Int) (h : 0 < b) (w : World) : Calls Try.prog 7 #[.int .i64 a, .int .i64 b] w fun e w' => e = .returned (.int .i64 (amg a b)) ∧ w' = w := by
  have h0 : (b == 0) = false := by simp; omega
  have hb : b ≠ 0 := by omega
  go_enter Try.func7, Try.ntmps7
  go_wp2
  go_ret
  exact ⟨rfl, rfl⟩
theorem ex1 : noteS 1 (fun _ => []) 3 5 3 = [5] := rfl
theorem ex2 : noteS 1 (noteS 1 (fun _ => []) 3 5) 3 7 3 = [7] := rfl
theorem ex3 : askMiss (noteS 1 (noteS 1 (fun _ => []) 3 5) 3 7 3) 5 = .returned (.tuple #[.agg #[.int .i64 0, .int .i64 0, .slice none 0 0, .int .i64 0, .int .i64 0], .bool false, .int .i64 230]) := rfl
theorem ex4 : askMiss (noteS 1 (noteS 1 (fun _ => []) 3 5) 3 7 3) 8 = .returned (.tuple #[.agg #[.int .i64 0, .int .i64 0, .slice none 0 0, .int .i64 0, .int .i64 0], .bool false, .int .i64 0]) := rfl
set_option maxHeartbeats 4000000 in
theorem works_calls (w : World) : Calls Try.prog 6 #[] w fun e w' => e = .returned (.bool true) ∧ Below w.heap.size w w' := by
  have h1 := bk_new 1 w (by decide) (by decide)
  go_enter Try.func6, Try.ntmps6
  go_wp2_with (fail)
  refine h1.mono ?_
  rintro e w1 ⟨g, rfl, F, h1, h2, h3⟩
  have P := Lib.hid (LB.mk h1 h3 h2)
  clear h1 h2 h3
  -- the first Ask
  have hc := P.out.ask_out (c := 3) (n := 5) (by decide) (by decide) (by decide) (by decide) (by simp)
  go_wp2_with (fail)
  refine hc.mono ?_
  rintro e w2 ⟨rfl, p2⟩
  have P := Lib.hid p2
  clear hc p2
  rw [show askMiss [] 5 = .returned (.tuple #[.agg #[.int .i64 0, .int .i64 0, .slice none 0 0, .int .i64 0, .int .i64 0], .bool false, .int .i64 0]) from rfl]
  have P := Lib.hid (P.out.alloc (.cells #[.int .i64 0, .int .i64 0, .slice none 0 0, .int .i64 0, .int .i64 0] 38))
  -- the first reply
  have hc := bk_reply 3 5 (w2.alloc (.cells #[.int .i64 0, .int .i64 0, .slice none 0 0, .int .i64 0, .int .i64 0] 38))
  go_wp2_with (fail)
  refine hc.mono ?_
  rintro e w3 ⟨rv, rfl, ho, hb, _⟩
  have P := Lib.hid (P.out.below hb)
  clear hc hb
  have hc := P.out.note (c := 3) (n := 5) ho (by decide) (by decide) (by decide) (by decide) (by decide) (by decide) (by decide) (by decide)
  go_wp2_with (fail)
  refine hc.mono ?_
  rintro e w4 ⟨rfl, F, nb, p4, hnb⟩
  have P := Lib.hid p4
  have N := Lib.hid hnb
  clear hc p4 hnb ho
  rw [show noteE [] 5 = 0 from rfl]
  -- Ask again
  have hc := P.out.ask_in (c := 3) (n := 5) (by decide) (by decide) (by decide) (by decide) (by rw [ex1]; simp)
  go_wp2_with (fail)
  refine hc.mono ?_
  rintro e w5 ⟨g5, c5, rfl, ho, p5⟩
  unfold askHit
  have P := Lib.hid (p5.alloc (.cells #[.int .i64 3, .int .i64 5, .slice (some ⟨g5, 0, none⟩) 1 c5, .int .i64 0, .int .i64 0] 38))
  have O := Lib.hid (ho.below ((Below.refl _ _).alloc (Nat.le_refl _) (.cells #[.int .i64 3, .int .i64 5, .slice (some ⟨g5, 0, none⟩) 1 c5, .int .i64 0, .int .i64 0] 38)))
  have X := Lib.hid (Blk.new w5 38 #[.int .i64 3, .int .i64 5, .slice (some ⟨g5, 0, none⟩) 1 c5, .int .i64 0, .int .i64 0])
  clear hc p5 ho
  go_wp2_with (fail)
  refine start_ (n := 18) (S := fun w' => w'.cell? ⟨w5.heap.size, 0, none⟩ = some (.int .i64 3) ∧ w'.cell? ⟨w5.heap.size, 1, none⟩ = some (.int .i64 5) ∧ w'.cell? ⟨w5.heap.size, 2, none⟩ = some (.slice (some ⟨g5, 0, none⟩) 1 c5) ∧ w'.cell? ⟨w5.heap.size, 3, none⟩ = some (.int .i64 0) ∧ w'.cell? ⟨w5.heap.size, 4, none⟩ = some (.int .i64 0)) (ds := [15]) #[false, false, false, false, false, false, false, false, false, false, false, false, false, false, false, false, false, false] (by kernel_rfl) rfl rfl ⟨X.out.cell 0, X.out.cell 1, X.out.cell 2, X.out.cell 3, X.out.cell 4⟩ (fun hHeld => ?_)
  refine pure_ (i := 0) (N := some 41) (v := ?_) (a' := ?_) #[true, false, false, false, false, false, false, false, false, false, false, false, false, false, false, false, false, false] rfl rfl (by kernel_rfl) (fun _ _ _ h => h) (Or.inl ⟨by rfl, ?_⟩) ?_ ?_
  rotate_left
  · intro w'
    go_simp
    with_reducible rfl
  rotate_left
  · simp only [Act.put, List.setIfInBounds_toArray, List.set_cons_zero, List.set_cons_succ, i64_w, i32_w]
    rfl
  refine pure_ (i := 1) (N := some 42) (v := ?_) (a' := ?_) #[true, true, false, false, false, false, false, false, false, false, false, false, false, false, false, false, false, false] rfl rfl (by kernel_rfl) (fun _ _ _ h => h) (Or.inl ⟨by rfl, ?_⟩) ?_ ?_
  rotate_left
  · intro w'
    go_simp
    with_reducible rfl
  rotate_left
  · simp only [Act.put, List.setIfInBounds_toArray, List.set_cons_zero, List.set_cons_succ, i64_w, i32_w]
    rfl
  refine pure_ (i := 2) (N := some 43) (v := ?_) (a' := ?_) #[true, true, true, false, false, false, false, false, false, false, false, false, false, false, false, false, false, false] rfl rfl (by kernel_rfl) (fun _ _ _ h => h) (Or.inl ⟨by rfl, ?_⟩) ?_ ?_
  rotate_left
  · intro w'
    go_simp
    with_reducible rfl
  rotate_left
  · simp only [Act.put, List.setIfInBounds_toArray, List.set_cons_zero, List.set_cons_succ, i64_w, i32_w]
    rfl
  refine pure_ (i := 3) (N := some 44) (v := ?_) (a' := ?_) #[true, true, true, true, false, false, false, false, false, false, false, false, false, false, false, false, false, false] rfl rfl (by kernel_rfl) (fun _ _ _ h => h) (Or.inl ⟨by rfl, ?_⟩) ?_ ?_
  rotate_left
  · intro w'
    go_simp
    with_reducible rfl
  rotate_left
  · simp only [Act.put, List.setIfInBounds_toArray, List.set_cons_zero, List.set_cons_succ, i64_w, i32_w]
    rfl
  refine pure_ (i := 4) (N := some 45) (v := ?_) (a' := ?_) #[true, true, true, true, true, false, false, false, false, false, false, false, false, false, false, false, false, false] rfl rfl (by kernel_rfl) (fun _ _ _ h => h) (Or.inl ⟨by rfl, ?_⟩) ?_ ?_
  rotate_left
  · intro w'
    go_simp
    with_reducible rfl
  rotate_left
  · simp only [Act.put, List.setIfInBounds_toArray, List.set_cons_zero, List.set_cons_succ, i64_w, i32_w]
    rfl
  refine pure_ (i := 5) (N := some 46) (v := ?_) (a' := ?_) #[true, true, true, true, true, true, false, false, false, false, false, false, false, false, false, false, false, false] rfl rfl (by kernel_rfl) (fun _ _ _ h => h) (Or.inl ⟨by rfl, ?_⟩) ?_ ?_
  rotate_left
  · intro w'
    go_simp
    with_reducible rfl
  rotate_left
  · simp only [Act.put, List.setIfInBounds_toArray, List.set_cons_zero, List.set_cons_succ, i64_w, i32_w]
    rfl
  refine pure_ (i := 6) (N := some 47) (v := ?_) (a' := ?_) #[true, true, true, true, true, true, true, false, false, false, false, false, false, false, false, false, false, false] rfl rfl (by kernel_rfl) (fun _ _ _ h => h) (Or.inl ⟨by rfl, ?_⟩) ?_ ?_
  rotate_left
  · intro w'
    go_simp
    with_reducible rfl
  rotate_left
  · simp only [Act.put, List.setIfInBounds_toArray, List.set_cons_zero, List.set_cons_succ, i64_w, i32_w]
    rfl
  refine take_ (i := 7) (N := some 48) (v := ?_) (a' := ?_) #[true, true, true, true, true, true, true, true, false, false, false, false, false, false, false, false, false, false] rfl rfl (by kernel_rfl) (fun _ _ _ h => h) (Or.inl ⟨by rfl, ?_⟩) hHeld ?_ ?_
  rotate_left
  · rintro w' ⟨s0, s1, s2, s3, s4⟩
    go_simp
    with_reducible rfl
  rotate_left
  · simp only [Act.put, List.setIfInBounds_toArray, List.set_cons_zero, List.set_cons_succ, i64_w, i32_w]
    rfl
  refine one_ (i := 8) (N := some 49) #[true, true, true, true, true, true, true, true, true, false, false, false, false, false, false, false, false, false] rfl rfl (by kernel_rfl) (by decide) (fun K hK => ?_)
  refine goes_ Try.func11 (by kernel_rfl) rfl #[.int .i64 3, .int .i64 5] (by rfl) rfl rfl (by simp only [List.map_toArray, List.map_cons, List.map_nil]; rfl) ?_
  with_reducible refine (bk_reply 3 5 _).mono ?_
  rintro e w6 ⟨v6, rfl, h6, hb6, _⟩
  obtain ⟨g6, c6, rfl, _, _⟩ := One.form h6
  have P6 := Lib.hid (P.out.drew.below hb6)
  have X6 := Lib.hid ((show Blk _ _ _ _ from X.out.drew).kept (Kept.of_below hb6 fun _ => False) (fun h => h))
  have O6 := Lib.hid h6
  have O5 := Lib.hid ((show One _ _ _ from One.below O.out (Kept.below ((Kept.refl _ fun _ => False).drew) (Nat.le_refl _) (fun _ _ h => h))).below hb6)
  clear h6 hb6
  refine ⟨_, rfl, ?_⟩
  refine hK.out _ _ ⟨X6.out.cell 0, X6.out.cell 1, X6.out.cell 2, X6.out.cell 3, X6.out.cell 4⟩ (fun hHeld => ?_)
  clear hK K
  refine norm_ (a' := ?_) ?_ ?_
  rotate_left
  · show Act.put _ (some 49) _ = _
    simp only [Act.put, List.setIfInBounds_toArray, List.set_cons_zero, List.set_cons_succ, i64_w, i32_w]
    rfl
  refine one_ (i := 9) (N := some 50) #[true, true, true, true, true, true, true, true, true, true, false, false, false, false, false, false, false, false] rfl rfl (by kernel_rfl) (by decide) (fun K hK => ?_)
  refine goes_ Try.func13 (by kernel_rfl) rfl #[.agg #[.int .i64 3, .int .i64 5, .slice (some ⟨g5, 0, none⟩) 1 c5, .int .i64 0, .int .i64 0], .agg #[.int .i64 3, .int .i64 5, .slice (some ⟨g6, 0, none⟩) 1 c6, .int .i64 0, .int .i64 0]] (by rfl) rfl rfl (by simp only [List.map_toArray, List.map_cons, List.map_nil]; rfl) ?_
  with_reducible refine (bk_same 3 5 g5 c5 g6 c6 O5.out O6.out).mono ?_
  rintro e w7 ⟨rfl, hb7⟩
  refine ⟨_, rfl, ?_⟩
  have P7 := Lib.hid (P6.out.below hb7)
  have X7 := Lib.hid (X6.out.kept (Kept.of_below hb7 fun _ => False) (fun h => h))
  clear hb7
  refine hK.out _ _ ⟨X7.out.cell 0, X7.out.cell 1, X7.out.cell 2, X7.out.cell 3, X7.out.cell 4⟩ (fun hHeld => ?_)
  clear hK K
  refine norm_ (a' := ?_) ?_ ?_
  rotate_left
  · show Act.put _ (some 50) _ = _
    simp only [Act.put, List.setIfInBounds_toArray, List.set_cons_zero, List.set_cons_succ, i64_w, i32_w]
    rfl
  refine pure_ (i := 10) (N := some 51) (v := ?_) (a' := ?_) #[true, true, true, true, true, true, true, true, true, true, true, false, false, false, false, false, false, false] rfl rfl (by kernel_rfl) (fun _ _ _ h => h) (Or.inl ⟨by rfl, ?_⟩) ?_ ?_
  rotate_left
  · intro w'
    go_simp
    with_reducible rfl
  rotate_left
  · simp only [Act.put, List.setIfInBounds_toArray, List.set_cons_zero, List.set_cons_succ, i64_w, i32_w]
    rfl
  refine pure_ (i := 11) (N := some 52) (v := ?_) (a' := ?_) #[true, true, true, true, true, true, true, true, true, true, true, true, false, false, false, false, false, false] rfl rfl (by kernel_rfl) (fun _ _ _ h => h) (Or.inl ⟨by rfl, ?_⟩) ?_ ?_
  rotate_left
  · intro w'
    go_simp
    with_reducible rfl
  rotate_left
  · simp only [Act.put, List.setIfInBounds_toArray, List.set_cons_zero, List.set_cons_succ, i64_w, i32_w]
    rfl
  refine pure_ (i := 12) (N := some 53) (v := ?_) (a' := ?_) #[true, true, true, true, true, true, true, true, true, true, true, true, true, false, false, false, false, false] rfl rfl (by kernel_rfl) (fun _ _ _ h => h) (Or.inl ⟨by rfl, ?_⟩) ?_ ?_
  rotate_left
  · intro w'
    go_simp
    with_reducible rfl
  rotate_left
  · simp only [Act.put, List.setIfInBounds_toArray, List.set_cons_zero, List.set_cons_succ, i64_w, i32_w]
    rfl
  refine pure_ (i := 13) (N := some 54) (v := ?_) (a' := ?_) #[true, true, true, true, true, true, true, true, true, true, true, true, true, true, false, false, false, false] rfl rfl (by kernel_rfl) (fun _ _ _ h => h) (Or.inl ⟨by rfl, ?_⟩) ?_ ?_
  rotate_left
  · intro w'
    go_simp
    with_reducible rfl
  rotate_left
  · simp only [Act.put, List.setIfInBounds_toArray, List.set_cons_zero, List.set_cons_succ, i64_w, i32_w]
    rfl
  refine one_ (i := 14) (N := some 55) #[true, true, true, true, true, true, true, true, true, true, true, true, true, true, true, false, false, false] rfl rfl (by kernel_rfl) (by decide) (fun K hK => ?_)
  refine goes_ Try.func11 (by kernel_rfl) rfl #[.int .i64 3, .int .i64 7] (by rfl) rfl rfl (by simp only [List.map_toArray, List.map_cons, List.map_nil]; rfl) ?_
  with_reducible refine (bk_reply 3 7 _).mono ?_
  rintro e w8 ⟨v8, rfl, h8, hb8, _⟩
  obtain ⟨g8, c8, rfl, _, _⟩ := One.form h8
  have P8 := Lib.hid (P7.out.below hb8)
  have X8 := Lib.hid (X7.out.kept (Kept.of_below hb8 fun _ => False) (fun h => h))
  have O8 := Lib.hid h8
  clear h8 hb8
  refine ⟨_, rfl, ?_⟩
  refine hK.out _ _ ⟨X8.out.cell 0, X8.out.cell 1, X8.out.cell 2, X8.out.cell 3, X8.out.cell 4⟩ (fun hHeld => ?_)
  clear hK K
  refine norm_ (a' := ?_) ?_ ?_
  rotate_left
  · show Act.put _ (some 55) _ = _
    simp only [Act.put, List.setIfInBounds_toArray, List.set_cons_zero, List.set_cons_succ, i64_w, i32_w]
    rfl
  refine last_ (i := 15) (N := some 56) #[true, true, true, true, true, true, true, true, true, true, true, true, true, true, true, true, false, false] rfl rfl (by kernel_rfl) (by decide) (fun K hK => ?_)
  refine goes_ Try.func10 (by kernel_rfl) rfl #[.pointer (some ⟨g, 0, none⟩), .agg #[.int .i64 3, .int .i64 7, .slice (some ⟨g8, 0, none⟩) 1 c8, .int .i64 0, .int .i64 0]] (by rfl) rfl rfl (by simp only [List.map_toArray, List.map_cons, List.map_nil]; rfl) ?_
  with_reducible refine (P8.out.note (c := 3) (n := 7) O8.out (by decide) (by decide) (by decide) (by decide) (by decide) (by decide) (by rw [ex1]; decide) (by have := N.out; omega)).mono ?_
  rintro e w9 ⟨rfl, F9, nb9, p9, hnb9⟩
  refine ⟨_, rfl, ?_⟩
  rw [ex1, show noteE [5] 7 = 0 from rfl]
  have P9 := Lib.hid p9
  clear p9 hnb9
  refine hK.out _ _ ?_
  clear hK K
  refine norm_ (a' := ?_) ?_ ?_
  rotate_left
  · show Act.put _ (some 56) _ = _
    simp only [Act.put, List.setIfInBounds_toArray, List.set_cons_zero, List.set_cons_succ, i64_w, i32_w]
    rfl
  refine pure_ (i := 16) (N := some 57) (v := ?_) (a' := ?_) #[true, true, true, true, true, true, true, true, true, true, true, true, true, true, true, true, true, false] rfl rfl (by kernel_rfl) (fun _ _ _ h => h) (Or.inl ⟨by rfl, ?_⟩) ?_ ?_
  rotate_left
  · intro w'
    go_simp
    with_reducible rfl
  rotate_left
  · simp only [Act.put, List.setIfInBounds_toArray, List.set_cons_zero, List.set_cons_succ, i64_w, i32_w]
    rfl
  refine pure_ (i := 17) (N := some 58) (v := ?_) (a' := ?_) #[true, true, true, true, true, true, true, true, true, true, true, true, true, true, true, true, true, true] rfl rfl (by kernel_rfl) (fun _ _ _ h => h) (Or.inl ⟨by rfl, ?_⟩) ?_ ?_
  rotate_left
  · intro w'
    go_simp
    with_reducible rfl
  rotate_left
  · simp only [Act.put, List.setIfInBounds_toArray, List.set_cons_zero, List.set_cons_succ, i64_w, i32_w]
    rfl
  refine done_ (by kernel_rfl) ?_
  clear P X O
  -- the older one is let go
  have hc := P9.out.ask_out (c := 3) (n := 5) (by decide) (by decide) (by decide) (by decide) (by rw [ex2]; decide)
  go_wp2_with (fail)
  refine hc.mono ?_
  rintro e w10 ⟨rfl, p2⟩
  have P := Lib.hid p2
  clear hc p2 P9
  rw [ex3]
  have hc := P.out.ask_out (c := 3) (n := 8) (by decide) (by decide) (by decide) (by decide) (by rw [ex2]; decide)
  go_wp2_with (fail)
  refine hc.mono ?_
  rintro e w11 ⟨rfl, p2⟩
  clear P hc
  rw [ex4]
  have P := Lib.hid (p2.alloc (.cells #[.int .i64 0, .int .i64 0, .slice none 0 0, .int .i64 0, .int .i64 0] 38))
  clear p2
  have hc := bk_last _ _ _ _ _ 3 _ P.out.bk (by decide) (by decide)
  rw [ex2, show lastN [7] = 7 from rfl] at hc
  go_wp2_with (fail)
  refine hc.mono ?_
  rintro e w12 ⟨rfl, rfl⟩
  go_wp2
  go_ret
  exact ⟨rfl, P.out.h⟩
end Go.Proofs.Ytcpenjbgiecgnaa
