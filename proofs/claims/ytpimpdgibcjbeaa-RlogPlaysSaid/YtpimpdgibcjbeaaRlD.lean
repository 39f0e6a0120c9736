import Derived.Test.YtpimpdgibcjbeaaRlC
namespace Go.Proofs.Ytpimpdgibcjbeaa
open Go Go.RowKit
set_option linter.unusedVariables false
set_option linter.unusedSimpArgs false

theorem LogPost.of_below {w w' : World} {F : Nat → Prop} {g : Nat} {s : LogS} (h : LogAt w F g s) (hb : Below w.heap.size w w') : LogPost w F g s w' := ⟨Kept.of_below hb F, (h.below hb).mono fun k _ h => .inl h⟩
def LogS.app (s : LogS) (x : Ent) : LogS × Int × Int :=
  if mayT x.term = false then (s, 0, 1) else if x.term < s.lastTerm then (s, 0, 150) else if 4096 < x.data.size ∨ 1048576 ≤ s.last then (s, 0, 2) else (⟨s.base, s.term, s.l ++ [x]⟩, s.last + 1, 0)
set_option maxRecDepth 100000 in
set_option maxHeartbeats 1000000 in
theorem log_append_bad (F : Nat → Prop) (g : Nat) (s : LogS) (x : Ent) (w : World) (h : LogAt w F g s) (hb0 : 0 ≤ s.base) (hb1 : s.base ≤ 1048576) (hl : s.l.length ≤ 1048576) (hs : x.data.size ≤ 140737488355328) (hbad : mayT x.term = false ∨ x.term < s.lastTerm ∨ 4096 < x.data.size ∨ 1048576 ≤ s.last) :
    Calls Try.prog 18 #[.pointer (some ⟨g, 0, none⟩), .agg #[.int .i64 x.term, .string x.data]] w fun e w' => e = .returned (.tuple #[.int .i64 0, .int .i64 (s.app x).2.2]) ∧ Below w.heap.size w w' := by
  have hlast := log_last F g s _ (h.below ((Below.refl _ w).alloc (Nat.le_refl _) (.cells #[.int .i64 x.term, .string x.data] 44))) hb0 hb1 hl
  have HA := Lib.hid (show (s.app x).2.2 = if mayT x.term = false then 1 else if x.term < s.lastTerm then 150 else 2 from by
    unfold LogS.app
    split
    · rfl
    · split
      · rfl
      · rename_i q1 q2
        rw [if_pos (by rcases hbad with h | h | h <;> first | exact absurd h q1 | exact absurd h q2 | exact h)])
  generalize (s.app x).2.2 = er at HA ⊢
  generalize s.lastTerm = lt at hlast hbad HA
  generalize s.last = la at hlast hbad
  have HBAD := Lib.hid hbad
  clear h hbad
  go_enter Try.func18, Try.ntmps18
  go_wp2_with (fail)
  refine hlast.mono ?_
  rintro e w2 ⟨rfl, hb2⟩
  clear hlast
  have hX2 := Lib.hid ((Blk.new w 44 #[.int .i64 x.term, .string x.data]).kept (Kept.of_below hb2 fun _ => False) (fun h => h))
  have x0 := hX2.out.cell 0
  have x1 := hX2.out.cell 1
  have hwW := hX2.out.lt
  have hk0 := Lib.hid (below_next ((Below.refl _ w).alloc (Nat.le_refl _) _) hb2)
  clear hb2
  go_wp2_with (fail)
  refine (may_calls x.term w2).mono ?_
  rintro e w3 ⟨rfl, hw3⟩
  obtain rfl := hw3.symm
  clear hw3
  cases hm : mayT x.term with
  | false =>
    obtain rfl : er = 1 := by have := HA.out; rw [hm, if_pos rfl] at this; exact this
    clear hm
    go_wp2
    go_ret2
    exact ⟨rfl, hk0.out⟩
  | true =>
    have HA2 := Lib.hid (show er = if x.term < lt then 150 else 2 from by have := HA.out; rw [hm, if_neg (by simp)] at this; exact this)
    by_cases h1 : x.term < lt
    · obtain rfl : er = 150 := by have := HA2.out; rw [if_pos h1] at this; exact this
      clear hm
      go_wp2
      go_ret2
      exact ⟨rfl, hk0.out⟩
    · obtain rfl : er = 2 := by have := HA2.out; rw [if_neg h1] at this; exact this
      have h2 : lt ≤ x.term := by omega
      by_cases h3 : 4096 < x.data.size
      · have h4 : (4096 : Int) < (x.data.size : Int) := by omega
        clear hm h1 h3
        go_wp2
        go_ret2
        exact ⟨rfl, hk0.out⟩
      · have h4 : (x.data.size : Int) ≤ 4096 := by omega
        have h5 : 1048576 ≤ la := by rcases HBAD.out with h | h | h | h <;> first | (rw [hm] at h; cases h) | omega
        clear hm h1 h3
        go_wp2
        go_ret2
        exact ⟨rfl, hk0.out⟩
theorem log_append (F : Nat → Prop) (g : Nat) (s : LogS) (x : Ent) (w : World) (h : LogAt w F g s) (hb0 : 0 ≤ s.base) (hl : s.last ≤ 1048576) (hs : x.data.size ≤ 140737488355328) :
    Calls Try.prog 18 #[.pointer (some ⟨g, 0, none⟩), .agg #[.int .i64 x.term, .string x.data]] w fun e w' => e = .returned (.tuple #[.int .i64 (s.app x).2.1, .int .i64 (s.app x).2.2]) ∧ LogPost w F g (s.app x).1 w' := by
  have hll : s.base + (s.l.length : Int) ≤ 1048576 := hl
  by_cases hbad : mayT x.term = false ∨ x.term < s.lastTerm ∨ 4096 < x.data.size ∨ 1048576 ≤ s.last
  · have e1 : (s.app x).1 = s ∧ (s.app x).2.1 = 0 := by
      unfold LogS.app
      split
      · exact ⟨rfl, rfl⟩
      · split
        · exact ⟨rfl, rfl⟩
        · rename_i q1 q2
          rw [if_pos (by rcases hbad with h | h | h <;> first | exact absurd h q1 | exact absurd h q2 | exact h)]
          exact ⟨rfl, rfl⟩
    rw [e1.1, e1.2]
    refine (log_append_bad F g s x w h hb0 (by omega) (by omega) hs hbad).mono ?_
    rintro e w' ⟨rfl, hb⟩
    exact ⟨rfl, .of_below h hb⟩
  · have e1 : s.app x = (⟨s.base, s.term, s.l ++ [x]⟩, s.last + 1, 0) := by
      unfold LogS.app
      rw [if_neg (fun h => hbad (.inl h)), if_neg (fun h => hbad (.inr (.inl h))), if_neg (fun h => hbad (.inr (.inr h)))]
    rw [e1]
    refine log_append_ok F g s x w h hb0 ?_ (by cases hm : mayT x.term with | true => rfl | false => exact absurd (.inl hm) hbad) (by omega) (by omega)
    have : ¬ 1048576 ≤ s.last := fun h => hbad (.inr (.inr (.inr h)))
    unfold LogS.last at this
    omega
end Go.Proofs.Ytpimpdgibcjbeaa
