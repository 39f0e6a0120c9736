import Derived.Test.YtodplpjoonkniaaW2
import Derived.Laws.MakeOwn
import Derived.Laws.Entries
import Derived.WalkLawsBesides
namespace Go.Proofs.Ytodplpjoonkniaa
open Go Go.RowKit
set_option linter.unusedVariables false
set_option linter.unusedSimpArgs false

theorem info3 : (Try.prog.info? 3).map (fun i => (i.zero, i.size, i.bytes)) = some (some (.int .i64 0), 1, 8) := by kernel_rfl

theorem new_bad (n seed : Int) (w : World) (hn : n < 1 ∨ 16 < n) :
    Calls Try.prog 9 #[.int .i64 n, .int .u64 seed] w fun e w' => e = .returned (.tuple #[.pointer none, .int .i64 1]) ∧ w' = w := by
  by_cases h : n < 1
  · clear hn
    go_enter Try.func9, Try.ntmps9
    go_wp2
    go_ret2
    exact ⟨rfl, rfl⟩
  · have h2 : 16 < n := by omega
    clear hn
    go_enter Try.func9, Try.ntmps9
    go_wp2
    go_ret2
    exact ⟨rfl, rfl⟩

theorem zeros_get (n i : Nat) (h : i < n) : (madeCells #[Value.int .i64 0] n)[i]? = some (.int .i64 0) := by
  simp [madeCells, h, Nat.mod_one]
theorem new_ok (n : Nat) (seed : Int) (w : World) (h1 : 1 ≤ n) (h2 : n ≤ 16) :
    Calls Try.prog 9 #[.int .i64 n, .int .u64 seed] w fun e w' => ∃ g b, e = .returned (.tuple #[.pointer (some ⟨g, 0, none⟩), .int .i64 0]) ∧ Clk w' g b (List.replicate n 0) seed ∧ w.heap.size ≤ g ∧ w.heap.size ≤ b ∧ Below w.heap.size w w' := by
  obtain ⟨i0, hi, hz0, hz1, hz2⟩ := info_parts info3
  have hmk : ∀ w : World, (Instr.makeSlice 31 (.int .i64 (n : Int)) (.int .i64 (n : Int))).run Try.prog w = .ok (.slice (some ⟨w.heap.size, 0, none⟩) n n) (w.alloc (.cells (madeCells #[Value.int .i64 0] n) 3)) := fun w => by
    have hr := run_make (P := Try.prog) w 31 3 i0 (.int .i64 0) Try.underlying31 hi hz0 .i64 .i64 n n (by omega) (by omega) (by rw [hz2]; omega) (by omega)
    simp only [Int.toNat_natCast, hz1, Nat.mul_one] at hr
    exact hr
  have g1 : (1 : Int) ≤ n := by omega
  have g2 : (n : Int) ≤ 16 := by omega
  clear hi hz0 hz1 hz2
  go_enter Try.func9, Try.ntmps9
  go_wp2
  go_ret2
  refine ⟨_, _, rfl, ⟨⟨n, by simpa using Blk.new (w.alloc _) 37 _⟩, ⟨_, (Blk.new w 3 (madeCells #[Value.int .i64 0] n)).alloc _, fun i x hx => ?_⟩⟩, by simp, by simp, ((Below.refl _ _).alloc (Nat.le_refl _) _).alloc (by simp) _⟩
  obtain ⟨hi, hx⟩ := List.getElem?_eq_some_iff.1 hx
  simp only [List.length_replicate] at hi
  simp only [List.getElem_replicate] at hx
  subst hx
  exact zeros_get n i hi

theorem ints_of_own {w : World} {base n : Nat} {v : Value} {ts : List Int} (h : w.ownsRow base 3 1 v n (ts.map (Value.int .i64))) (hn : 0 < n) :
    ∃ g cap : Nat, v = .slice (some ⟨g, 0, none⟩) n cap ∧ base ≤ g ∧ Ints w g ts := by
  rcases h.2 with ⟨_, h0⟩ | ⟨g, cap, cur, hv, hb, hh, _, _, _, htake⟩
  · omega
  · refine ⟨g, cap, hv, hb, cur, hh, fun i x hx => ?_⟩
    have hl := h.1
    simp only [List.length_map, Nat.mul_one] at hl htake
    have hi : i < n := by rw [← hl]; exact (List.getElem?_eq_some_iff.1 hx).1
    have : (cur.toList.take n)[i]? = some (Value.int .i64 x) := by rw [htake, List.getElem?_map, hx]; rfl
    rw [List.getElem?_take_of_lt hi] at this
    simpa using this

theorem clone_calls (b n c : Nat) (ts : List Int) (w : World) (h : Ints w b ts) (hl : ts.length = n) (h0 : 0 < n) (hn : n ≤ 16) :
    Calls Try.prog 26 #[.slice (some ⟨b, 0, none⟩) n c] w fun e w' => ∃ g cap : Nat, e = .returned (.slice (some ⟨g, 0, none⟩) n cap) ∧ Ints w' g ts ∧ w.heap.size ≤ g ∧ Below w.heap.size w w' := by
  obtain ⟨i0, hi, hz0, hz1, hz2⟩ := info_parts info3
  have hc : ∀ j u, (ts.map (Value.int .i64))[j]? = some u → w.cell? ((⟨b, 0, none⟩ : Addr).add j) = some u := by
    intro j u hu
    rw [List.getElem?_map] at hu
    obtain ⟨x, hx, rfl⟩ := Option.map_eq_some_iff.1 hu
    have : (⟨b, 0, none⟩ : Addr).add j = ⟨b, j, none⟩ := by unfold Addr.add; split <;> simp_all
    rw [this]
    exact h.cell hx
  have hlt := h.lt
  have HC := Lib.hid hc
  have HL := Lib.hid hl
  clear hc hl h
  go_enter Try.func26, Try.ntmps26
  have he : ∀ w : World, (binOp .eql 31 (.slice (some ⟨b, 0, none⟩) n c) (.slice none 0 0)).run Try.prog w = .ok (.bool false) w := fun _ => rfl
  go_wp2_with (at_builtin; refine hold_ ?_)
  refine Lib.hid ?_
  refine wpList_append_own _ rfl (.tmp 5) (.tmp 6) 31 rfl w.heap.size 3 i0 (.int .i64 0) 1 8 Try.underlying31 hi hz0 hz1 hz2 rfl (by decide) (.slice (some ⟨w.heap.size, 0, none⟩) 0 0) 0 [] rfl (World.ownsRow_made w #[] 0 (Nat.le_refl _) (by decide) rfl) ⟨b, 0, none⟩ n c (ts.map (Value.int .i64)) rfl ?c1 ?c2 ?c3 ?c4 ?c5 ?c6 ?_
  case c1 => simp [HL.out]
  case c2 => intro j u hu; exact (World.cell?_alloc_lt w _ _ (by unfold Addr.add; split <;> exact hlt)).trans (HC.out j u hu)
  case c3 => intro u hu; obtain ⟨x, _, rfl⟩ := List.mem_map.1 hu; rfl
  case c4 => simp only [maxLen]; omega
  case c5 => omega
  case c6 => simp
  intro v' w1 hown hg _
  have HO := Lib.hid hown
  have HG := Lib.hid hg
  clear hown hg
  go_wp2
  go_ret
  simp only [Nat.zero_add, List.nil_append] at HO
  obtain ⟨g, cap, rfl, hb, hI⟩ := ints_of_own HO.out h0
  exact ⟨g, cap, rfl, hI, hb, ((Below.refl _ _).alloc (Nat.le_refl _) _).grown HG.out (by simp) (fun k hk => by simp [Value.ownBlock] at hk; omega)⟩

/-! Now, Step, All, Draw, Fork -/
theorem Clk.ne {w : World} {g b : Nat} {ts : List Int} {wd : Int} (h : Clk w g b ts wd) : g ≠ b := by
  obtain ⟨⟨c, h1⟩, cur, h2, _⟩ := h
  exact h1.ne_ h2 (by decide)
theorem Clk.lt {w : World} {g b : Nat} {ts : List Int} {wd : Int} (h : Clk w g b ts wd) : g < w.heap.size ∧ b < w.heap.size := by
  obtain ⟨⟨c, h1⟩, h2⟩ := h
  exact ⟨h1.lt, h2.lt⟩
theorem Clk.kept {w w' : World} {g b : Nat} {ts : List Int} {wd : Int} {S : Nat → Prop} (h : Clk w g b ts wd) (hk : Kept w w' S) (hg : ¬ S g) (hb : ¬ S b) : Clk w' g b ts wd := by
  obtain ⟨⟨c, h1⟩, h2⟩ := h
  exact ⟨⟨c, h1.kept hk hg⟩, h2.kept hk hb⟩

theorem now_in (g b k : Nat) (ts : List Int) (wd x : Int) (w : World) (h : Clk w g b ts wd) (hx : ts[k]? = some x) (hn : ts.length ≤ 16) :
    Calls Try.prog 13 #[.pointer (some ⟨g, 0, none⟩), .int .i64 (k : Int)] w fun e w' => e = .returned (.tuple #[.int .i64 x, .int .i64 0]) ∧ w = w' := by
  obtain ⟨⟨c, h1⟩, h2⟩ := h
  have hc := h2.cell hx
  have hk : k < ts.length := (List.getElem?_eq_some_iff.1 hx).1
  have HH := Lib.hid (at_in g b ts.length c k _ w h1 hk hn)
  clear h1 h2 hx hn
  go_enter Try.func13, Try.ntmps13
  go_wp2_with (go_at_call 25; refine HH.out.mono ?_; rintro e w' ⟨rfl, rfl⟩)
  go_ret2
  exact ⟨rfl, rfl⟩

theorem step_in (g b k : Nat) (ts : List Int) (wd x n : Int) (w : World) (h : Clk w g b ts wd) (hx : ts[k]? = some x) (hl : ts.length ≤ 16) (h0 : 0 ≤ n) (hn : n ≤ 1073741824 - x) (hx0 : 0 ≤ x) :
    Calls Try.prog 12 #[.pointer (some ⟨g, 0, none⟩), .int .i64 (k : Int), .int .i64 n] w fun e w' => e = .returned (.tuple #[.int .i64 (x + n), .int .i64 0]) ∧ w' = w.setCell ⟨b, k, none⟩ (.int .i64 (x + n)) := by
  obtain ⟨⟨c, h1⟩, h2⟩ := h
  have hc := h2.cell hx
  have hf := h2.frozen k
  have hk : k < ts.length := (List.getElem?_eq_some_iff.1 hx).1
  have HH := Lib.hid (at_in g b ts.length c k _ w h1 hk hl)
  have hc2 : (w.setCell ⟨b, k, none⟩ (.int .i64 (x + n))).cell? ⟨b, k, none⟩ = some (.int .i64 (x + n)) := (h2.set_ k hk (x + n)).cell (by simp [hk])
  clear h1 h2 hx hl
  go_enter Try.func12, Try.ntmps12
  go_wp2_with (go_at_call 25; refine HH.out.mono ?_; rintro e w' ⟨rfl, rfl⟩)
  go_ret2
  exact ⟨rfl, rfl⟩
end Go.Proofs.Ytodplpjoonkniaa
