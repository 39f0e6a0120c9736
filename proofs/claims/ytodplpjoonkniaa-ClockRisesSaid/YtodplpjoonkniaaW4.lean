import Derived.Test.YtodplpjoonkniaaW3
namespace Go.Proofs.Ytodplpjoonkniaa
open Go Go.RowKit
set_option linter.unusedVariables false
set_option linter.unusedSimpArgs false

theorem all_bad (g b : Nat) (x0 : Int) (l : List Int) (wd n : Int) (w : World) (h : Clk w g b (x0 :: l) wd) (hl : l.length ≤ 16) (hn : n < 0) :
    Calls Try.prog 11 #[.pointer (some ⟨g, 0, none⟩), .int .i64 n] w fun e w' => e = .returned (.int .i64 1) ∧ w = w' := by
  clear h
  go_enter Try.func11, Try.ntmps11
  go_wp2
  go_ret
  exact ⟨rfl, rfl⟩

theorem all_long (g b : Nat) (x0 : Int) (l : List Int) (wd n : Int) (w : World) (h : Clk w g b (x0 :: l) wd) (hl : l.length ≤ 16) (hn : 0 ≤ n) (hm0 : 0 ≤ maxL x0 l) (hm1 : maxL x0 l ≤ 1073741824) (hm : n > 1073741824 - maxL x0 l) :
    Calls Try.prog 11 #[.pointer (some ⟨g, 0, none⟩), .int .i64 n] w fun e w' => e = .returned (.int .i64 2) ∧ w = w' := by
  obtain ⟨⟨c, h1⟩, h2⟩ := h
  have hc : w.cell? ⟨g, 0, none⟩ = some (.slice (some ⟨b, 0, none⟩) (l.length + 1) c) := h1.cell 0
  have HH := Lib.hid (max_calls b c x0 l w h2 hl)
  clear h1 h2
  obtain ⟨M, hM⟩ : ∃ M, maxL x0 l = M := ⟨_, rfl⟩
  rw [hM] at hm0 hm1 hm HH
  clear hM
  go_enter Try.func11, Try.ntmps11
  go_wp2_with (go_at_call 23; refine HH.out.mono ?_; rintro e w' ⟨rfl, rfl⟩)
  go_ret
  exact ⟨rfl, rfl⟩

def addK (n : Int) (k : Nat) (ts : List Int) : List Int := (ts.take k).map (· + n) ++ ts.drop k
theorem addK_length (n : Int) (k : Nat) (ts : List Int) : (addK n k ts).length = ts.length := by simp [addK]; omega
theorem addK_get (n : Int) (k : Nat) (ts : List Int) (x : Int) (h : ts[k]? = some x) : (addK n k ts)[k]? = some x := by
  have hk : k < ts.length := (List.getElem?_eq_some_iff.1 h).1
  unfold addK
  rw [List.getElem?_append_right (by simp; omega)]
  simp [Nat.min_eq_left (Nat.le_of_lt hk), h]
theorem addK_set (n : Int) (k : Nat) (ts : List Int) (x : Int) (h : ts[k]? = some x) : (addK n k ts).set k (x + n) = addK n (k + 1) ts := by
  have hk : k < ts.length := (List.getElem?_eq_some_iff.1 h).1
  have hx : ts[k] = x := by rw [List.getElem?_eq_getElem hk] at h; injection h
  unfold addK
  rw [List.set_append_right _ _ (by simp; omega), List.take_succ_eq_append_getElem hk, List.drop_eq_getElem_cons hk, hx]
  simp [Nat.min_eq_left (Nat.le_of_lt hk)]
theorem addK_all (n : Int) (ts : List Int) : addK n ts.length ts = ts.map (· + n) := by simp [addK]

theorem all_ok (g b : Nat) (x0 : Int) (l : List Int) (wd n : Int) (w : World) (h : Clk w g b (x0 :: l) wd) (hl : l.length ≤ 16) (hn : 0 ≤ n) (hm0 : 0 ≤ maxL x0 l) (hm1 : maxL x0 l ≤ 1073741824) (hm : n ≤ 1073741824 - maxL x0 l)
    (hr : ∀ x ∈ x0 :: l, 0 ≤ x ∧ x + n ≤ 1073741824) :
    Calls Try.prog 11 #[.pointer (some ⟨g, 0, none⟩), .int .i64 n] w fun e w' => e = .returned (.int .i64 0) ∧ Clk w' g b ((x0 :: l).map (· + n)) wd ∧ Kept w w' (fun k => k = b) := by
  have hne := h.ne
  have h' := h
  obtain ⟨⟨c, h1⟩, h2⟩ := h
  have hc : w.cell? ⟨g, 0, none⟩ = some (.slice (some ⟨b, 0, none⟩) (l.length + 1) c) := h1.cell 0
  have HH := Lib.hid (max_calls b c x0 l w h2 hl)
  obtain ⟨M, hM⟩ : ∃ M, maxL x0 l = M := ⟨_, rfl⟩
  rw [hM] at hm0 hm1 hm HH
  clear hM
  have H1 := Lib.hid h1
  have H2 := Lib.hid h2
  have HR := Lib.hid hr
  have HN := Lib.hid hne
  clear h1 h2 hr hne h'
  have hn2 : n ≤ 1073741824 := by omega
  go_enter Try.func11, Try.ntmps11
  go_wp2_with (go_at_call 23; refine HH.out.mono ?_; rintro e w' ⟨rfl, hw⟩; obtain rfl := hw.symm; clear hw)
  go_loopw [25, 5] (fun i v wr => ∃ k : Nat, k ≤ l.length + 1 ∧ i = .int .i64 k ∧ Hid (Ints wr b (addK n k (x0 :: l))) ∧ Hid (Kept w wr (fun j => j = b))) (fun i _ _ => l.length + 1 - (intOf i).toNat)
  case atStart => exact ⟨0, by omega, rfl, H2.out, Kept.refl _ _⟩
  case round =>
    obtain ⟨k, hk, rfl, HI, HK⟩ := hrel
    have hcr : wr.cell? ⟨g, 0, none⟩ = some (.slice (some ⟨b, 0, none⟩) (l.length + 1) c) := by rw [HK.out.cell (H1.out.lt) HN.out]; exact hc
    by_cases hlt : k < l.length + 1
    · obtain ⟨x, hx⟩ : ∃ x, (x0 :: l)[k]? = some x := ⟨_, List.getElem?_eq_getElem (by simpa using hlt)⟩
      have hxr := HR.out x (List.mem_of_getElem? hx)
      have h0 : 0 ≤ x := hxr.1
      have h1 : x + n ≤ 1073741824 := hxr.2
      have hcx : wr.cell? ⟨b, k, none⟩ = some (.int .i64 x) := HI.out.cell (addK_get n k _ x hx)
      have hfx : wr.frozen? ⟨b, k, none⟩ = false := HI.out.frozen k
      have HX := Lib.hid hx
      clear hx hxr
      go_wp2
      go_roundw
      case rel =>
        refine ⟨k + 1, by omega, by go_num, ?_, ?_⟩
        · have := HI.out.set_ k (by rw [addK_length]; simpa using hlt) (x + n)
          rw [addK_set n k _ x HX.out] at this
          exact this
        · exact HK.out.setCell (.inl rfl) _
      case measure => simp [intOf]; omega
    · go_wp2
      go_ret
      have e : k = (x0 :: l).length := by simp; omega
      have hI := HI.out
      rw [e, addK_all] at hI
      exact ⟨rfl, ⟨⟨c, by simpa using H1.out.kept HK.out HN.out⟩, hI⟩, HK.out⟩

theorem draw_bad (g : Nat) (n : Int) (w : World) (hn : n < 1 ∨ 2147483648 < n) :
    Calls Try.prog 15 #[.pointer (some ⟨g, 0, none⟩), .int .i64 n] w fun e w' => e = .returned (.tuple #[.int .i64 0, .int .i64 1]) ∧ w = w' := by
  by_cases h : n < 1
  · clear hn
    go_enter Try.func15, Try.ntmps15
    go_wp2
    go_ret2
    exact ⟨rfl, rfl⟩
  · have h2 : 2147483648 < n := by omega
    clear hn
    go_enter Try.func15, Try.ntmps15
    go_wp2
    go_ret2
    exact ⟨rfl, rfl⟩
theorem draw_ok (g b : Nat) (ts : List Int) (wd n : Int) (w : World) (h : Clk w g b ts wd) (h1 : 1 ≤ n) (h2 : n ≤ 2147483648) :
    Calls Try.prog 15 #[.pointer (some ⟨g, 0, none⟩), .int .i64 n] w fun e w' => e = .returned (.tuple #[.int .i64 (wrap64 ((mix (nxt wd)).tmod n)), .int .i64 0]) ∧ w' = w.setCell ⟨g, 1, none⟩ (.int .u64 (nxt wd)) := by
  obtain ⟨⟨c, hb⟩, _⟩ := h
  have HH := Lib.hid (next_calls g _ wd w hb)
  obtain ⟨m, hm⟩ : ∃ m, mix (nxt wd) = m := ⟨_, rfl⟩
  rw [hm] at HH ⊢
  clear hm hb
  go_enter Try.func15, Try.ntmps15
  go_wp2_with (go_at_call 27; refine HH.out.mono ?_; rintro e w' ⟨rfl, rfl⟩)
  go_ret2
  exact ⟨rfl, rfl⟩
end Go.Proofs.Ytodplpjoonkniaa
