import Derived.Test.YtpimpdgibcjbeaaRlZq
namespace Go.Proofs.Ytpimpdgibcjbeaa
open Go Go.RowKit
set_option linter.unusedVariables false
set_option linter.unusedSimpArgs false

theorem step_calls (w0 w : World) (F : Nat → Prop) (g : Nat) (G : Nat → Prop) (h : Nat) (s : LogS) (x : ActR) (H : Duo w0 w F g G h s s) (hs : s.okB) (hx : x.fits w0) :
    Calls Try.prog 20 #[.pointer (some ⟨g, 0, none⟩), .pointer (some ⟨h, 0, none⟩), .agg #[.int .i64 x.kind, .int .i64 x.pos, .int .i64 x.term, .int .i64 x.n, .slice x.LA x.L.length x.Lc, .slice x.MA x.M.length x.Mc]] w fun e w' => e = .returned (.bool true) ∧ ∃ F' G' s', Duo w0 w' F' g G' h s' s' ∧ s'.okB := by
  have hb := amg_bounds x.kind 7 (by decide) (by decide)
  have hk : amg x.kind 7 = 0 ∨ amg x.kind 7 = 1 ∨ amg x.kind 7 = 2 ∨ amg x.kind 7 = 3 ∨ amg x.kind 7 = 4 ∨ amg x.kind 7 = 5 ∨ amg x.kind 7 = 6 := by omega
  obtain ⟨kd, ps, tm, nn, LA, Lc, L, MA, Mc, M⟩ := x
  rcases hk with hk | hk | hk | hk | hk | hk | hk
  · exact step_k0 w0 w F g G h s kd ps tm nn LA Lc L MA Mc M H hs hx hk
  · exact step_k1 w0 w F g G h s kd ps tm nn LA Lc L MA Mc M H hs hx hk
  · exact step_k2 w0 w F g G h s kd ps tm nn LA Lc L MA Mc M H hs hx hk
  · exact step_k3 w0 w F g G h s kd ps tm nn LA Lc L MA Mc M H hs hx hk
  · exact step_k4 w0 w F g G h s kd ps tm nn LA Lc L MA Mc M H hs hx hk
  · exact step_k5 w0 w F g G h s kd ps tm nn LA Lc L MA Mc M H hs hx hk
  · exact step_k6 w0 w F g G h s kd ps tm nn LA Lc L MA Mc M H hs hx hk
set_option maxRecDepth 100000 in
set_option maxHeartbeats 8000000 in
theorem plays_walk (A : Option Addr) (len cap : Nat) (w : World) (hS : Shape.SK.oks Try.prog w [.row 55 actSK] [.slice A len cap]) :
    Calls Try.prog 7 #[.slice A len cap] w fun e w' => e = .returned (.bool true) ∧ Below w.heap.size w w' := by
  obtain ⟨xs, hxl, hX, hfit⟩ := open_acts hS
  have HX := Lib.hid hX
  have HFIT := Lib.hid hfit
  have HXL := Lib.hid hxl
  clear hS hX hfit hxl
  go_enter Try.func7, Try.ntmps7
  go_wp2_with (fail)
  refine (log_new w).mono ?_
  rintro e w1 ⟨rfl, hb1, hl1, hz1⟩
  have D0 := Lib.hid (show Duo w (w1.alloc (.cells #[.int .i64 0, .int .i64 0, .slice none 0 0] 52)) (fun k => k = w.heap.size) w.heap.size (fun k => k = w1.heap.size) w1.heap.size ⟨0, 0, []⟩ ⟨0, 0, []⟩ from
    ⟨hl1.below ((Below.refl _ _).alloc (Nat.le_refl _) _), ⟨_, Blk.new w1 _ _, Row.nil_ .., rfl, by simp [Value.ownBlock]⟩, fun k hk => ⟨by omega, by rw [World.size_alloc]; omega⟩, fun k hk => ⟨by omega, by rw [World.size_alloc]; omega⟩, fun k hk hg => by omega, hb1.trans (((Below.refl w1.heap.size w1).alloc (Nat.le_refl _) _).mono hb1.size)⟩)
  rw [hz1] at D0
  clear hl1 hb1
  go_wp2_with (fail)
  generalize hW2 : w1.alloc (.cells #[.int .i64 0, .int .i64 0, .slice none 0 0] 52) = W2 at *
  clear hW2
  clear hz1
  go_loopg [5] 100 (fun gg s5 wr => ∃ (k : Nat) (F G : Nat → Prop) (s : LogS), k ≤ len ∧ k ≤ 100 ∧ 100 - k ≤ gg ∧ s5 = .int .i64 k ∧ Hid (Duo w wr F w.heap.size G (w.heap.size + 1) s s) ∧ Hid s.okB)
  case atStart => exact ⟨0, _, _, _, Nat.zero_le _, by omega, by omega, rfl, D0, Lib.hid ⟨Int.le_refl 0, by decide⟩⟩
  case round =>
    obtain ⟨k, F, G, s, hk1, hk2, hg, rfl, HD, HS⟩ := hrel
    have hb00 := HS.out.1
    have hb01 := HS.out.2
    have hb02 : s.base ≤ 1048576 := by omega
    have hb03 : s.l.length ≤ 1048576 := by omega
    by_cases hlt : k < len ∧ k < 100
    · obtain ⟨hlt, h100⟩ := hlt
      have hkl : k < xs.length := by rw [HXL.out]; exact hlt
      have r := HX.out.kept0 (Kept.of_below HD.out.back fun _ => False) (fun _ _ _ h => h)
      obtain ⟨ad, c', hv, _⟩ := r.form (by omega)
      injection hv with hA hnn hc
      clear hnn
      subst hA hc
      have c0 := r.cell (sz := 6) (fun _ => rfl) k 0 hkl (by omega)
      have c1 := r.cell (sz := 6) (fun _ => rfl) k 1 hkl (by omega)
      have c2 := r.cell (sz := 6) (fun _ => rfl) k 2 hkl (by omega)
      have c3 := r.cell (sz := 6) (fun _ => rfl) k 3 hkl (by omega)
      have c4 := r.cell (sz := 6) (fun _ => rfl) k 4 hkl (by omega)
      have c5 := r.cell (sz := 6) (fun _ => rfl) k 5 hkl (by omega)
      have hst := step_calls w wr F w.heap.size G (w.heap.size + 1) s xs[k] HD.out HS.out (HFIT.out _ (List.getElem_mem hkl))
      clear r
      generalize xs[k] = x at c0 c1 c2 c3 c4 c5 hst
      simp only [ActR.cells, adr, List.getElem?_cons_zero, List.getElem?_cons_succ, Nat.add_zero, Nat.zero_add, Nat.reduceAdd] at c0 c1 c2 c3 c4 c5
      have g1 : (k : Int) < (len : Int) := by omega
      have g2 : (k : Int) < 100 := by omega
      have g0 : (0 : Int) ≤ (k : Int) := by omega
      clear hb00 hb01 hb02 hb03
      go_wp2_with (fail)
      refine hst.mono ?_
      rintro e w3 ⟨rfl, F3, G3, s3, hd3, hs3⟩
      have D3 := Lib.hid hd3
      have HS3 := Lib.hid hs3
      have hb00 := hs3.1
      have hb01 := hs3.2
      have hb02 : s3.base ≤ 1048576 := by omega
      have hb03 : s3.l.length ≤ 1048576 := by omega
      clear hst hd3 hs3 c0 c1 c2 c3 c4 c5 HD HS
      have hla := log_last F3 w.heap.size s3 w3 D3.out.l hb00 hb02 hb03
      obtain ⟨lt, hlt9⟩ : ∃ lt, s3.lastTerm = lt := ⟨_, rfl⟩
      rw [hlt9] at hla
      go_wp2_with (fail)
      refine hla.mono ?_
      rintro e w4 ⟨rfl, hb4⟩
      have D4 := Lib.hid (D3.out.below hb4)
      clear hla hb4 D3
      have hlb := ref_last G3 (w.heap.size + 1) s3 w4 D4.out.r hb00 hb02 hb03
      rw [hlt9] at hlb
      clear hlt9
      go_wp2_with (fail)
      refine hlb.mono ?_
      rintro e w5 ⟨rfl, hb5⟩
      have D5 := Lib.hid (D4.out.below hb5)
      clear hlb hb5 D4
      have hlb := log_base F3 w.heap.size s3 w5 D5.out.l
      go_wp2_with (fail)
      refine hlb.mono ?_
      rintro e w6 ⟨rfl, hb6⟩
      have D6 := Lib.hid (D5.out.below hb6)
      obtain ⟨vr, hbr, _⟩ := D6.out.r
      have r0 := hbr.cell 0
      have r1 := hbr.cell 1
      clear hlb hb6 D5 hbr
      go_wp2
      go_roundg (100 - (k + 1))
      case measure => omega
      case rel => exact ⟨k + 1, F3, G3, s3, by omega, by omega, Nat.le_refl _, by go_num, D6, HS3⟩
    · have g00 : ¬ ((k : Int) < (len : Int)) ∨ (k : Int) < (len : Int) ∧ ¬ ((k : Int) < 100) := by omega
      clear hlt
      obtain ⟨vr, hbr, hrr, _⟩ := HD.out.r
      obtain ⟨Ar, cr, rfl⟩ := hrr.shape
      have HBR := Lib.hid hbr
      have HRR := Lib.hid hrr
      have r0 := hbr.cell 0
      obtain ⟨n, hn⟩ : ∃ n, s.l.length = n := ⟨_, rfl⟩
      have HN := Lib.hid hn
      have hwb : IntKind.i64.wrap (s.base + 1) = s.base + 1 := by rw [IntKind.wrap_i64]; omega
      have hsl := log_slice F w.heap.size s 0 n (s.base + 1) 1048576 s.l wr HD.out.l hb00 hb01 (by simp) (Nat.zero_le _) (by decide) (by rw [List.drop_zero, List.take_of_length_le (by omega)]) hn
      clear hbr hrr hn
      rcases g00 with g1 | ⟨g1, g2⟩
      all_goals
        go_wp2_with (fail)
        refine hsl.mono ?_
        rintro e w3 ⟨A3, c3, rfl, hR3, hb3, _⟩
        have D3 := Lib.hid (HD.out.below hb3)
        have hB3 := HBR.out.kept (Kept.of_below hb3 fun _ => False) (fun h => h)
        have hRr3 := HRR.out.kept (Kept.of_below hb3 fun _ => False) (fun _ _ h => h)
        rw [HN.out] at hB3
        have z2 := hB3.cell 2
        have hse := same_true (.slice A3 n c3) (.slice Ar s.l.length cr) s.l w3 hR3 hRr3 (by omega)
        rw [HN.out] at hse
        clear hsl hR3 hb3 hB3 hRr3
        go_wp2_with (fail)
        refine hse.mono ?_
        rintro e w4 ⟨rfl, hb4⟩
        have D4 := Lib.hid (D3.out.below hb4)
        clear hse hb4
        go_wp2_with (fail)
        refine (works_calls w4).mono ?_
        rintro e w5 ⟨rfl, hb5⟩
        go_wp2
        go_ret
        exact ⟨rfl, D4.out.back.trans (hb5.mono D4.out.back.size)⟩
end Go.Proofs.Ytpimpdgibcjbeaa
