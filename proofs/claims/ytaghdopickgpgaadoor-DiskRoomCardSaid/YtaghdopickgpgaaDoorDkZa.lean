import Derived.Test.YtaghdopickgpgaaDoorDkY
import Derived.Laws.IdiomStrings
namespace Go.Proofs.YtaghdopickgpgaaDoor
open Go Go.RowKit
set_option linter.unusedVariables false
set_option linter.unusedSimpArgs false

/-! DiskRoom. -/
theorem zeros (n : Nat) (hn : n ≤ 1000000) : ∃ (CS : Array Value) (S : ByteArray), (∀ w : World, (Instr.makeSlice 48 (.int .i64 (n : Int)) (.int .i64 (n : Int))).run Tryd.prog w = .ok (.slice (some ⟨w.heap.size, 0, none⟩) n n) (w.alloc (.cells CS 5))) ∧
    (∀ w : World, (convert 48 9 (.slice (some ⟨w.heap.size, 0, none⟩) n n)).run Tryd.prog (w.alloc (.cells CS 5)) = .ok (.string S) (w.alloc (.cells CS 5))) ∧ S.size = n := by
  obtain ⟨i0, hi, hzz⟩ := Option.map_eq_some_iff.1 (show (Tryd.prog.info? 5).map (fun i => (i.zero, i.size, i.bytes)) = some (some (.int .u8 0), 1, 1) from by kernel_rfl)
  simp only [Prod.mk.injEq] at hzz
  obtain ⟨hz0, hz1, hz2⟩ := hzz
  refine ⟨madeCells #[.int .u8 0] n, ⟨(List.replicate n 0).toArray⟩, fun w => ?_, fun w => ?_, ?_⟩
  · have hr := run_make (P := Tryd.prog) w 48 5 i0 (.int .u8 0) Tryd.underlying48 hi hz0 .i64 .i64 n n (by omega) (by omega) (by rw [hz2]; omega) (by omega)
    simp only [Int.toNat_natCast, hz1, Nat.mul_one] at hr
    exact hr
  · have hb := run_convert_bytes_back (P := Tryd.prog) (w.alloc (.cells (madeCells #[.int .u8 0] n) 5)) 48 9 5 ⟨w.heap.size, 0, none⟩ n (List.replicate n 0) Tryd.underlying48 Tryd.underlying5 Tryd.underlying9 (fun j hj => by
      rw [addr0, cell_of_row _ _ j _ _ (0, 0) (heap_alloc_new w _)]
      have hj' : j < n := by simpa using hj
      simp [madeCells, hj', Nat.mod_one])
    rwa [List.length_replicate] at hb
  · show (List.replicate n (0 : UInt8)).toArray.size = n
    simp
theorem ok_zz : okName ⟨#[122, 122]⟩ = true := by kernel_rfl
theorem room_over {s : DkS} (h : s.Ok) (S : ByteArray) (hS : (S.size : Int) = s.room - s.used + 1) : s.append ⟨#[122, 122]⟩ S = (s, 22) := by
  unfold DkS.append
  rw [if_neg (by rw [ok_zz]; simp), if_pos (show s.tight ⟨#[122, 122]⟩ S from .inl (by omega))]
theorem room_full {s : DkS} (h : s.Ok) (hf : s.free) (S : ByteArray) (hS : (S.size : Int) = s.room - s.used) (hn : s.fs.length ≤ 60) : (s.append ⟨#[122, 122]⟩ S).2 = 0 ∧ (s.append ⟨#[122, 122]⟩ S).1.used = s.room := by
  have e : s.append ⟨#[122, 122]⟩ S = (s.set ⟨#[122, 122]⟩ ⟨(fileAt s.fs ⟨#[122, 122]⟩).has ++ S, (fileAt s.fs ⟨#[122, 122]⟩).safe⟩, 0) := by
    unfold DkS.append
    rw [if_neg (by rw [ok_zz]; simp), if_neg (show ¬ s.tight ⟨#[122, 122]⟩ S from fun h => by unfold DkS.tight at h; omega), tick_free hf.1, if_neg (by rw [hf.2]; simp)]
  rw [e]
  refine ⟨rfl, ?_⟩
  show s.used + ((((fileAt s.fs ⟨#[122, 122]⟩).has ++ S).size : Int) - sizeAt s.fs ⟨#[122, 122]⟩) = s.room
  rw [append_size]
  unfold sizeAt
  omega
set_option maxRecDepth 100000 in
set_option maxHeartbeats 8000000 in
theorem room_walk (room : Int) (A : Option Addr) (len cap : Nat) (w : World) (hwf : (Lit.int .i64 room).wf = true) (hS : Shape.SK.oks Tryd.prog w [.row 45 actSK] [.slice A len cap]) :
    Calls Tryd.prog 6 #[.int .i64 room, .slice A len cap] w fun e w' => e = .returned (.bool true) ∧ Below w.heap.size w w' := by
  obtain ⟨xs, hxl, hX, hfit⟩ := open_acts hS
  have hlen := acts_len hS
  have HX := Lib.hid hX
  have HFIT := Lib.hid hfit
  have HXL := Lib.hid hxl
  have ham := fun W => among_calls room 300 W (by decide) (by decide)
  have hrm := amg_bounds room 300 (by decide) (by decide)
  generalize amg room 300 = rm at *
  have HAM := Lib.hid ham
  clear hS hX hfit hxl hwf ham
  go_enter Tryd.func6, Tryd.ntmps6
  have hc := works_calls w
  go_wp2_with (fail)
  refine hc.mono ?_
  rintro e w1 ⟨rfl, hb1⟩
  clear hc
  have hc := HAM.out w1
  go_wp2_with (fail)
  refine hc.mono ?_
  rintro e w2 ⟨rfl, rfl⟩
  clear hc
  have hc := LoneK.new (w0 := w) (w := w2) rm hb1 hrm.1 (by omega)
  go_wp2_with (fail)
  refine hc.mono ?_
  rintro e w3 ⟨g, F, rfl, h, _⟩
  clear hc
  have H1 := Lib.hid h
  clear h hb1
  go_wp2_with (fail)
  go_loopg [7, 8] 60 (fun gg s7 _ wr => ∃ (k : Nat) (s : DkS), k ≤ len ∧ k ≤ 60 ∧ 60 - k ≤ gg ∧ s7 = .int .i64 k ∧ Hid (LoneK w wr F g s) ∧ Hid s.free ∧ Hid (s.room = rm))
  case atStart => exact ⟨0, _, Nat.zero_le _, by omega, by omega, by go_num, H1, Lib.hid ⟨rfl, rfl⟩, Lib.hid rfl⟩
  case round =>
    obtain ⟨k, s, hk1, hk2, hg, rfl, HL, HFR, HRM⟩ := hrel
    have hlm2 : (len : Int) ≤ 140737488351232 := by omega
    by_cases hlt : k < len ∧ k < 60
    · obtain ⟨hlt, h100⟩ := hlt
      have hkl : k < xs.length := by rw [HXL.out]; exact hlt
      have r := HX.out.kept0 (Kept.of_below HL.out.back fun _ => False) (fun _ _ _ h => h)
      obtain ⟨ad, c', hv, _⟩ := r.form (by omega)
      injection hv with hA hnn hc
      clear hnn
      subst hA hc
      have c0 := r.cell (sz := 5) (fun _ => rfl) k 0 hkl (by omega)
      have c1 := r.cell (sz := 5) (fun _ => rfl) k 1 hkl (by omega)
      have c2 := r.cell (sz := 5) (fun _ => rfl) k 2 hkl (by omega)
      have c3 := r.cell (sz := 5) (fun _ => rfl) k 3 hkl (by omega)
      have c4 := r.cell (sz := 5) (fun _ => rfl) k 4 hkl (by omega)
      have HF := Lib.hid (HFIT.out _ (List.getElem_mem hkl))
      clear r
      generalize xs[k] = x at c0 c1 c2 c3 c4 HF
      simp only [ActR.cells, adr, List.getElem?_cons_zero, List.getElem?_cons_succ, Nat.add_zero, Nat.zero_add, Nat.reduceAdd] at c0 c1 c2 c3 c4
      have g1 : (k : Int) < (len : Int) := by omega
      have g2 : (k : Int) < 60 := by omega
      have g0 : (0 : Int) ≤ (k : Int) := by omega
      have HB := Lib.hid (Blk.new wr 45 #[.int .i64 x.kind, .string x.name, .string x.to, .int .i64 x.n, .slice x.DA x.D.length x.Dc])
      have b0 := HB.out.cell 0
      have b1 := HB.out.cell 1
      have b2 := HB.out.cell 2
      have b3 := HB.out.cell 3
      have HL2 := Lib.hid (HL.out.below ((Below.refl _ wr).alloc (Nat.le_refl _) (.cells #[.int .i64 x.kind, .string x.name, .string x.to, .int .i64 x.n, .slice x.DA x.D.length x.Dc] 45)))
      have hbd := amg_bounds x.kind 3 (by decide) (by decide)
      have ham := among_calls x.kind 3 (wr.alloc (.cells #[.int .i64 x.kind, .string x.name, .string x.to, .int .i64 x.n, .slice x.DA x.D.length x.Dc] 45)) (by decide) (by decide)
      obtain ⟨kd, hkd⟩ : ∃ kd, amg x.kind 3 = kd := ⟨_, rfl⟩
      rw [hkd] at ham hbd
      clear hkd
      go_wp2_with (fail)
      refine ham.mono ?_
      rintro e w3 ⟨rfl, rfl⟩
      clear ham
      have hk5 : kd = 0 ∨ kd = 1 ∨ kd = 2 := by omega
      clear hbd HL c0 c1 c2 c3 c4
      have HFN := Lib.hid (show x.name.size ≤ maxLen by have := HF.out.name; simp only [maxLen]; omega)
      have HFT2 := Lib.hid HF.out.to
      generalize wr.alloc (.cells #[.int .i64 x.kind, .string x.name, .string x.to, .int .i64 x.n, .slice x.DA x.D.length x.Dc] 45) = wa at *
      have fin : ∀ (kd : Int) (W : World), LoneK w W F g (s.gact kd x) → (s.gact kd x).free ∧ (s.gact kd x).room = rm ∧ 0 ≤ (s.gact kd x).used ∧ (s.gact kd x).used ≤ rm := fun kd W hW => ⟨gact_free HFR.out kd x, (gact_room kd x).trans HRM.out, hW.ok.u0, by have := hW.ok.u1; rwa [(gact_room kd x).trans HRM.out] at this⟩
      have FIN := Lib.hid fin
      clear fin
      rcases hk5 with rfl | rfl | rfl
      · have hc := HL2.out.append x.name x.to HFN.out HFT2.out
        rw [show (s.append x.name x.to).1 = s.gact 0 x from rfl] at hc
        obtain ⟨rs, hrs⟩ : ∃ rs, (s.append x.name x.to).2 = rs := ⟨_, rfl⟩
        rw [hrs] at hc
        clear hrs
        go_wp2_with (fail)
        refine hc.mono ?_
        rintro e w4 ⟨rfl, h3, _⟩
        have H3 := Lib.hid h3
        have hf := FIN.out 0 _ h3
        clear hc h3 b0 b1 b2 b3 HB HL2
        have hu := H3.out.used
        have u0 := hf.2.2.1
        have u1 := hf.2.2.2
        have HFR3 := Lib.hid hf.1
        have HRM3 := Lib.hid hf.2.1
        clear hf
        generalize s.gact 0 x = s3 at *
        have q0 : ¬ (s3.used < 0) := by omega
        have q1 : ¬ (rm < s3.used) := by omega
        clear u0 u1
        go_wp2_with (fail)
        refine hu.mono ?_
        rintro e w5 ⟨rfl, rfl⟩
        go_wp2_with (fail)
        refine hu.mono ?_
        rintro e w6 ⟨rfl, rfl⟩
        clear hu
        go_wp2
        go_roundg (60 - (k + 1))
        case measure => omega
        case rel => exact ⟨k + 1, s3, by omega, by omega, Nat.le_refl _, by go_num, H3, HFR3, HRM3⟩
      · have hc := HL2.out.cut x.name x.n HFN.out
        rw [show (s.cut x.name x.n).1 = s.gact 1 x from rfl] at hc
        obtain ⟨rs, hrs⟩ : ∃ rs, (s.cut x.name x.n).2 = rs := ⟨_, rfl⟩
        rw [hrs] at hc
        clear hrs
        go_wp2_with (fail)
        refine hc.mono ?_
        rintro e w4 ⟨rfl, h3, _⟩
        have H3 := Lib.hid h3
        have hf := FIN.out 1 _ h3
        clear hc h3 b0 b1 b2 b3 HB HL2
        have hu := H3.out.used
        have u0 := hf.2.2.1
        have u1 := hf.2.2.2
        have HFR3 := Lib.hid hf.1
        have HRM3 := Lib.hid hf.2.1
        clear hf
        generalize s.gact 1 x = s3 at *
        have q0 : ¬ (s3.used < 0) := by omega
        have q1 : ¬ (rm < s3.used) := by omega
        clear u0 u1
        go_wp2_with (fail)
        refine hu.mono ?_
        rintro e w5 ⟨rfl, rfl⟩
        go_wp2_with (fail)
        refine hu.mono ?_
        rintro e w6 ⟨rfl, rfl⟩
        clear hu
        go_wp2
        go_roundg (60 - (k + 1))
        case measure => omega
        case rel => exact ⟨k + 1, s3, by omega, by omega, Nat.le_refl _, by go_num, H3, HFR3, HRM3⟩
      · have hc := HL2.out.remove x.name HFN.out
        rw [show (s.remove x.name).1 = s.gact 4 x from rfl] at hc
        obtain ⟨rs, hrs⟩ : ∃ rs, (s.remove x.name).2 = rs := ⟨_, rfl⟩
        rw [hrs] at hc
        clear hrs
        go_wp2_with (fail)
        refine hc.mono ?_
        rintro e w4 ⟨rfl, h3, _⟩
        have H3 := Lib.hid h3
        have hf := FIN.out 4 _ h3
        clear hc h3 b0 b1 b2 b3 HB HL2
        have hu := H3.out.used
        have u0 := hf.2.2.1
        have u1 := hf.2.2.2
        have HFR3 := Lib.hid hf.1
        have HRM3 := Lib.hid hf.2.1
        clear hf
        generalize s.gact 4 x = s3 at *
        have q0 : ¬ (s3.used < 0) := by omega
        have q1 : ¬ (rm < s3.used) := by omega
        clear u0 u1
        go_wp2_with (fail)
        refine hu.mono ?_
        rintro e w5 ⟨rfl, rfl⟩
        go_wp2_with (fail)
        refine hu.mono ?_
        rintro e w6 ⟨rfl, rfl⟩
        clear hu
        go_wp2
        go_roundg (60 - (k + 1))
        case measure => omega
        case rel => exact ⟨k + 1, s3, by omega, by omega, Nat.le_refl _, by go_num, H3, HFR3, HRM3⟩
    · have g00 : ¬ ((k : Int) < (len : Int)) ∨ (k : Int) < (len : Int) ∧ ¬ ((k : Int) < 60) := by omega
      clear hlt
      have hu := HL.out.used
      have hu0 := HL.out.ok.u0
      have hu1 := HL.out.ok.u1
      rw [HRM.out] at hu1
      obtain ⟨lf, hlf⟩ : ∃ lf : Nat, rm - s.used = lf := ⟨(rm - s.used).toNat, by omega⟩
      have HLF := Lib.hid hlf
      have hw1 : IntKind.i64.wrap (rm - s.used) = (lf : Int) := by rw [IntKind.wrap_i64]; omega
      obtain ⟨CS1, S1, hm1, hc1, hs1⟩ := zeros (lf + 1) (by omega)
      obtain ⟨CS, S, hm0, hc0, hs0⟩ := zeros lf (by omega)
      have hw2 : IntKind.i64.wrap ((lf : Int) + 1) = (lf : Int) + 1 := by rw [IntKind.wrap_i64]; omega
      have HOV := Lib.hid (room_over HL.out.ok S1 (by rw [HRM.out]; omega))
      have HFU := Lib.hid (room_full HL.out.ok HFR.out S (by rw [HRM.out]; omega))
      have HS1 := Lib.hid (show S1.size ≤ 140737488351232 by omega)
      have HS0 := Lib.hid (show S.size ≤ 140737488351232 by omega)
      have hnames := HL.out.names
      have hnl : (namesOf s.fs).length = s.fs.length := List.length_map ..
      clear hu0 hu1 hrm hs1 hs0 hlf
      rcases g00 with g1 | ⟨g1, g2⟩
      · go_wp2_with (fail)
        refine hu.mono ?_
        rintro e w5 ⟨rfl, rfl⟩
        clear hu
        go_wp2_with (fail)
        refine hnames.mono ?_
        rintro e w6 ⟨v, rfl, hr, h6, _, _⟩
        obtain ⟨Av, cv, rfl⟩ := hr.shape_n hnl
        have H6 := Lib.hid h6
        clear hnames hr h6 HL
        by_cases hn : s.fs.length ≤ 60
        · have n1 : (s.fs.length : Int) ≤ 60 := by omega
          have HFU2 := Lib.hid (HFU.out hn)
          have HC1 := Lib.hid (H6.out.below ((Below.refl _ w6).alloc (Nat.le_refl _) (.cells CS1 5)))
          have ha1 := HC1.out.append ⟨#[122, 122]⟩ S1 (by decide) HS1.out
          rw [HOV.out] at ha1
          have hmA : (Instr.makeSlice 48 (.int .i64 ((lf : Int) + 1)) (.int .i64 ((lf : Int) + 1))).run Tryd.prog w6 = .ok (.slice (some ⟨w6.heap.size, 0, none⟩) (lf + 1) (lf + 1)) (w6.alloc (.cells CS1 5)) := hm1 w6
          have hcA := hc1 w6
          clear hm1 hc1 hn H6
          go_wp2_with (fail)
          refine ha1.mono ?_
          rintro e w7 ⟨rfl, h7, _⟩
          have H7 := Lib.hid h7
          clear ha1 h7 hmA hcA HC1
          have HC0 := Lib.hid (H7.out.below ((Below.refl _ w7).alloc (Nat.le_refl _) (.cells CS 5)))
          have ha0 := HC0.out.append ⟨#[122, 122]⟩ S (by decide) HS0.out
          rw [HFU2.out.1] at ha0
          have hmB := hm0 w7
          have hcB := hc0 w7
          clear hm0 hc0 H7
          go_wp2_with (fail)
          refine ha0.mono ?_
          rintro e w8 ⟨rfl, h8, _⟩
          have H8 := Lib.hid h8
          clear ha0 h8 hmB hcB HC0
          have hu2 := H8.out.used
          rw [HFU2.out.2, HRM.out] at hu2
          go_wp2_with (fail)
          refine hu2.mono ?_
          rintro e w9 ⟨rfl, rfl⟩
          go_wp2
          go_ret
          exact ⟨rfl, H8.out.back⟩
        · have n1 : (60 : Int) < (s.fs.length : Int) := by omega
          go_wp2
          go_ret
          exact ⟨rfl, H6.out.back⟩
      · go_wp2_with (fail)
        refine hu.mono ?_
        rintro e w5 ⟨rfl, rfl⟩
        clear hu
        go_wp2_with (fail)
        refine hnames.mono ?_
        rintro e w6 ⟨v, rfl, hr, h6, _, _⟩
        obtain ⟨Av, cv, rfl⟩ := hr.shape_n hnl
        have H6 := Lib.hid h6
        clear hnames hr h6 HL
        by_cases hn : s.fs.length ≤ 60
        · have n1 : (s.fs.length : Int) ≤ 60 := by omega
          have HFU2 := Lib.hid (HFU.out hn)
          have HC1 := Lib.hid (H6.out.below ((Below.refl _ w6).alloc (Nat.le_refl _) (.cells CS1 5)))
          have ha1 := HC1.out.append ⟨#[122, 122]⟩ S1 (by decide) HS1.out
          rw [HOV.out] at ha1
          have hmA : (Instr.makeSlice 48 (.int .i64 ((lf : Int) + 1)) (.int .i64 ((lf : Int) + 1))).run Tryd.prog w6 = .ok (.slice (some ⟨w6.heap.size, 0, none⟩) (lf + 1) (lf + 1)) (w6.alloc (.cells CS1 5)) := hm1 w6
          have hcA := hc1 w6
          clear hm1 hc1 hn H6
          go_wp2_with (fail)
          refine ha1.mono ?_
          rintro e w7 ⟨rfl, h7, _⟩
          have H7 := Lib.hid h7
          clear ha1 h7 hmA hcA HC1
          have HC0 := Lib.hid (H7.out.below ((Below.refl _ w7).alloc (Nat.le_refl _) (.cells CS 5)))
          have ha0 := HC0.out.append ⟨#[122, 122]⟩ S (by decide) HS0.out
          rw [HFU2.out.1] at ha0
          have hmB := hm0 w7
          have hcB := hc0 w7
          clear hm0 hc0 H7
          go_wp2_with (fail)
          refine ha0.mono ?_
          rintro e w8 ⟨rfl, h8, _⟩
          have H8 := Lib.hid h8
          clear ha0 h8 hmB hcB HC0
          have hu2 := H8.out.used
          rw [HFU2.out.2, HRM.out] at hu2
          go_wp2_with (fail)
          refine hu2.mono ?_
          rintro e w9 ⟨rfl, rfl⟩
          go_wp2
          go_ret
          exact ⟨rfl, H8.out.back⟩
        · have n1 : (60 : Int) < (s.fs.length : Int) := by omega
          go_wp2
          go_ret
          exact ⟨rfl, H6.out.back⟩
end Go.Proofs.YtaghdopickgpgaaDoor
