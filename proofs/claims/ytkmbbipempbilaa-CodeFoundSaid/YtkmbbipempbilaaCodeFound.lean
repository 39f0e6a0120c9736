import Derived.Test.YtkmbbipempbilaaFound
import Derived.Test.YtkmbbipempbilaaOpen
import Derived.Lib.Hide
/-! CodeFound: the walk. -/
namespace Go.Proofs.Ytkmbbipempbilaa.Pure
set_option linter.unusedVariables false
set_option linter.unusedSimpArgs false
open Go Go.RowKit Go.Proofs.Ytkmbbipempbilaa.PAll Go.Proofs.YtkmbbipempbilaaW.PrintWords Go.Proofs.YtkmbbipempbilaaW.PrintLast Go.Proofs.Ytkmbbipempbilaa.Bytes Go.Proofs.Ytkmbbipempbilaa.Fn

/-- A slice of strings that is read. -/
def StrsAt (w : World) (A : Option Addr) (n : Nat) (f : Nat → ByteArray) : Prop := 0 < n → ∃ ad, A = some ad ∧ ∀ i, i < n → w.cell? (ad.add i) = some (.string (f i)) ∧ (f i).size ≤ 140737488351232
theorem strsAt_of {w : World} {A : Option Addr} {len cap : Nat} {rows : List (List Value)} (h : Open.Rows w [.str] A len cap rows) : ∃ f, StrsAt w A len f := by
  obtain ⟨hl, _, _, hr, hc⟩ := h
  refine ⟨fun i => match rows[i]? with | some [.string a] => a | _ => ⟨#[]⟩, fun h0 => ?_⟩
  obtain ⟨ad, hA, hcell⟩ := hc h0
  refine ⟨ad, hA, fun i hi => ?_⟩
  have hi' : i < rows.length := by omega
  obtain ⟨hll, hk⟩ := hr rows[i] (List.getElem_mem hi')
  obtain ⟨a, hrow, hsz⟩ : ∃ a : ByteArray, rows[i] = [.string a] ∧ a.size ≤ 140737488351232 := by
    match hrr : rows[i], hll with
    | [x], _ =>
      obtain ⟨a, rfl, hz⟩ := hk 0 (.str) x rfl (by rw [hrr]; rfl)
      exact ⟨a, rfl, hz⟩
  have hg : rows[i]? = some [.string a] := by rw [List.getElem?_eq_getElem hi', hrow]
  have h0 := hcell i _ hg 0 _ rfl
  simp only [List.length_cons, List.length_nil, Nat.zero_add, Nat.mul_one, Nat.add_zero] at h0
  simp only [hg]
  exact ⟨h0, hsz⟩
theorem StrsAt.below {w w' : World} {A : Option Addr} {n : Nat} {f : Nat → ByteArray} (h : StrsAt w A n f) (hb : Below w.heap.size w w') : StrsAt w' A n f := by
  intro hn
  obtain ⟨ad, hA, hc⟩ := h hn
  exact ⟨ad, hA, fun i hi => ⟨(hb.cell (World.block_lt_of_cell? w _ (hc i hi).1)).trans (hc i hi).1, (hc i hi).2⟩⟩

attribute [local go_sem high] eqA28
set_option maxHeartbeats 4000000 in
set_option maxRecDepth 100000 in
theorem found_walk (A0 : Option Addr) (len0 cap0 : Nat) (rows0 : List (List Value)) (a1 a2 : ByteArray) (w : World) (w0 : Open.Rows w [.str] A0 len0 cap0 rows0) (y0 : len0 * Try.prog.bytesOf 9 ≤ 140737488351232) (w1 : a1.size ≤ 140737488351232) (w2 : a2.size ≤ 140737488351232) :
    Calls Try.prog 11 #[.slice A0 len0 cap0, .string a1, .string a2] w fun e w' => e = .returned (.bool true) ∧ Below w.heap.size w w' := by
  have hu28 := Try.underlying28
  obtain ⟨f, hF⟩ := strsAt_of w0
  have hlen : len0 ≤ 9223372036854775807 := by have h1 := w0.2.1; have h2 := w0.2.2.1; unfold maxLen at h2; omega
  obtain ⟨K1, h1⟩ := works_f
  have H1 := Lib.hid (h1 K1 (Nat.le_refl _))
  have HF := Lib.hid hF
  clear w0 y0 hF h1
  go_enter Try.func11, Try.ntmps11
  go_wp2_with (fail)
  refine (skylarklaw01_works.calls K1 true w H1.out).mono ?_
  rintro e wa ⟨rfl, hBa⟩
  have HBa := Lib.hid hBa
  clear hBa
  by_cases hl30 : 30 < len0
  · have q : (len0 : Int) > 30 := by omega
    go_wp2
    go_ret
    exact ⟨rfl, HBa.out⟩
  have q30 : (len0 : Int) ≤ 30 := by omega
  have hn30 : len0 ≤ 30 := by omega
  clear hl30
  go_wp2
  go_loopw [7, 8, 27] (fun al v i wr => ∃ (k : Nat) (s : ByteArray) (bs : List ByteArray), k ≤ len0 ∧ i = .int .i64 k ∧ al = .string s ∧ Hid (L s = flat bs) ∧ Hid (∀ b ∈ bs, b.size ≤ 65536) ∧ bs.length ≤ k ∧ Hid (Kd.R Kd.string 9 wr w.heap.size (fun _ => True) v bs) ∧ Hid (Below w.heap.size w wr)) (fun _ _ i _ => len0 - (intOf i).toNat)
  case atStart => exact ⟨0, _, [], by omega, rfl, rfl, rfl, (by refine Lib.hid ?_; simp), by simp, Kd.R_nil _ _ _ _ _, HBa.out⟩
  clear HBa
  case round =>
    obtain ⟨k, s, bs, hk, rfl, rfl, HS, HBS, hbl, HR, HB⟩ := hrel
    by_cases hlt : k < len0
    · obtain ⟨ad, hA, hcell⟩ := (HF.out.below HB.out) (by omega)
      obtain rfl := hA
      obtain ⟨hc0, hbsz⟩ := hcell k hlt
      obtain ⟨b, hb⟩ : ∃ b, f k = b := ⟨_, rfl⟩
      rw [hb] at hc0 hbsz
      clear hcell hb
      obtain ⟨K2, h2⟩ := frame_f b
      have h2 := h2 K2 (Nat.le_refl _)
      dsimp only at h2
      by_cases hbig : b.size > 65536
      · rw [if_pos hbig] at h2
        have H2 := Lib.hid h2
        have q2 : (65536 : Int) < (b.size : Int) := by omega
        clear h2 hbig
        go_wp2_with (fail)
        refine (code_Frame.calls K2 b _ _ _ H2.out).mono ?_
        rintro e wb ⟨rfl, hBb⟩
        have HR2 := Lib.hid (Kd.R_below HR.out hBb)
        have HB2 := Lib.hid (Below.trans HB.out (hBb.mono HB.out.size))
        clear hBb
        go_wp2
        go_roundw
        case rel => exact ⟨k + 1, s, bs, by omega, by go_num, rfl, HS, HBS, by omega, HR2.out, HB2.out⟩
        case measure => simp [intOf]; omega
      · rw [if_neg hbig] at h2
        have hL := strOf_I (frame (L b))
        obtain ⟨t, ht⟩ : ∃ t, strOfNums (I (frame (L b))) = t := ⟨_, rfl⟩
        rw [ht] at h2 hL
        have hts : t.size = b.size + 8 := by rw [← L_length, hL, frame_length, L_length]
        have H2 := Lib.hid h2
        have HL := Lib.hid hL
        obtain ⟨K3, h3⟩ := found_f a1 b a2 t hL (by omega) w1 w2
        have H3 := Lib.hid (h3 K3 (Nat.le_refl _))
        have hb65 : b.size ≤ 65536 := by omega
        have hss : s.size ≤ 1966320 := by
          rw [← L_length, HS.out]
          have := flat_length bs HBS.out
          omega
        clear h2 hL ht h3 hbig
        go_wp2_with (fail)
        refine (code_Frame.calls K2 b _ _ _ H2.out).mono ?_
        rintro e wb ⟨rfl, hBb⟩
        have HR2 := Lib.hid (Kd.R_below HR.out hBb)
        have HB2 := Lib.hid (Below.trans HB.out (hBb.mono HB.out.size))
        clear hBb
        go_wp2_with (fail)
        refine (code_Unframe.calls K3 (a1 ++ t ++ a2) (a1.size : Int) _ _ _ _ _ H3.out).mono ?_
        rintro e wc ⟨rfl, hBc⟩
        have HR3 := Lib.hid (Kd.R_below HR2.out hBc)
        have HB3 := Lib.hid (Below.trans HB2.out (hBc.mono HB2.out.size))
        clear hBc
        go_wp2_with (first | ((with_reducible refine gate_builtin (b := .append) (xs := #[.tmp 77, .tmp 79]) rfl ?_); at_builtin; refine Kd.R_append Kd.string (w0 := w) w.heap.size rfl (.tmp 77) (.tmp 79) 48 9 (.string ⟨#[]⟩) 16 rfl Try.underlying48 info9 rfl (by decide) (by omega) _ bs b [.string b] (fun _ => True) (fun _ => False) rfl (by first | (go_simp; done) | (go_simp; rfl)) ?aP (fun _ hk => hk.elim) ?aF ?aO ?aB ?aS ?aL ?_; (case aP => exact rfl); (case aF => exact (fun _ _ => trivial)); (case aO => exact Kd.R_alloc HR3.out _); (case aB => exact HB3.out.alloc HB3.out.size _); (case aS => exact (HB3.out.alloc HB3.out.size _).size); (case aL => omega); intro v' wd ho hb hg hat))
        clear hg hat
        have HO := Lib.hid ho
        have HBD := Lib.hid hb
        have HSN : Hid (L (s ++ t) = flat (bs ++ [b])) := by
          refine Lib.hid ?_
          rw [L_append, HS.out, HL.out, flat_snoc]
        have HBN : Hid (∀ x ∈ bs ++ [b], x.size ≤ 65536) := by
          refine Lib.hid ?_
          intro x hx
          rcases List.mem_append.1 hx with h | h
          · exact HBS.out x h
          · simp at h; subst h; exact hb65
        clear ho hb
        go_roundw
        case rel => exact ⟨k + 1, s ++ t, bs ++ [b], by omega, by go_num, rfl, HSN, HBN, by simp; omega, HO.out, HBD.out⟩
        case measure => simp [intOf]; omega
    · have hke : k = len0 := by omega
      obtain ⟨K5, h5⟩ := frames_f s bs [] (by decide) (by rw [List.append_nil]; exact HS.out) HBS.out (by omega)
      obtain ⟨X, hX⟩ : ∃ X : ByteArray, (⟨#[120]⟩ : ByteArray) = X := ⟨_, rfl⟩
      have hXL : L X = [120] := by rw [← hX]; rfl
      obtain ⟨K6, h6⟩ := frames_f (s ++ X) bs [120] (by decide) (by rw [L_append, HS.out, hXL]) HBS.out (by omega)
      obtain ⟨K7, h7⟩ := texts_f bs (by omega)
      have hss : s.size = (flat bs).length := by rw [← L_length, HS.out]
      have hfb : (flat bs).length ≤ 1966320 := by
        have := flat_length bs HBS.out
        omega
      rw [← hss] at h5 h6 hfb
      have H5 := Lib.hid (h5 K5 (Nat.le_refl _))
      have H6 := Lib.hid (h6 K6 (Nat.le_refl _))
      have H7 := Lib.hid (h7 K7 (Nat.le_refl _))
      obtain ⟨A8, c8, rfl⟩ := Kd.R_slice HR.out
      have hc8 : bs.length ≤ c8 := (Kd.R_reads' HR.out).2.1
      have HC := Lib.hid (Kd.R_reads' HR.out).2.2
      have HX := Lib.hid hX
      clear h5 h6 h7 hss HR hX hXL
      go_wp2_with (fail)
      refine (code_Frames.calls K5 s bs (s.size : Int) _ H5.out).mono ?_
      rintro e wb ⟨v1, rfl, hR1, hBb⟩
      obtain ⟨A1, c1, rfl⟩ := Kd.R_slice hR1
      have hc1 : bs.length ≤ c1 := (Kd.R_reads' hR1).2.1
      have HC1 := Lib.hid (Kd.R_reads' hR1).2.2
      have HC2 := Lib.hid (Kd.C_below HC.out hBb)
      have HB2 := Lib.hid (Below.trans HB.out (hBb.mono HB.out.size))
      clear hR1 hBb HC HB
      go_wp2_with (fail)
      rw [HX.out]
      refine (code_Frames.calls K6 (s ++ X) bs (s.size : Int) _ H6.out).mono ?_
      rintro e wc ⟨v2, rfl, hR2, hBc⟩
      obtain ⟨A2, c2, rfl⟩ := Kd.R_slice hR2
      have hc2 : bs.length ≤ c2 := (Kd.R_reads' hR2).2.1
      have HD := Lib.hid (Kd.R_reads' hR2).2.2
      have HC3 := Lib.hid (Kd.C_below HC1.out hBc)
      have HC4 := Lib.hid (Kd.C_below HC2.out hBc)
      have HB3 := Lib.hid (Below.trans HB2.out (hBc.mono HB2.out.size))
      clear hR2 hBc HC1 HC2 HB2
      go_wp2_with (fail)
      refine (skylarkbook_SameTexts.calls K7 A1 c1 bs A8 c8 bs true wc HC3.out hc1 HC4.out hc8 H7.out).mono ?_
      rintro e7 wg ⟨rfl, hD⟩
      obtain ⟨n7, rfl⟩ := hD.out
      clear hD
      go_wp2_with (fail)
      refine (skylarkbook_SameTexts.calls K7 A2 c2 bs A8 c8 bs true (wc.drewN n7) HD.out hc2 HC4.out hc8 H7.out).mono ?_
      rintro e8 wh ⟨rfl, hD⟩
      obtain ⟨n8, rfl⟩ := hD.out
      clear hD
      go_wp2
      go_ret
      exact ⟨rfl, ⟨HB3.out.os, HB3.out.tape, HB3.out.output, HB3.out.size, HB3.out.block⟩⟩
end Go.Proofs.Ytkmbbipempbilaa.Pure
