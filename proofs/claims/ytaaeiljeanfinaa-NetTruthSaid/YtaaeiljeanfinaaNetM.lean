import Derived.Test.YtaaeiljeanfinaaNetL
import Derived.Laws.BytesArg
namespace Go.Proofs.Ytaaeiljeanfinaa
open Go Go.RowKit
set_option linter.unusedVariables false
set_option linter.unusedSimpArgs false

/-- The net behind i letters from 0 to 1. -/
def many (i : Nat) (b : ByteArray) : NetS := ⟨2, i, (List.range i).map (fun (k : Nat) => (⟨(k : Int), 0, 1, b⟩ : Letter)), []⟩
theorem many_len (i : Nat) (b : ByteArray) : (many i b).l.length = i := by simp [many]
theorem many_get (i : Nat) (b : ByteArray) (k : Nat) (h : k < (many i b).l.length) : (many i b).l[k] = ⟨(k : Int), 0, 1, b⟩ := by simp [many]
theorem many_send (i : Nat) (b : ByteArray) (hi : i < 4096) (hb : b.size ≤ 20) : (many i b).send 0 1 b = (many (i + 1) b, (i : Int), 0) := by
  have h1 : (many i b).has 0 = true := by simp [many, NetS.has]
  have h2 : (many i b).has 1 = true := by simp [many, NetS.has]
  have h3 : ¬ (many i b).full b := by
    unfold NetS.full
    rw [many_len]
    simp only [many]
    omega
  unfold NetS.send NetS.put
  rw [h1, h2, if_pos (show (true && true) = true from rfl), if_neg h3]
  simp [NetS.add, many, List.range_succ]
theorem full_send (s : NetS) (a b : Int) (body : ByteArray) (h1 : s.has a = true) (h2 : s.has b = true) (h3 : s.full body) : s.send a b body = (s, 0, 2) := by
  unfold NetS.send NetS.put
  rw [h1, h2, if_pos (show (true && true) = true from rfl), if_pos h3]
theorem idx_at {α : Type} (p : α → Bool) (l : List α) (k : Nat) (hk : k < l.length) (h : idx p l 0 = (k : Int)) : p l[k] = true := by
  have g : ∀ (l : List α) (i : Int), idx p l i = -1 ∨ ∃ k : Nat, ∃ h : k < l.length, idx p l i = i + k ∧ p l[k] = true := by
    intro l
    induction l with
    | nil => intro i; exact .inl rfl
    | cons x l ih =>
      intro i
      cases hx : p x with
      | true => exact .inr ⟨0, by simp, by simp [idx, hx], hx⟩
      | false =>
        rcases ih (i + 1) with h1 | ⟨k, hk, h1, h2⟩
        · exact .inl (by simp [idx, hx, h1])
        · exact .inr ⟨k + 1, by simpa using hk, by simp [idx, hx, h1]; omega, h2⟩
  rcases g l 0 with h1 | ⟨k', hk', h1, h2⟩
  · omega
  · obtain rfl : k' = k := by omega
    exact h2
theorem NetS.pos_at (s : NetS) (id : Int) (x : Letter) (hx : x ∈ s.l) (h : x.id = id) : ∃ i, ∃ h : i < s.l.length, s.pos id = some i ∧ s.find id = (i : Int) ∧ s.l[i].id = id := by
  rcases s.pos_cases id with ⟨_, _, h3⟩ | ⟨i, hi, h1, h2⟩
  · have := h3 x hx
    simp [h] at this
  · refine ⟨i, hi, h1, h2, ?_⟩
    have := idx_at (fun x : Letter => x.id == id) s.l i hi h2
    simpa using this
theorem full_copy (s : NetS) (id : Int) (x : Letter) (hx : x ∈ s.l) (h : x.id = id) (hf : ∀ y ∈ s.l, s.full y.body) : s.copy id = (s, 0, 2) := by
  obtain ⟨i, hi, h1, _, _⟩ := s.pos_at id x hx h
  unfold NetS.copy NetS.put
  rw [h1]
  simp only [s.getD i hi]
  rw [if_pos (hf _ (List.getElem_mem hi))]
theorem free_copy (s : NetS) (id : Int) (x : Letter) (hx : x ∈ s.l) (h : x.id = id) (hf : ∀ y ∈ s.l, ¬ s.full y.body) : s.copy id = ((s.copy id).1, s.next, 0) := by
  obtain ⟨i, hi, h1, _, _⟩ := s.pos_at id x hx h
  unfold NetS.copy NetS.put
  rw [h1]
  simp only [s.getD i hi]
  rw [if_neg (hf _ (List.getElem_mem hi))]
theorem many_mem (n : Nat) (b : ByteArray) (k : Nat) (hk : k < n) : (⟨(k : Int), 0, 1, b⟩ : Letter) ∈ (many n b).l := by
  unfold many
  simp only [List.mem_map, List.mem_range]
  exact ⟨k, hk, rfl⟩
theorem many_body (n : Nat) (b : ByteArray) (y : Letter) (hy : y ∈ (many n b).l) : y.body = b := by
  unfold many at hy
  simp only [List.mem_map, List.mem_range] at hy
  obtain ⟨k, _, rfl⟩ := hy
  rfl
theorem many_full (b body : ByteArray) : (many 4096 b).full body := by
  unfold NetS.full
  rw [many_len]
  omega
/-- The net with letter 7 lost. -/
theorem many_lose (b : ByteArray) : (many 4096 b).lose 7 = ((many 4096 b).cut 7, 0) := by
  obtain ⟨i, hi, h1, _, h3⟩ := (many 4096 b).pos_at 7 _ (many_mem 4096 b 7 (by omega)) rfl
  rw [many_get] at h3
  have h4 : (i : Int) = 7 := h3
  obtain rfl : i = 7 := by omega
  unfold NetS.lose
  rw [h1]
theorem cut_len (b : ByteArray) : ((many 4096 b).cut 7).l.length = 4095 := by
  unfold NetS.cut
  simp only []
  rw [List.length_eraseIdx_of_lt (by rw [many_len]; omega), many_len]
theorem cut_mem (b : ByteArray) : (⟨3, 0, 1, b⟩ : Letter) ∈ ((many 4096 b).cut 7).l := by
  unfold NetS.cut
  simp only []
  rw [List.eraseIdx_eq_take_drop_succ]
  refine List.mem_append_left _ ?_
  obtain ⟨n, hn⟩ : ∃ n, n = 4096 := ⟨_, rfl⟩
  rw [← hn]
  have h : 3 < ((many n b).l.take 7).length := by rw [List.length_take, many_len]; omega
  have e : ((many n b).l.take 7)[3] = ⟨3, 0, 1, b⟩ := by rw [List.getElem_take, many_get]; rfl
  rw [← e]
  exact List.getElem_mem h
theorem cut_body (n : Nat) (b : ByteArray) (y : Letter) (hy : y ∈ ((many n b).cut 7).l) : y.body = b := by
  unfold NetS.cut at hy
  exact many_body n b y (List.mem_of_mem_eraseIdx hy)

theorem big_string : ∃ (N : Nat) (CS : Array Value) (S : ByteArray), (∀ w : World, (Instr.makeSlice 31 (.int .i64 65537) (.int .i64 65537)).run Try.prog w = .ok (.slice (some ⟨w.heap.size, 0, none⟩) N N) (w.alloc (.cells CS 5))) ∧
    (∀ w : World, (convert 31 9 (.slice (some ⟨w.heap.size, 0, none⟩) N N)).run Try.prog (w.alloc (.cells CS 5)) = .ok (.string S) (w.alloc (.cells CS 5))) ∧ S.size = 65537 := by
  obtain ⟨i0, hi, hz0, hz1, hz2⟩ := info_parts (show (Try.prog.info? 5).map (fun i => (i.zero, i.size, i.bytes)) = some (some (.int .u8 0), 1, 1) from by kernel_rfl)
  obtain ⟨N, hN⟩ : ∃ N : Nat, N = 65537 := ⟨_, rfl⟩
  have h1 : (65537 : Int) = (N : Int) := by omega
  refine ⟨N, madeCells #[.int .u8 0] N, strOfNums (List.replicate N 0), fun w => ?_, fun w => ?_, ?_⟩
  · have hr := run_make (P := Try.prog) w 31 5 i0 (.int .u8 0) Try.underlying31 hi hz0 .i64 .i64 N N (by omega) (by omega) (by rw [hz2]; omega) (by omega)
    simp only [Int.toNat_natCast, hz1, Nat.mul_one] at hr
    rw [h1]
    exact hr
  · refine run_convert_bytes_arg _ 31 5 Try.underlying31 Try.underlying5 w.heap.size 0 N N (List.replicate N 0) (by simp) (fun i hi => ?_) 9 Try.underlying9
    rw [Nat.zero_add, cell_of_row _ _ i _ _ (0, 0) (heap_alloc_new w _)]
    simp [madeCells, hi, Nat.mod_one, List.getD_eq_getElem?_getD]
  · rw [strOfNums_size, List.length_replicate, hN]

set_option maxHeartbeats 4000000 in
set_option maxRecDepth 1000000 in
theorem full_walk (b0 : ByteArray) (w : World) (hb0 : b0.size ≤ 140737488351232) :
    Calls Try.prog 3 #[.string b0] w fun e w' => e = .returned (.bool true) ∧ Below w.heap.size w w' := by
  obtain ⟨N, CS, S, hmk, hcv, hS⟩ := big_string
  have HS := Lib.hid hS
  obtain ⟨M, HM⟩ : ∃ M, Hid (M = 4096) := ⟨_, Lib.hid rfl⟩
  obtain ⟨b, hb, hbs⟩ : ∃ b : ByteArray, Hid ((if 20 < b0.size then b0.extract 0 20 else b0) = b) ∧ b.size ≤ 20 := by
    refine ⟨_, Lib.hid rfl, ?_⟩
    split
    · rw [ByteArray.size_extract]; omega
    · omega
  have HBS := Lib.hid hbs
  have hsend := Lib.hid (fun i (hi : i < M) => many_send i b (by have := HM.out; omega) HBS.out)
  have hfl := Lib.hid (show ∀ body, (many M b).full body by rw [HM.out]; exact many_full b)
  have hful := Lib.hid (full_send (many M b) 0 1 b rfl rfl (hfl.out b))
  have hfu2 := Lib.hid (full_copy (many M b) 7 _ (many_mem M b 7 (by have := HM.out; omega)) rfl (fun y _ => hfl.out _))
  have hlo := Lib.hid (show (many M b).lose 7 = ((many M b).cut 7, 0) by rw [HM.out]; exact many_lose b)
  have hcl := Lib.hid (show ((many M b).cut 7).l.length = 4095 by rw [HM.out]; exact cut_len b)
  have hbig := Lib.hid (full_send ((many M b).cut 7) 0 0 S rfl rfl (by unfold NetS.full; left; rw [HS.out]; omega))
  have hcp := Lib.hid (free_copy ((many M b).cut 7) 3 _ (show (⟨3, 0, 1, b⟩ : Letter) ∈ _ by rw [HM.out]; exact cut_mem b) rfl (fun y hy => by
    rw [cut_body M b y hy]
    unfold NetS.full
    rw [hcl.out]
    have := HBS.out
    have h2 : ((many M b).cut 7).next = (M : Int) := rfl
    have h3 := HM.out
    omega))
  clear hbs hS
  have hst : ∀ i, i < M → (i : Int) < 4096 := fun i hi => by have := HM.out; omega
  have hst2 : ¬ ((M : Int) < 4096) := by have := HM.out; omega
  go_enter Try.func3, Try.ntmps3
  go_wp2_with (fail)
  refine (Lone.new (w0 := w) 2 (by decide) (by decide) (Below.refl _ _)).mono ?_
  rintro e w1 ⟨rfl, h1⟩
  have H1 := Lib.hid h1
  clear h1
  go_wp2_with (fail)
  refine (works_true _).mono ?_
  rintro e w2 ⟨rfl, hb2⟩
  have H2 := Lib.hid (H1.out.below hb2)
  clear hb2
  have HST := Lib.hid hst
  have HST2 := Lib.hid hst2
  clear hst hst2
  by_cases h20 : 20 < b0.size
  all_goals
    have hb' := hb.out
    first | (have h20z : (20 : Int) < (b0.size : Int) := by omega) | (have h20z : (b0.size : Int) ≤ 20 := by omega)
    first | rw [if_pos h20] at hb' | (rw [if_neg h20] at hb'; have hb2 := hb'.symm; subst hb2)
    clear h20
    go_wp2_with (fail)
    go_loopg [5] M (fun gg s5 wr => ∃ i : Nat, i ≤ M ∧ M - i ≤ gg ∧ s5 = .int .i64 i ∧ Hid (Lone w.heap.size w wr w.heap.size (many i b)))
    case atStart => exact ⟨0, Nat.zero_le _, by omega, rfl, Lib.hid H2.out⟩
    case round =>
      obtain ⟨i, hi, hg, rfl, HL⟩ := hrel
      have i0 : (0 : Int) ≤ (i : Int) := by omega
      by_cases hlt : i < M
      · have ilt := HST.out i hlt
        go_wp2_with (fail)
        refine (HL.out.send (hsend.out i hlt) i0 (by have := HBS.out; omega)).mono ?_
        rintro e w3 ⟨rfl, h3⟩
        have H3 := Lib.hid h3
        clear h3
        go_wp2
        go_roundg (M - (i + 1))
        case measure => omega
        case rel => exact ⟨i + 1, hlt, Nat.le_refl _, by go_num, H3⟩
      · obtain rfl : i = M := by omega
        have ilt := HST2.out
        have hb1 : b.size ≤ 140737488355328 := by have := HBS.out; omega
        have hl4 : (many i b).l.length ≤ 1000000 := by rw [many_len]; have := HM.out; omega
        have hl5 : ((many i b).cut 7).l.length ≤ 1000000 := by rw [hcl.out]; omega
        have hbd : ∀ x ∈ (many i b).l, x.body.size ≤ 140737488355328 := fun x hx => by rw [many_body i b x hx]; exact hb1
        have hbd5 : ∀ x ∈ ((many i b).cut 7).l, x.body.size ≤ 140737488355328 := fun x hx => by rw [cut_body i b x hx]; exact hb1
        have HBD := Lib.hid hbd
        have HBD5 := Lib.hid hbd5
        have HL4 := Lib.hid hl4
        have HL5 := Lib.hid hl5
        clear hbd hbd5 hl4 hl5
        go_wp2_with (fail)
        refine (HL.out.send hful.out i0 hb1).mono ?_
        rintro e w3 ⟨rfl, h3⟩
        have H3 := Lib.hid h3
        clear h3
        go_wp2_with (fail)
        refine (H3.out.copy hfu2.out HL4.out i0 HBD.out).mono ?_
        rintro e w4 ⟨rfl, h4⟩
        have H4 := Lib.hid h4
        clear h4
        go_wp2_with (fail)
        refine (H4.out.lose hlo.out HL4.out).mono ?_
        rintro e w5 ⟨rfl, h5⟩
        have H5 := Lib.hid h5
        clear h5
        go_wp2_with (fail)
        refine ((H5.out.below ((Below.refl _ _).alloc (Nat.le_refl _) _)).send hbig.out i0 (by have := HS.out; omega)).mono ?_
        rintro e w6 ⟨rfl, h6⟩
        have H6 := Lib.hid h6
        clear h6
        go_wp2_with (fail)
        refine (H6.out.copy hcp.out HL5.out i0 HBD5.out).mono ?_
        rintro e w7 ⟨rfl, h7⟩
        have H7 := Lib.hid h7
        clear h7
        have him : (i : Int) = 4096 := by have := HM.out; omega
        have hnx : Hid (((many i b).cut 7).next = 4096) := Lib.hid him
        rw [hnx.out]
        go_wp2
        go_ret
        exact ⟨rfl, H7.out.back⟩
end Go.Proofs.Ytaaeiljeanfinaa
