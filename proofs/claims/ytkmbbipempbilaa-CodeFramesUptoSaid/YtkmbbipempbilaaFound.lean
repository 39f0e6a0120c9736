import Derived.Test.YtkmbbipempbilaaTorn
import Derived.Test.YtkmbbipempbilaaTexts
/-! Frames that are found. -/
namespace Go.Proofs.Ytkmbbipempbilaa.Fn
set_option linter.unusedVariables false
set_option linter.unusedSimpArgs false
open Go Go.RowKit Go.Proofs.YtkmbbipempbilaaW.PrintWords Go.Proofs.YtkmbbipempbilaaW.PrintLast Go.Proofs.Ytkmbbipempbilaa.PAll Go.Proofs.Ytkmbbipempbilaa.Bytes

/-- Frames, one behind the other. -/
def flat (l : List ByteArray) : List UInt8 := l.flatMap fun b => frame (L b)
theorem flat_cons (b : ByteArray) (l : List ByteArray) : flat (b :: l) = frame (L b) ++ flat l := rfl
theorem flat_snoc (l : List ByteArray) (b : ByteArray) : flat (l ++ [b]) = flat l ++ frame (L b) := by simp [flat]
theorem flat_length (l : List ByteArray) (h : ∀ b ∈ l, b.size ≤ 65536) : (flat l).length ≤ l.length * 65544 := by
  induction l with
  | nil => simp [flat]
  | cons b l ih =>
    rw [flat_cons, List.length_append, frame_length, L_length, List.length_cons]
    have := h b (by simp)
    have := ih (fun x hx => h x (by simp [hx]))
    omega
theorem mk_L (b : ByteArray) : (⟨(L b).toArray⟩ : ByteArray) = b := L_inj (L_mk _)
theorem frames_l0 (s : ByteArray) (hs : s.size ≤ 9223372036854775806) (tail : List UInt8) (ht : tail.length < 4) : ∀ (rest acc : List ByteArray) (p : Nat), (L s).drop p = flat rest ++ tail → p ≤ s.size → (∀ b ∈ rest, b.size ≤ 65536) → acc.length + rest.length < 8796093022208 →
    Ev (fun k => code_Frames.l0 k s acc (p : Int)) (acc ++ rest, ((p + (flat rest).length : Nat) : Int)) := by
  intro rest
  induction rest with
  | nil =>
    intro acc p hd hp _ _
    obtain ⟨K, h⟩ := unframe_f s p hp hs
    rw [hd] at h
    have e : unfr (p : Int) (flat [] ++ tail) = (⟨#[]⟩, 0, (p : Int), 11) := by
      unfold unfr
      rw [if_pos (by simpa [flat] using ht)]
    rw [e] at h
    refine ⟨K + 1, fun k hk => ?_⟩
    obtain ⟨k, rfl⟩ : ∃ j, k = j + 1 := ⟨k - 1, by omega⟩
    have h := h k (by omega)
    dsimp only at h
    simp only [code_Frames.l0]
    rw [h]
    simp only [Option.bind_some]
    rw [if_pos (by simp)]
    simp [flat]
  | cons b rest ih =>
    intro acc p hd hp hb hl
    simp only [List.length_cons] at hl
    have hb0 := hb b (by simp)
    obtain ⟨K, h⟩ := unframe_f s p hp hs
    rw [hd, flat_cons, List.append_assoc, unfr_frame _ _ _ (by rw [L_length]; exact hb0), mk_L, L_length] at h
    have hlen : s.size = p + ((b.size + 8) + ((flat rest).length + tail.length)) := by
      have := congrArg List.length hd
      rw [List.length_drop, L_length, flat_cons, List.length_append, List.length_append, frame_length, L_length] at this
      omega
    have hd' : (L s).drop (p + (b.size + 8)) = flat rest ++ tail := by
      rw [← List.drop_drop, hd, flat_cons, List.append_assoc, List.drop_left' (by rw [frame_length, L_length])]
    obtain ⟨K2, h2⟩ := ih (acc ++ [b]) (p + (b.size + 8)) hd' (by omega) (fun x hx => hb x (by simp [hx])) (by simp; omega)
    refine ⟨max K K2 + 1, fun k hk => ?_⟩
    obtain ⟨k, rfl⟩ : ∃ j, k = j + 1 := ⟨k - 1, by omega⟩
    have h := h k (by omega)
    have h2 := h2 k (by omega)
    dsimp only at h h2
    simp only [code_Frames.l0]
    rw [h]
    simp only [Option.bind_some]
    rw [if_neg (by decide), if_pos (by omega)]
    have ep : (p : Int) + ((b.size + 8 : Nat) : Int) = ((p + (b.size + 8) : Nat) : Int) := by omega
    rw [ep, h2]
    congr 2
    · simp
    · rw [flat_cons, List.length_append, frame_length, L_length]; omega
theorem frames_f (s : ByteArray) (bs : List ByteArray) (tail : List UInt8) (ht : tail.length < 4) (hs : L s = flat bs ++ tail) (hb : ∀ b ∈ bs, b.size ≤ 65536) (hl : bs.length ≤ 30) :
    Ev (fun k => code_Frames.f k s) (bs, ((flat bs).length : Int)) := by
  have hf := flat_length bs hb
  have h := frames_l0 s (by rw [← L_length, hs, List.length_append]; omega) tail ht bs [] 0 (by rw [List.drop_zero, hs]) (by omega) hb (by simp; omega)
  rw [List.nil_append, Nat.zero_add] at h
  exact h
theorem texts_l0 (l : List ByteArray) (hl : l.length ≤ 9223372036854775806) : ∀ (d i : Nat), i + d = l.length → Ev (fun k => skylarkbook_SameTexts.l0 k l l (i : Int)) true := by
  intro d
  induction d with
  | zero =>
    intro i hi
    refine Ev.step (f := fun _ => some true) (fun k => ?_) (Ev.now _)
    simp only [skylarkbook_SameTexts.l0]
    rw [if_neg (by omega)]
  | succ d ih =>
    intro i hi
    refine Ev.step (fun k => ?_) (ih (i + 1) (by omega))
    simp only [skylarkbook_SameTexts.l0]
    rw [if_pos (by omega), if_pos (by omega), if_pos (by omega), if_pos trivial, wrap64_id (by omega) (by omega)]
    rfl
theorem texts_f (l : List ByteArray) (hl : l.length ≤ 9223372036854775806) : Ev (fun k => skylarkbook_SameTexts.f k l l) true := by
  refine Ev.congr (fun k => ?_) (texts_l0 l hl l.length 0 (by omega))
  simp only [skylarkbook_SameTexts.f]
  rw [if_pos trivial]
  rfl
/-- A frame, wherever it stands. -/
theorem found_f (ahead b behind s : ByteArray) (hs : L s = frame (L b)) (hb : b.size ≤ 65536) (ha : ahead.size ≤ 140737488351232) (hh : behind.size ≤ 140737488351232) :
    Ev (fun k => code_Unframe.f k (ahead ++ s ++ behind) (ahead.size : Int)) (b, (ahead.size : Int) + (s.size : Int), 0, 0) := by
  have hsz : s.size = b.size + 8 := by rw [← L_length, hs, frame_length, L_length]
  have hL : L (ahead ++ s ++ behind) = L ahead ++ (frame (L b) ++ L behind) := by rw [L_append, L_append, hs, List.append_assoc]
  have hz : (ahead ++ s ++ behind).size = ahead.size + (b.size + 8 + behind.size) := by rw [← L_length, hL]; simp only [List.length_append, frame_length, L_length]
  have h := unframe_f (ahead ++ s ++ behind) ahead.size (by omega) (by omega)
  rw [hL, List.drop_left' (L_length _), unfr_frame _ _ _ (by rw [L_length]; exact hb), mk_L, L_length] at h
  rw [hsz]
  exact h
end Go.Proofs.Ytkmbbipempbilaa.Fn
