-- written by a program of ours (a template of wip/pure, filled for this seat)
import Derived.Test.YtafmdlegelbfpaaPAllx0
import Derived.Test.YtafmdlegelbfpaaPAllx1072
import Derived.Test.YtafmdlegelbfpaaPAllx1084
import Derived.Test.YtafmdlegelbfpaaPAllx1085
import Derived.Test.YtafmdlegelbfpaaPAllx1095
import Derived.Test.YtafmdlegelbfpaaRef
/-! The document's Decode: it comes to the same. -/
namespace Go.Proofs.Ytafmdlegelbfpaa.Pure
set_option linter.unusedVariables false
set_option linter.unusedSimpArgs false
open Go Go.RowKit Go.Proofs.Ytafmdlegelbfpaa.PAll Go.Proofs.YtafmdlegelbfpaaW.PrintWords Go.Proofs.YtafmdlegelbfpaaW.PrintLast Go.Proofs.Ytafmdlegelbfpaa.Bytes Go.Proofs.Ytafmdlegelbfpaa.Fn

/-- What stands at a place. -/
theorem at_drop {b : ByteArray} {p : Nat} {t : List UInt8} (h : (L b).drop p = t) (i : Nat) (hi : i < t.length) : bt b ((p + i : Nat) : Int) = (t[i].toNat : Int) ∧ p + i < b.size := by
  subst h
  rw [List.length_drop, L_length] at hi
  refine ⟨?_, by omega⟩
  rw [bt_L b (p + i) (by rw [L_length]; omega), List.getElem_drop]
theorem drop_len {b : ByteArray} {p : Nat} {t : List UInt8} (h : (L b).drop p = t) (hp : p ≤ b.size) : b.size = p + t.length := by
  rw [← h, List.length_drop, L_length]; omega

theorem rnumber_l0 (b : ByteArray) (hb : b.size ≤ 262144) (p : Nat) (m : Nat) (hm : m ≤ 8) (t : List UInt8) (hp : p + 1 ≤ b.size) (ht : (L b).drop (p + 1) = t) (hl : m ≤ t.length) (hlast : (t.take m).getLast? ≠ some 0) :
    ∀ (i : Nat), i ≤ m → Ev (fun k => skylarkref01_number.l0 k b (p : Int) (m : Int) (unl ((t.take m).drop i) : Int) (i : Int)) (i64 (unl (t.take m)), ((p + 1 + m : Nat) : Int), 0) := by
  have hsz := drop_len ht hp
  intro i
  induction i with
  | zero =>
    intro _
    refine Ev.step (f := fun _ => some _) (fun k => ?_) (Ev.now _)
    simp only [skylarkref01_number.l0]
    rw [if_neg (by omega), List.drop_zero, wrap64_id (n := (p : Int) + 1) (by omega) (by omega), wrap64_id (n := (p : Int) + 1 + (m : Int)) (by omega) (by omega)]
    congr 1
  | succ i ih =>
    intro hi
    have hil : i < (t.take m).length := by rw [List.length_take]; omega
    have hit : i < t.length := by omega
    obtain ⟨hbt, hlt⟩ := at_drop ht i hit
    have hpi : wrap64 ((p : Int) + ((i + 1 : Nat) : Int)) = ((p + 1 + i : Nat) : Int) := by rw [wrap64_id (by omega) (by omega)]; omega
    have hge : (t.take m)[i] = t[i] := by simp
    have hd : (t.take m).drop i = t[i] :: (t.take m).drop (i + 1) := by rw [List.drop_eq_getElem_cons hil, hge]
    have hu := unl_lt ((t.take m).drop (i + 1))
    have hul : ((t.take m).drop (i + 1)).length ≤ 7 := by rw [List.length_drop, List.length_take]; omega
    have hu2 : unl ((t.take m).drop (i + 1)) < 256 ^ 7 := Nat.lt_of_lt_of_le hu (Nat.pow_le_pow_right (by omega) hul)
    have h8 := (t[i]).toNat_lt
    have hw : IntKind.u64.wrap (IntKind.u64.wrap ((unl ((t.take m).drop (i + 1)) : Int) * 256) + IntKind.u64.wrap ((t[i]).toNat : Int)) = (unl ((t.take m).drop i) : Int) := by
      rw [hd]
      simp only [unl, u64w']
      omega
    have hz : i + 1 = m → ¬ ((t[i]).toNat : Int) = 0 := by
      intro e h0
      apply hlast
      rw [List.getLast?_eq_getElem?, List.length_take, Nat.min_eq_left (by omega), show m - 1 = i by omega, List.getElem?_eq_getElem hil, hge]
      congr 1
      exact (c0 _).1 h0
    refine Ev.step (fun k => ?_) (ih (by omega))
    simp only [skylarkref01_number.l0]
    rw [if_pos (by omega), hpi, if_neg (by omega), wrap64_id (n := ((i + 1 : Nat) : Int) - 1) (by omega) (by omega)]
    have hi1 : ((i + 1 : Nat) : Int) - 1 = (i : Int) := by omega
    by_cases e : i + 1 = m
    · rw [if_pos (by omega), if_pos (by omega), if_pos (by omega), hbt, if_neg (hz e), hw, hi1]
    · rw [if_neg (by omega), if_pos (by omega), if_pos (by omega), hbt, hw, hi1]

/-- What is read at a place as a number. -/
def numR (p : Nat) : List UInt8 → Int × Int × Int
  | [] => (0, 0, 11)
  | m :: t => if m.toNat > 8 then (0, 0, 3) else if t.length < m.toNat then (0, 0, 11) else if (t.take m.toNat).getLast? = some 0 then (0, 0, 3) else (i64 (unl (t.take m.toNat)), ((p + 1 + m.toNat : Nat) : Int), 0)
theorem rnumber_f (b : ByteArray) (hb : b.size ≤ 262144) (p : Nat) (hp : p ≤ b.size) : Ev (fun k => skylarkref01_number.f k b (p : Int)) (numR p ((L b).drop p)) := by
  cases ht : (L b).drop p with
  | nil =>
    have hsz := drop_len ht hp
    simp only [List.length_nil] at hsz
    refine Ev.const fun k => ?_
    simp only [skylarkref01_number.f, numR]
    rw [if_pos (by omega)]
  | cons m t =>
    have hsz := drop_len ht hp
    simp only [List.length_cons] at hsz
    have hbm := (at_drop ht 0 (by simp)).1
    simp only [Nat.add_zero, List.getElem_cons_zero] at hbm
    have hm8 := m.toNat_lt
    have hwm : wrap64 (bt b (p : Int)) = (m.toNat : Int) := by rw [hbm]; exact wrap64_id (by omega) (by omega)
    have ht1 : (L b).drop (p + 1) = t := by
      rw [← List.drop_drop, ht]; rfl
    by_cases h1 : m.toNat > 8
    · refine Ev.const fun k => ?_
      simp only [skylarkref01_number.f, numR]
      rw [if_neg (by omega), if_pos (by omega), if_pos (by omega), hwm, if_pos (by omega), if_pos h1]
    · have start : ∀ k, skylarkref01_number.f k b (p : Int) = skylarkref01_number.l0 k b (p : Int) (m.toNat : Int) 0 (m.toNat : Int) := by
        intro k
        simp only [skylarkref01_number.f]
        rw [if_neg (by omega), if_pos (by omega), if_pos (by omega), hwm, if_neg (by omega)]
      refine Ev.congr start ?_
      by_cases h2 : t.length < m.toNat
      · refine Ev.step (f := fun _ => some _) (fun k => ?_) (Ev.now _)
        simp only [skylarkref01_number.l0, numR]
        rw [if_pos (by omega), wrap64_id (n := (p : Int) + (m.toNat : Int)) (by omega) (by omega), if_pos (by omega), if_neg h1, if_pos h2]
      · by_cases h3 : (t.take m.toNat).getLast? = some 0
        · have hm0 : 0 < m.toNat := by
            rcases Nat.eq_zero_or_pos m.toNat with h | h
            · rw [h] at h3; simp at h3
            · exact h
          obtain ⟨hbt, hlt⟩ := at_drop ht1 (m.toNat - 1) (by omega)
          have hpi : wrap64 ((p : Int) + (m.toNat : Int)) = ((p + 1 + (m.toNat - 1) : Nat) : Int) := by rw [wrap64_id (by omega) (by omega)]; omega
          have hz : ((t[m.toNat - 1]'(by omega)).toNat : Int) = 0 := by
            rw [List.getLast?_eq_getElem?, List.length_take, Nat.min_eq_left (by omega), List.getElem?_take_of_lt (by omega), List.getElem?_eq_getElem (by omega)] at h3
            injection h3 with h3
            rw [h3]; rfl
          refine Ev.step (f := fun _ => some _) (fun k => ?_) (Ev.now _)
          simp only [skylarkref01_number.l0, numR]
          rw [if_pos (by omega), hpi, if_neg (by omega), if_pos trivial, if_pos (by omega), if_pos (by omega), hbt, if_pos hz, if_neg h1, if_neg h2, if_pos h3]
        · have h := rnumber_l0 b hb p m.toNat (by omega) t (by omega) ht1 (by omega) h3 m.toNat (Nat.le_refl _)
          have hdr : (t.take m.toNat).drop m.toNat = [] := List.drop_of_length_le (by rw [List.length_take]; omega)
          rw [hdr] at h
          have e : numR p (m :: t) = (i64 (unl (t.take m.toNat)), ((p + 1 + m.toNat : Nat) : Int), 0) := by
            simp only [numR]
            rw [if_neg h1, if_neg h2, if_neg h3]
          rw [e]
          exact h

def fldP (sz : Nat) (l : List UInt8) : Bool × Int × ByteArray × Int × Int :=
  match fld l with
  | .error e => (false, 0, ⟨#[]⟩, 0, e)
  | .ok (x, r) => (x.f0, x.f1, x.f2, ((sz - r.length : Nat) : Int), 0)
theorem rfield_j1 (k : Nat) (b : ByteArray) (q n : Nat) (hq : q ≤ b.size) (hb : b.size ≤ 262144) (hn : n ≤ 262144) :
    skylarkref01_field.j1 (k + 1) b (n : Int) ((q : Nat) : Int) false = if b.size - q < n then some (false, 0, (⟨#[]⟩ : ByteArray), 0, 11) else some (true, 0, b.extract q (q + n), ((q + n : Nat) : Int), 0) := by
  have w1 : wrap64 ((b.size : Int) - (q : Int)) = ((b.size - q : Nat) : Int) := by rw [wrap64_id (by omega) (by omega)]; omega
  have w2 : wrap64 ((q : Int) + (n : Int)) = ((q + n : Nat) : Int) := by rw [wrap64_id (by omega) (by omega)]; omega
  simp only [skylarkref01_field.j1]
  rw [if_neg (by decide), w1, w2]
  by_cases h : b.size - q < n
  · rw [if_pos h, if_pos (by omega)]
  · rw [if_neg h, if_neg (by omega), if_pos (by omega), if_pos (by omega), if_pos (by omega), Int.toNat_natCast, Int.toNat_natCast]
set_option maxHeartbeats 1000000 in
theorem rfield_f (b : ByteArray) (hb : b.size ≤ 262144) (p : Nat) (hp : p < b.size) : Ev (fun k => skylarkref01_field.f k b (p : Int)) (fldP b.size ((L b).drop p)) := by
  cases ht : (L b).drop p with
  | nil =>
    have hsz := drop_len ht (by omega)
    simp only [List.length_nil] at hsz
    omega
  | cons c l =>
    have hsz := drop_len ht (by omega)
    simp only [List.length_cons] at hsz
    have hbc := (at_drop ht 0 (by simp)).1
    simp only [Nat.add_zero, List.getElem_cons_zero] at hbc
    have hc8 := c.toNat_lt
    have ht1 : (L b).drop (p + 1) = l := by
      rw [← List.drop_drop, ht]; rfl
    by_cases hk : c ≠ 78 ∧ c ≠ 84
    · have hr : fldP b.size (c :: l) = (false, 0, ⟨#[]⟩, 0, 3) := by cases l <;> simp [fldP, fld, hk]
      rw [hr]
      refine ⟨1, fun k hk1 => ?_⟩
      obtain ⟨k, rfl⟩ : ∃ j, k = j + 1 := ⟨k - 1, by omega⟩
      have q1 : ¬ ((c.toNat : Int) = 78) := fun h => hk.1 ((c78 c).1 h)
      have q2 : ((c.toNat : Int) != 84) = true := by
        rw [bne_iff_ne]; exact fun h => hk.2 ((c84 c).1 h)
      simp only [skylarkref01_field.f]
      rw [if_pos (by omega), if_pos (by omega), hbc, if_neg q1, q2]
      simp only [skylarkref01_field.j0]
      rfl
    · have start : ∀ k, skylarkref01_field.f k b (p : Int) = skylarkref01_field.j0 k b (p : Int) false := by
        intro k
        simp only [skylarkref01_field.f]
        rw [if_pos (by omega), if_pos (by omega), hbc]
        by_cases h78 : (c.toNat : Int) = 78
        · rw [if_pos h78]
        · have h84 : (c.toNat : Int) = 84 := by
            rw [c84]
            by_cases e : c = 84
            · exact e
            · exact absurd ⟨fun h => h78 ((c78 c).2 h), e⟩ hk
          rw [if_neg h78, h84]
          rfl
      refine Ev.congr start ?_
      obtain ⟨K, hn⟩ := rnumber_f b hb (p + 1) (by omega)
      rw [ht1] at hn
      have hw : wrap64 ((p : Int) + 1) = ((p + 1 : Nat) : Int) := by rw [wrap64_id (by omega) (by omega)]; omega
      -- the rest by what the number is
      have head : ∀ k, K ≤ k → skylarkref01_field.j0 (k + 1) b (p : Int) false = (if (numR (p + 1) l).2.2 = 0 then (if (c.toNat : Int) = 78 then (some (false, (numR (p + 1) l).1, (⟨#[]⟩ : ByteArray), (numR (p + 1) l).2.1, 0)) else (if (numR (p + 1) l).1 < 0 then (skylarkref01_field.j1 k b (numR (p + 1) l).1 (numR (p + 1) l).2.1 true) else (skylarkref01_field.j1 k b (numR (p + 1) l).1 (numR (p + 1) l).2.1 (decide ((numR (p + 1) l).1 > 262144))))) else (some (false, 0, (⟨#[]⟩ : ByteArray), 0, (numR (p + 1) l).2.2))) := by
        intro k hk1
        have h := hn k hk1
        dsimp only at h
        simp only [skylarkref01_field.j0]
        rw [if_neg (by decide), hw, h]
        simp only [Option.bind_some]
        rw [if_pos (show (0 : Int) ≤ (p : Int) by omega), if_pos (show (p : Int) < (b.size : Int) by omega), hbc]
      cases l with
      | nil =>
        refine ⟨K + 1, fun k hk1 => ?_⟩
        obtain ⟨k, rfl⟩ : ∃ j, k = j + 1 := ⟨k - 1, by omega⟩
        dsimp only
        have e0 : numR (p + 1) [] = (0, 0, 11) := rfl
        rw [head k (by omega), e0]
        simp only [fldP, fld]
        rw [if_neg (show ¬ ((11 : Int) = 0) by decide), if_neg hk]
      | cons m t =>
        simp only [List.length_cons] at hsz
        have ht2 : (L b).drop (p + 2) = t := by
          rw [← List.drop_drop, ht]; rfl
        have e0 : numR (p + 1) (m :: t) = if m.toNat > 8 then (0, 0, 3) else if t.length < m.toNat then (0, 0, 11) else if (t.take m.toNat).getLast? = some 0 then (0, 0, 3) else (i64 (unl (t.take m.toNat)), ((p + 1 + 1 + m.toNat : Nat) : Int), 0) := rfl
        by_cases h1 : m.toNat > 8
        · rw [if_pos h1] at e0
          refine ⟨K + 1, fun k hk1 => ?_⟩
          obtain ⟨k, rfl⟩ : ∃ j, k = j + 1 := ⟨k - 1, by omega⟩
          dsimp only
          rw [head k (by omega), e0]
          simp only [fldP, fld]
          rw [if_neg (by decide), if_neg hk, if_pos h1]
        rw [if_neg h1] at e0
        by_cases h2 : t.length < m.toNat
        · rw [if_pos h2] at e0
          refine ⟨K + 1, fun k hk1 => ?_⟩
          obtain ⟨k, rfl⟩ : ∃ j, k = j + 1 := ⟨k - 1, by omega⟩
          dsimp only
          rw [head k (by omega), e0]
          simp only [fldP, fld]
          rw [if_neg (by decide), if_neg hk, if_neg h1, if_pos h2]
        rw [if_neg h2] at e0
        by_cases h3 : (t.take m.toNat).getLast? = some 0
        · rw [if_pos h3] at e0
          refine ⟨K + 1, fun k hk1 => ?_⟩
          obtain ⟨k, rfl⟩ : ∃ j, k = j + 1 := ⟨k - 1, by omega⟩
          dsimp only
          rw [head k (by omega), e0]
          simp only [fldP, fld]
          rw [if_neg (by decide), if_neg hk, if_neg h1, if_neg h2, if_pos h3]
        rw [if_neg h3] at e0
        by_cases h78 : c = 78
        · refine ⟨K + 1, fun k hk1 => ?_⟩
          obtain ⟨k, rfl⟩ : ∃ j, k = j + 1 := ⟨k - 1, by omega⟩
          dsimp only
          rw [head k (by omega), e0]
          dsimp only
          rw [if_pos rfl, if_pos ((c78 c).2 h78)]
          simp only [fldP, fld]
          rw [if_neg hk, if_neg h1, if_neg h2, if_neg h3, if_pos h78]
          simp only [List.length_drop]
          congr 5
          omega
        have hu : unl (t.take m.toNat) < 18446744073709551616 := Nat.lt_of_lt_of_le (unl_lt _) (by
          have : (t.take m.toNat).length ≤ 8 := by rw [List.length_take]; omega
          calc 256 ^ (t.take m.toNat).length ≤ 256 ^ 8 := Nat.pow_le_pow_right (by omega) this
            _ = 18446744073709551616 := by decide)
        have q78 : ¬ ((c.toNat : Int) = 78) := fun h => h78 ((c78 c).1 h)
        by_cases h4 : unl (t.take m.toNat) > 262144
        · refine ⟨K + 2, fun k hk1 => ?_⟩
          obtain ⟨k, rfl⟩ : ∃ j, k = j + 2 := ⟨k - 2, by omega⟩
          dsimp only
          rw [head (k + 1) (by omega), e0]
          dsimp only
          rw [if_pos rfl, if_neg q78]
          have ej : ∀ x y, skylarkref01_field.j1 (k + 1) b x y true = some (false, 0, (⟨#[]⟩ : ByteArray), 0, 3) := fun x y => by simp only [skylarkref01_field.j1]; rfl
          simp only [fldP, fld]
          rw [if_neg hk, if_neg h1, if_neg h2, if_neg h3, if_neg h78, if_pos h4]
          have hbig := i64_big h4 hu
          generalize i64 (unl (t.take m.toNat)) = z at hbig ⊢
          by_cases h5 : z < 0
          · rw [if_pos h5, ej]
          · have h6 : z > 262144 := by rcases hbig with h | h; exact absurd h h5; exact h
            rw [if_neg h5, decide_eq_true h6, ej]
        · have hi := i64_small h4
          refine ⟨K + 2, fun k hk1 => ?_⟩
          obtain ⟨k, rfl⟩ : ∃ j, k = j + 2 := ⟨k - 2, by omega⟩
          have hj := rfield_j1 k b (p + 2 + m.toNat) (unl (t.take m.toNat)) (by omega) hb (by omega)
          dsimp only
          rw [head (k + 1) (by omega), e0]
          dsimp only
          rw [if_pos rfl, if_neg q78, hi, if_neg (show ¬ ((unl (t.take m.toNat) : Int) < 0) by omega), decide_eq_false (show ¬ ((unl (t.take m.toNat) : Int) > 262144) by omega), hj]
          have ef : fld (c :: m :: t) = if (t.drop m.toNat).length < unl (t.take m.toNat) then .error 11 else .ok (⟨true, 0, ⟨((t.drop m.toNat).take (unl (t.take m.toNat))).toArray⟩⟩, (t.drop m.toNat).drop (unl (t.take m.toNat))) := by
            simp only [fld]
            rw [if_neg hk, if_neg h1, if_neg h2, if_neg h3, if_neg h78, if_neg h4]
          by_cases h5 : (t.drop m.toNat).length < unl (t.take m.toNat)
          · rw [if_pos h5] at ef
            rw [List.length_drop] at h5
            rw [if_pos (by omega)]
            simp only [fldP, ef]
          · rw [if_neg h5] at ef
            rw [List.length_drop] at h5
            have ex : b.extract (p + 2 + m.toNat) (p + 2 + m.toNat + unl (t.take m.toNat)) = ⟨((t.drop m.toNat).take (unl (t.take m.toNat))).toArray⟩ := by
              apply of_L
              rw [L_extract, List.drop_take, Nat.add_sub_cancel_left, ← List.drop_drop, ht2]
            rw [if_neg (by omega), ex]
            simp only [fldP, ef, List.length_drop]
            congr 5
            omega

theorem rdecode_l0 (b : ByteArray) (hb : b.size ≤ 262144) : ∀ (n : Nat) (acc : List S110) (p : Nat), b.size - p ≤ n → p ≤ b.size → acc.length ≤ 4096 →
    Ev (fun k => skylarkref01_Decode.l0 k b acc (p : Int)) (dec b.size n acc ((L b).drop p)) := by
  intro n
  induction n with
  | zero =>
    intro acc p hn hp ha
    have hnil : (L b).drop p = [] := List.drop_of_length_le (by rw [L_length]; omega)
    rw [hnil]
    refine Ev.step (f := fun _ => some _) (fun k => ?_) (Ev.now _)
    simp only [skylarkref01_Decode.l0, dec]
    rw [if_neg (by omega)]
  | succ n ih =>
    intro acc p hn hp ha
    cases ht : (L b).drop p with
    | nil =>
      have hsz := drop_len ht hp
      simp only [List.length_nil] at hsz
      refine Ev.step (f := fun _ => some _) (fun k => ?_) (Ev.now _)
      simp only [skylarkref01_Decode.l0, dec]
      rw [if_neg (by omega)]
    | cons c l =>
      have hsz := drop_len ht hp
      simp only [List.length_cons] at hsz
      have hpos : (b.size : Int) - (((c :: l).length : Nat) : Int) = (p : Int) := by simp only [List.length_cons]; omega
      by_cases hfull : acc.length = 4096
      · refine Ev.step (f := fun _ => some _) (fun k => ?_) (Ev.now _)
        simp only [skylarkref01_Decode.l0, dec, skylarkref01_Fault.f]
        rw [if_pos (by omega), if_pos (by omega), if_pos hfull, hpos]
        rfl
      · obtain ⟨K, hf⟩ := rfield_f b hb p (by omega)
        rw [ht] at hf
        cases hq : fld (c :: l) with
        | error e =>
          have he := fld_err (l := c :: l) (by simp) hq
          refine ⟨K + 1, fun k hk => ?_⟩
          obtain ⟨k, rfl⟩ : ∃ j, k = j + 1 := ⟨k - 1, by omega⟩
          have h := hf k (by omega)
          dsimp only at h
          simp only [skylarkref01_Decode.l0, dec, skylarkref01_Fault.f]
          rw [if_pos (by omega), if_neg (by omega), if_neg hfull, h]
          simp only [Option.bind_some, fldP, hq]
          rw [if_neg (by omega), hpos]
        | ok xr =>
          obtain ⟨x, r⟩ := xr
          have hsh := fld_shorter hq
          obtain ⟨hb1, _⟩ := fld_back hq
          simp only [List.length_cons] at hsh
          have hr : (L b).drop (b.size - r.length) = r := by
            have e1 : (L b).drop p = one x ++ r := by rw [ht, hb1]
            have e2 : (one x).length + r.length = l.length + 1 := by
              have := congrArg List.length hb1
              simp only [List.length_cons, List.length_append] at this
              omega
            have e3 : b.size - r.length = p + (one x).length := by omega
            rw [e3, ← List.drop_drop, e1, List.drop_left]
          obtain ⟨K2, h2⟩ := ih (acc ++ [x]) (b.size - r.length) (by omega) (by omega) (by simp; omega)
          rw [hr] at h2
          refine ⟨max K K2 + 1, fun k hk => ?_⟩
          obtain ⟨k, rfl⟩ : ∃ j, k = j + 1 := ⟨k - 1, by omega⟩
          have h := hf k (by omega)
          have h2 := h2 k (by omega)
          dsimp only at h h2
          simp only [skylarkref01_Decode.l0, dec, skylarkref01_Fault.f]
          rw [if_pos (by omega), if_neg (by omega), if_neg hfull, h]
          simp only [Option.bind_some, fldP, hq]
          rw [if_pos trivial, if_pos (by omega)]
          exact h2
theorem rdecode_f (b : ByteArray) : Ev (fun k => skylarkref01_Decode.f k b) (Fn.decode b) := by
  unfold Fn.decode
  by_cases hb : (L b).length > 262144
  · rw [if_pos hb]
    refine Ev.const fun k => ?_
    simp only [skylarkref01_Decode.f, skylarkref01_Fault.f]
    rw [if_pos (by rw [← L_length]; omega)]
    rfl
  · rw [if_neg hb]
    rw [L_length] at hb ⊢
    obtain ⟨K, h⟩ := rdecode_l0 b (by omega) b.size [] 0 (by omega) (by omega) (by simp)
    refine ⟨K, fun k hk => ?_⟩
    have h := h k hk
    rw [List.drop_zero] at h
    simp only [skylarkref01_Decode.f]
    rw [if_neg (by omega)]
    exact h
end Go.Proofs.Ytafmdlegelbfpaa.Pure
