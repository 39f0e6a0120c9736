import Derived.Test.YtaghdopickgpgaaDoorDkK
namespace Go.Proofs.YtaghdopickgpgaaDoor
open Go Go.RowKit
set_option linter.unusedVariables false
set_option linter.unusedSimpArgs false

/-! Crash, plain. -/
def keepN (tail d : Int) : Int := max 0 d % (tail + 1)
def tornF (f : DF) (keep : Int) : DF := ⟨f.has.extract 0 (f.safe + keep).toNat, f.safe + keep⟩
def tailF (f : DF) : Int := (f.has.size : Int) - f.safe
/-- A file behind a crash, and the draws that are left. -/
def crash1 (f : DF) (ds : List Int) : DF × List Int :=
  if tailF f = 0 then (f, ds) else match ds with
    | [] => (tornF f 0, [])
    | d :: ds => (tornF f (keepN (tailF f) d), ds)
def crashL : Files → List Int → Files
  | [], _ => []
  | p :: fs, ds => (p.1, (crash1 p.2 ds).1) :: crashL fs (crash1 p.2 ds).2
def DkS.crashed (s : DkS) (ds : List Int) : DkS := ⟨s.room, total (crashL s.fs ds), crashL s.fs ds, false, false, 0⟩
theorem crashL_names (fs : Files) (ds : List Int) : (crashL fs ds).map (·.1) = fs.map (·.1) := by
  induction fs generalizing ds with
  | nil => rfl
  | cons p fs ih => rw [crashL, List.map_cons, List.map_cons, ih]
theorem putF_there {pre post : Files} {k : ByteArray} {f0 f : DF} (h : (pre ++ (k, f0) :: post).Pairwise fun p q => ltB p.1 q.1 = true) : putF (pre ++ (k, f0) :: post) k f = pre ++ (k, f) :: post := by
  rw [List.pairwise_append] at h
  obtain ⟨_, h2, h3⟩ := h
  obtain ⟨h4, _⟩ := List.pairwise_cons.1 h2
  have nlt : ∀ a b : ByteArray, ltB a b = true → ltB b a = false := fun a b hab => by
    cases hh : ltB b a with
    | false => rfl
    | true => have := ltB_trans hab hh; rw [ltB_irrefl] at this; cases this
  unfold putF
  have e1 : (pre ++ (k, f0) :: post).filter (fun p => ltB p.1 k) = pre := by
    rw [List.filter_append, List.filter_cons_of_neg (by simp [ltB_irrefl]), List.filter_eq_self.2 fun p hp => h3 p hp (k, f0) (by simp)]
    rw [List.filter_eq_nil_iff.2 fun p hp => by rw [nlt _ _ (h4 p hp)]; simp]
    simp
  have e2 : (pre ++ (k, f0) :: post).filter (fun p => ltB k p.1) = post := by
    rw [List.filter_append, List.filter_cons_of_neg (by simp [ltB_irrefl]), List.filter_eq_nil_iff.2 fun p hp => by rw [nlt _ _ (h3 p hp (k, f0) (by simp))]; simp]
    rw [List.filter_eq_self.2 fun p hp => h4 p hp]
    simp
  rw [e1, e2]
theorem look_there {pre post : Files} {k : ByteArray} {f0 : DF} (h : (pre ++ (k, f0) :: post).Pairwise fun p q => ltB p.1 q.1 = true) : look (pre ++ (k, f0) :: post) k = some f0 := by
  rw [List.pairwise_append] at h
  obtain ⟨-, -, h3⟩ := h
  induction pre with
  | nil => rw [List.nil_append, look_cons, if_pos rfl]
  | cons p pre ih =>
    rw [List.cons_append, look_cons, if_neg (ltB_ne (h3 p (by simp) (k, f0) (by simp)))]
    exact ih (fun a ha b hb => h3 a (by simp [ha]) b hb)
theorem crash1_ok {f : DF} (h : 0 ≤ f.safe ∧ f.safe ≤ (f.has.size : Int)) (ds : List Int) : 0 ≤ (crash1 f ds).1.safe ∧ (crash1 f ds).1.safe ≤ ((crash1 f ds).1.has.size : Int) ∧ (crash1 f ds).1.has.size ≤ f.has.size := by
  have key : ∀ keep : Int, 0 ≤ keep → keep ≤ tailF f → 0 ≤ (tornF f keep).safe ∧ (tornF f keep).safe ≤ ((tornF f keep).has.size : Int) ∧ (tornF f keep).has.size ≤ f.has.size := by
    intro keep h0 h1
    unfold tornF tailF at *
    simp only [ByteArray.size_extract]
    omega
  unfold crash1
  split
  · exact ⟨h.1, h.2, Nat.le_refl _⟩
  · cases ds with
    | nil => exact key 0 (Int.le_refl _) (by unfold tailF; omega)
    | cons d ds =>
      have ht : 0 ≤ tailF f := by unfold tailF; omega
      exact key _ (Int.emod_nonneg _ (by omega)) (by have := Int.emod_lt_of_pos (max 0 d) (show 0 < tailF f + 1 by omega); unfold keepN; omega)
end Go.Proofs.YtaghdopickgpgaaDoor
