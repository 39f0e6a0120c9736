/- Of every int64 the bytes that Encode makes of it are N, how many follow, and as few as say it. No condition. -/
import Derived.Test.YtkmbbipempbilaaPAllx12
import Derived.Test.YtkmbbipempbilaaFn4
namespace Go.Proofs.Ytkmbbipempbilaa.Pure
set_option linter.unusedVariables false
set_option linter.unusedSimpArgs false
open Go.RowKit Go.Proofs.Ytkmbbipempbilaa.PAll Go.Proofs.YtkmbbipempbilaaW.PrintWords Go.Proofs.YtkmbbipempbilaaW.PrintLast Go.Proofs.Ytkmbbipempbilaa.Bytes Go.Proofs.Ytkmbbipempbilaa.Fn

theorem numbers_l0 (s : ByteArray) (N : Nat) (hN : N < 256 ^ 8) (hs : L s = 78 :: num N) : ∀ (r c : Nat), c + (digs r).length = (digs N).length →
    Ev (fun k => skylarklaw01_CodeNumbers.l0 k s 0 ((c + 2 : Nat) : Int) (r : Int)) true := by
  intro r
  have h8 := digs_length 8 N hN
  have hsz : s.size = (digs N).length + 2 := by rw [← L_length, hs]; simp [num]
  induction r using Nat.strongRecOn with
  | _ r ih =>
    intro c hc
    rcases Nat.eq_zero_or_pos r with rfl | hp
    · rw [digs_zero, List.length_nil] at hc
      have hb0 : bt s 0 = 78 := by
        have := bt_L s 0 (by rw [hs]; simp)
        simpa [hs] using this
      have hb1 : bt s 1 = ((digs N).length : Int) := by
        have := bt_L s 1 (by rw [hs]; simp [num])
        simp only [hs, num, List.getElem_cons_succ, List.getElem_cons_zero] at this
        rw [show ((1 : Nat) : Int) = 1 from rfl] at this
        rw [this, UInt8.toNat_ofNat']
        omega
      refine Ev.step (f := fun _ => some true) (fun k => ?_) (Ev.now _)
      simp only [skylarklaw01_CodeNumbers.l0]
      rw [if_neg (by omega), if_pos trivial, if_pos (by omega), if_pos (by omega), if_pos hb0, if_pos (by omega), hb1, wrap64_id (by omega) (by omega), wrap64_id (by omega) (by omega)]
      congr 1
      rw [beq_iff_eq]
      omega
    · have hd := digs_pos hp
      rw [hd, List.length_cons] at hc
      have := ih (r / 256) (by omega) (c + 1) (by omega)
      refine Ev.step (fun k => ?_) this
      simp only [skylarklaw01_CodeNumbers.l0]
      rw [if_pos (by omega), wrap64_id (by omega) (by omega)]
      rfl

theorem CodeNumbers : skylarklaw01_CodeNumbers.Pure := by
  intro n hw
  obtain ⟨K1, h1⟩ := works_f
  obtain ⟨K2, h2⟩ := encode_f [⟨false, n, ⟨#[]⟩⟩] (by intro x hx; simp at hx; subst hx; exact (by decide : (⟨#[]⟩ : ByteArray).size ≤ 140737488351232))
  have he : enc [⟨false, n, ⟨#[]⟩⟩] = 78 :: num (u64 n) := by simp [enc, one]
  have hl : (78 :: num (u64 n)).length ≤ 10 := by
    have := digs_u64 n
    simp only [List.length_cons, num]
    omega
  have hen : encode [⟨false, n, ⟨#[]⟩⟩] = (strOfNums (I (78 :: num (u64 n))), 0) := by
    unfold encode
    rw [if_neg (by simp), if_neg (by simp [ok, L]), he, if_neg (by omega)]
  obtain ⟨K3, h3⟩ := numbers_l0 (strOfNums (I (78 :: num (u64 n)))) (u64 n) (u64_lt n) (strOf_I _) (u64 n) 0 (by omega)
  dsimp only at h1 h2 h3
  refine ⟨max K1 (max K2 K3), ?_⟩
  simp only [skylarklaw01_CodeNumbers.f]
  rw [h1 _ (by omega)]
  simp only [Option.bind_some, if_true]
  rw [h2 _ (by omega), hen]
  simp only [Option.bind_some]
  rw [u64_wrap]
  exact h3 _ (by omega)

end Go.Proofs.Ytkmbbipempbilaa.Pure
