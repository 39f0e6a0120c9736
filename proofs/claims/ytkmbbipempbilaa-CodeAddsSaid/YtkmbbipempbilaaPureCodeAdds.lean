/- The sum of bytes and one more is found of theirs, at every text of at most 20000 bytes (of longer ones the law asks nothing) and every byte. No condition. -/
import Derived.Test.YtkmbbipempbilaaPAllx14
import Derived.Test.YtkmbbipempbilaaFn4
namespace Go.Proofs.Ytkmbbipempbilaa.Pure
set_option linter.unusedVariables false
set_option linter.unusedSimpArgs false
open Go.RowKit Go.Proofs.Ytkmbbipempbilaa.PAll Go.Proofs.YtkmbbipempbilaaW.PrintWords Go.Proofs.YtkmbbipempbilaaW.PrintLast Go.Proofs.Ytkmbbipempbilaa.Bytes Go.Proofs.Ytkmbbipempbilaa.Fn

theorem CodeAdds : skylarklaw01_CodeAdds.Pure := by
  intro s y hs hy
  have hy' : 0 ≤ y ∧ y < 256 := by
    simp [Lit.wf, IntKind.min, IntKind.max, IntKind.bits, IntKind.signed] at hy
    omega
  obtain ⟨K1, h1⟩ := works_f
  dsimp only at h1
  by_cases hbig : s.size > 20000
  · refine ⟨K1, ?_⟩
    simp only [skylarklaw01_CodeAdds.f]
    rw [h1 _ (by omega)]
    simp only [Option.bind_some, if_true]
    rw [if_pos (by omega)]
  have hy1 : I [UInt8.ofNat y.toNat] = [y] := by
    simp [I]
    omega
  have hyL : L (strOfNums [y]) = [UInt8.ofNat y.toNat] := by rw [← hy1, strOf_I]
  have hysz : (strOfNums [y]).size = 1 := by rw [← L_length, hyL]; rfl
  have hsz2 : (s ++ strOfNums [y]).size = s.size + 1 := by rw [← L_length, L_append, List.length_append, L_length, hyL]; rfl
  obtain ⟨K2, h2⟩ := sum_f s (by omega)
  obtain ⟨K3, h3⟩ := sum_f (s ++ strOfNums [y]) (by omega)
  dsimp only at h2 h3
  refine ⟨max K1 (max K2 K3), ?_⟩
  simp only [skylarklaw01_CodeAdds.f]
  rw [h1 _ (by omega)]
  simp only [Option.bind_some, if_true]
  rw [if_neg (by omega), h2 _ (by omega)]
  simp only [Option.bind_some]
  rw [if_pos (by omega), h3 _ (by omega), L_append, hyL]
  simp only [Option.bind_some]
  have hb := sumSt_lt (L s) (1, 0) (by decide) (by decide)
  have hu : (UInt8.ofNat y.toNat).toNat = y.toNat := by rw [UInt8.toNat_ofNat']; omega
  unfold sum
  rw [sumSt_append]
  simp only [sumSt, hu]
  generalize (sumSt (1, 0) (L s)).1 = a at *
  generalize (sumSt (1, 0) (L s)).2 = c at *
  congr 1
  rw [beq_iff_eq, Int.tdiv_eq_ediv_of_nonneg (by omega), Int.tmod_eq_emod_of_nonneg (by omega)]
  omega

end Go.Proofs.Ytkmbbipempbilaa.Pure
