import Derived.Test.YtkmbbipempbilaaLend
import Derived.Test.YtkmbbipempbilaaLists
import Derived.Lib.Hide
/-! KeptFields, of a list that was lent. -/
namespace Go.Proofs.Ytkmbbipempbilaa.Fn
set_option linter.unusedVariables false
set_option linter.unusedSimpArgs false
open Go Go.RowKit Go.Proofs.YtkmbbipempbilaaW.PrintWords Go.Proofs.YtkmbbipempbilaaW.PrintLast Go.Proofs.Ytkmbbipempbilaa.PAll Go.Proofs.Ytkmbbipempbilaa.Bytes

def mark : S35 := ⟨false, (-77), ⟨#[]⟩⟩
theorem C_front {w : World} {A : Option Addr} {l : List S35} {x : S35} (h : Kd.C k35 w A (l.length + 1) (l ++ [x])) : Kd.C k35 w A l.length l := by
  obtain ⟨h1, h2, h3⟩ := h
  refine ⟨rfl, by omega, fun h0 => ?_⟩
  obtain ⟨ad, hA, hc⟩ := h3 (by omega)
  exact ⟨ad, hA, fun j p hp => hc j p (by rw [List.getElem?_append_left (List.getElem?_eq_some_iff.1 hp).1]; exact hp)⟩

theorem cut_far (t e : TypeId) (kh : IntKind) {i : TypeInfo} (ht : Try.prog.underlying t = some (.slice e)) (hi : Try.prog.info? e = some i) (A : Option Addr) (n c : Nat) (j : Int) (h0 : 0 ≤ j) (hm : j ≤ c) :
    ∀ W : World, (Instr.slice t (.slice A n c) none (some (.int kh j)) none).run Try.prog W = .ok (.slice A j.toNat c) W := by
  intro W
  have hel : Try.prog.elem t = e := by simp [Program.elem, ht]
  have hu : Try.prog.underlying t = some (.slice (Try.prog.elem t)) := by rw [hel]; exact ht
  have ha : (A.map fun x => x.add 0) = A := by cases A <;> simp [Addr.add]
  rw [run_slice_h W t A n c hu kh j h0 hm, hel]
  simp [sizeOf, typeInfo, hi, sliced, Result.andThen, ha]

set_option maxHeartbeats 1000000 in
theorem kept_calls (A0 : Option Addr) (c0 : Nat) (l : List S35) (A1 : Option Addr) (c1 : Nat) (w : World) (h0 : Kd.C k35 w A0 (l.length + 1) (l ++ [mark])) (hc0 : l.length + 1 ≤ c0) (h1 : Kd.C k35 w A1 l.length l) (hc1 : l.length ≤ c1) (hl : l.length ≤ 4398046511104) :
    Calls Try.prog 19 #[.slice A0 l.length c0, .slice A1 l.length c1] w fun e w' => e = .returned (.bool true) ∧ Below w.heap.size w w' := by
  obtain ⟨K, hs⟩ := same_f l (by omega)
  have HS := Lib.hid (skylarkbook_SameFields.calls K A0 c0 l A1 c1 l true w (C_front h0) (by omega) h1 hc1 (hs K (Nat.le_refl _)))
  have H0 := Lib.hid h0
  obtain ⟨ad, rfl⟩ : ∃ ad, A0 = some ad := by
    obtain ⟨_, _, h3⟩ := h0
    obtain ⟨ad, hA, _⟩ := h3 (by omega)
    exact ⟨ad, hA⟩
  clear h0 h1 hs
  go_enter Try.func19, Try.ntmps19
  go_wp2_with (fail)
  refine HS.out.mono ?_
  rintro e w' ⟨rfl, hD⟩
  have hB : Below w.heap.size w w' := by exact hD.below
  obtain ⟨ad', had, _, hcN, _⟩ := at_T35 (Kd.C_below H0.out hB) (l.length : Int) (by omega) (by omega)
  injection had with had
  subst had
  have hrd : (rd_T35 (l ++ [mark]) (l.length : Int)).f1 = -77 := by
    rw [rd_T35_get _ _ (by simp)]
    simp [mark]
  rw [hrd, Int.toNat_natCast] at hcN
  clear hrd
  obtain ⟨i0, hi0, _⟩ := info_parts info35
  have hcut := cut_far 22 35 .i64 Try.underlying22 hi0 (some ad) l.length c0 ((l.length : Int) + 1) (by omega) (by omega)
  have ht : ((l.length : Int) + 1).toNat = l.length + 1 := by omega
  rw [ht] at hcut
  clear hi0
  go_wp2
  go_ret
  exact ⟨rfl, hB⟩
end Go.Proofs.Ytkmbbipempbilaa.Fn
