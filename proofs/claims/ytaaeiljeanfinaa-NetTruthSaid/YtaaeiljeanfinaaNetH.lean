import Derived.Test.YtaaeiljeanfinaaNetG
namespace Go.Proofs.Ytaaeiljeanfinaa
open Go Go.RowKit
set_option linter.unusedVariables false
set_option linter.unusedSimpArgs false

def NetS.pos (s : NetS) (id : Int) : Option Nat := if 0 ≤ s.find id then some (s.find id).toNat else none
theorem NetS.pos_cases (s : NetS) (id : Int) : (s.pos id = none ∧ s.find id = -1 ∧ ∀ x ∈ s.l, (x.id == id) = false) ∨ ∃ i, ∃ h : i < s.l.length, s.pos id = some i ∧ s.find id = (i : Int) := by
  unfold NetS.pos NetS.find
  rcases idx_spec (fun x : Letter => x.id == id) s.l with ⟨h, hx⟩ | ⟨k, hk, h, _⟩
  · left; rw [h]; exact ⟨by simp, rfl, hx⟩
  · right; rw [h]; exact ⟨k, hk, by simp, rfl⟩
def Letter.zero : Letter := ⟨0, 0, 0, ⟨#[]⟩⟩
def NetS.cut (s : NetS) (i : Nat) : NetS := { s with l := s.l.eraseIdx i }
def NetS.lose (s : NetS) (id : Int) : NetS × Int := match s.pos id with | none => (s, 5) | some i => (s.cut i, 0)
def NetS.isParted (s : NetS) (a b : Int) : Bool := s.parted.any fun x : Pr => min a b == x.1 && max a b == x.2
def NetS.take (s : NetS) (id : Int) : NetS × Letter × Int := match s.pos id with
  | none => (s, Letter.zero, 5)
  | some i => if s.isParted (s.l.getD i Letter.zero).src (s.l.getD i Letter.zero).dst then (s, Letter.zero, 4) else (s.cut i, s.l.getD i Letter.zero, 0)
def NetS.copy (s : NetS) (id : Int) : NetS × Int × Int := match s.pos id with
  | none => (s, 0, 5)
  | some i => s.put (s.l.getD i Letter.zero).src (s.l.getD i Letter.zero).dst (s.l.getD i Letter.zero).body

theorem net_lose (F : Nat → Prop) (g : Nat) (s : NetS) (id : Int) (w : World) (h : NetAt w F g s) (hl : s.l.length ≤ 1000000) :
    Calls Try.prog 12 #[.pointer (some ⟨g, 0, none⟩), .int .i64 id] w fun e w' => e = .returned (.int .i64 (s.lose id).2) ∧ NetPost w F g (s.lose id).1 w' := by
  have ha := net_at F g s id w h (by omega)
  have H := Lib.hid h
  clear h
  rcases s.pos_cases id with ⟨h1, h2, _⟩ | ⟨i, hi, h1, h2⟩
  · have HS := Lib.hid (show s.lose id = (s, 5) by unfold NetS.lose; rw [h1])
    rw [h2] at ha
    generalize s.lose id = r at HS ⊢
    obtain rfl : r = (s, 5) := HS.out
    clear h1 h2
    go_enter Try.func12, Try.ntmps12
    go_wp2_with (fail)
    refine ha.mono ?_
    rintro e w' ⟨rfl, hb'⟩
    go_wp2
    go_ret
    exact ⟨rfl, NetPost.of_below H.out hb'⟩
  · have HS := Lib.hid (show s.lose id = (s.cut i, 0) by unfold NetS.lose; rw [h1])
    rw [h2] at ha
    generalize s.lose id = r at HS ⊢
    obtain rfl : r = (s.cut i, 0) := HS.out
    have hp := fun W hW => net_pull F g s i hi W hW (by omega)
    generalize s.l[i].val = x at hp
    clear h1 h2 HS
    have hiz : (0 : Int) ≤ (i : Int) := by omega
    go_enter Try.func12, Try.ntmps12
    go_wp2_with (fail)
    refine ha.mono ?_
    rintro e w' ⟨rfl, hb'⟩
    have HB := Lib.hid hb'
    clear hb' ha
    go_wp2_with (fail)
    refine (hp _ (H.out.below HB.out)).mono ?_
    rintro e w2 ⟨rfl, hk, hn⟩
    have HP := Lib.hid (NetPost.kept hk hn)
    clear hk hn hp
    go_wp2
    go_ret
    exact ⟨rfl, HP.out.after HB.out⟩

theorem net_copy (F : Nat → Prop) (g : Nat) (s : NetS) (id : Int) (w : World) (h : NetAt w F g s) (hl : s.l.length ≤ 1000000) (hn : 0 ≤ s.next) (hs : ∀ x ∈ s.l, x.body.size ≤ 140737488355328) :
    Calls Try.prog 11 #[.pointer (some ⟨g, 0, none⟩), .int .i64 id] w fun e w' => e = .returned (.tuple #[.int .i64 (s.copy id).2.1, .int .i64 (s.copy id).2.2]) ∧ NetPost w F g (s.copy id).1 w' := by
  have ha := net_at F g s id w h (by omega)
  have H := Lib.hid h
  rcases s.pos_cases id with ⟨h1, h2, _⟩ | ⟨i, hi, h1, h2⟩
  · have HS := Lib.hid (show s.copy id = (s, 0, 5) by unfold NetS.copy; rw [h1])
    rw [h2] at ha
    generalize s.copy id = r at HS ⊢
    obtain rfl : r = (s, 0, 5) := HS.out
    clear h1 h2 h hs
    go_enter Try.func11, Try.ntmps11
    go_wp2_with (fail)
    refine ha.mono ?_
    rintro e w' ⟨rfl, hb'⟩
    go_wp2
    go_ret2
    exact ⟨rfl, NetPost.of_below H.out hb'⟩
  · have hg : s.l.getD i Letter.zero = s.l[i] := by simp [List.getD_eq_getElem?_getD, List.getElem?_eq_getElem hi]
    have HS := Lib.hid (show s.copy id = s.put s.l[i].src s.l[i].dst s.l[i].body by unfold NetS.copy; rw [h1]; simp only [hg])
    rw [h2] at ha
    generalize s.copy id = r at HS ⊢
    obtain rfl : r = _ := HS.out
    have hsz := hs s.l[i] (List.getElem_mem hi)
    obtain ⟨vl, vp, hb, r1, r2, hg', f1, f2⟩ := h
    obtain ⟨gb, c, rfl, hgl, hcl⟩ := r1.form (by omega)
    have hglt := hb.lt
    have hc1 := hb.cell 1
    have c0 := r1.cell (fun _ => rfl) i 0 hi (by omega)
    have c1 := r1.cell (fun _ => rfl) i 1 hi (by omega)
    have c2 := r1.cell (fun _ => rfl) i 2 hi (by omega)
    have c3 := r1.cell (fun _ => rfl) i 3 hi (by omega)
    generalize s.l[i] = x at c0 c1 c2 c3 hsz ⊢
    simp only [Letter.cells, List.getElem?_cons_zero, List.getElem?_cons_succ, Nat.add_zero, Nat.mul_one] at c0 c1 c2 c3
    have hp := fun W hW => net_put F g s x.id x.src x.dst x.body W hW hn hsz
    generalize s.put x.src x.dst x.body = r at hp ⊢
    clear h1 h2 HS hg r1 r2 hb hs
    have hiz : (0 : Int) ≤ (i : Int) := by omega
    have hiz2 : (i : Int) < (s.l.length : Int) := by omega
    go_enter Try.func11, Try.ntmps11
    go_wp2_with (fail)
    refine ha.mono ?_
    rintro e w' ⟨rfl, hb'⟩
    obtain ⟨hbc, _⟩ := bcell hb'
    have HB := Lib.hid hb'
    clear hb' ha
    go_wp2_with (fail)
    refine (hp _ (H.out.below HB.out)).mono ?_
    rintro e w2 ⟨rfl, hp'⟩
    have HP := Lib.hid hp'
    clear hp' hp
    go_wp2
    go_ret2
    exact ⟨rfl, HP.out.after HB.out⟩
end Go.Proofs.Ytaaeiljeanfinaa
