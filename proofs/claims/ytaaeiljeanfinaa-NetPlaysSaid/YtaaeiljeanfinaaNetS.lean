import Derived.Test.YtaaeiljeanfinaaNetR
namespace Go.Proofs.Ytaaeiljeanfinaa
open Go Go.RowKit
set_option linter.unusedVariables false
set_option linter.unusedSimpArgs false

def RefS.put (s : RefS) (src dst : Int) (body : ByteArray) : RefS × Int × Int := if s.full body then (s, 0, 2) else (s.add src dst body, s.next, 0)
theorem ref_put (F : Nat → Prop) (g : Nat) (s : RefS) (id src dst : Int) (body : ByteArray) (w : World) (h : RefAt w F g s) (hn : 0 ≤ s.next) (hs : body.size ≤ 140737488355328) :
    Calls Try.prog 50 #[.pointer (some ⟨g, 0, none⟩), .agg #[.int .i64 id, .int .i64 src, .int .i64 dst, .string body]] w fun e w' => e = .returned (.tuple #[.int .i64 (s.put src dst body).2.1, .int .i64 (s.put src dst body).2.2]) ∧ RefPost w F g (s.put src dst body).1 w' := by
  by_cases hf : s.full body
  · refine (ref_put_full F g s id src dst body w h hf hs).mono ?_
    rintro e w' ⟨rfl, hb⟩
    unfold RefS.put
    rw [if_pos hf]
    exact ⟨rfl, RefPost.of_below h hb⟩
  · refine (ref_put_ok F g s id src dst body w h hf hn).mono ?_
    rintro e w' ⟨rfl, hb⟩
    unfold RefS.put
    rw [if_neg hf]
    exact ⟨rfl, hb⟩
def RefS.send (s : RefS) (a b : Int) (body : ByteArray) : RefS × Int × Int := if (s.none_ a || s.none_ b) = true then (s, 0, 30) else s.put a b body
theorem ref_send (F : Nat → Prop) (g : Nat) (s : RefS) (a b : Int) (body : ByteArray) (w : World) (h : RefAt w F g s) (hn : 0 ≤ s.next) (hs : body.size ≤ 140737488355328) :
    Calls Try.prog 34 #[.pointer (some ⟨g, 0, none⟩), .int .i64 a, .int .i64 b, .string body] w fun e w' => e = .returned (.tuple #[.int .i64 (s.send a b body).2.1, .int .i64 (s.send a b body).2.2]) ∧ RefPost w F g (s.send a b body).1 w' := by
  have ha := ref_none F g s a w h
  have hb := ref_none F g s b w h
  have hp := ref_put F g s 0 a b body w h hn hs
  have H := Lib.hid h
  have HS := Lib.hid (show s.send a b body = if (s.none_ a || s.none_ b) = true then (s, 0, 30) else s.put a b body from rfl)
  generalize s.send a b body = r at HS ⊢
  generalize s.none_ a = qa at ha HS
  generalize s.none_ b = qb at hb HS
  clear h
  cases qa with
  | true =>
    obtain rfl : r = (s, 0, 30) := by simpa using HS.out
    clear HS hp
    go_enter Try.func34, Try.ntmps34
    go_wp2_with (fail)
    refine ha.mono ?_
    rintro e w' ⟨rfl, hw⟩
    subst hw
    go_wp2
    go_ret2
    exact ⟨rfl, RefPost.of_below H.out (Below.refl _ _)⟩
  | false =>
    cases qb with
    | true =>
      obtain rfl : r = (s, 0, 30) := by simpa using HS.out
      clear HS hp
      go_enter Try.func34, Try.ntmps34
      go_wp2_with (fail)
      refine ha.mono ?_
      rintro e w' ⟨rfl, hw⟩
      subst hw
      go_wp2_with (fail)
      refine hb.mono ?_
      rintro e w2 ⟨rfl, hw⟩
      subst hw
      go_wp2
      go_ret2
      exact ⟨rfl, RefPost.of_below H.out (Below.refl _ _)⟩
    | false =>
      obtain rfl : r = s.put a b body := by simpa using HS.out
      clear HS
      generalize s.put a b body = r at hp ⊢
      go_enter Try.func34, Try.ntmps34
      go_wp2_with (fail)
      refine ha.mono ?_
      rintro e w' ⟨rfl, hw⟩
      subst hw
      go_wp2_with (fail)
      refine hb.mono ?_
      rintro e w2 ⟨rfl, hw⟩
      subst hw
      go_wp2_with (fail)
      refine hp.mono ?_
      rintro e w3 ⟨rfl, h3⟩
      have H3 := Lib.hid h3
      clear h3
      go_wp2
      go_ret2
      exact ⟨rfl, H3.out⟩

def RefS.pos (s : RefS) (id : Int) : Option Nat := if 0 ≤ s.find id then some (s.find id).toNat else none
theorem RefS.pos_cases (s : RefS) (id : Int) : (s.pos id = none ∧ s.find id = -1) ∨ ∃ i, ∃ h : i < s.l.length, s.pos id = some i ∧ s.find id = (i : Int) := by
  unfold RefS.pos RefS.find
  rcases idx_spec (fun x : Letter => x.id == id) s.l with ⟨h, hx⟩ | ⟨k, hk, h, _⟩
  · left; rw [h]; exact ⟨by simp, rfl⟩
  · right; rw [h]; exact ⟨k, hk, by simp, rfl⟩
theorem RefS.getD (s : RefS) (i : Nat) (hi : i < s.l.length) : s.l.getD i Letter.zero = s.l[i] := by simp [List.getD_eq_getElem?_getD, List.getElem?_eq_getElem hi]
def RefS.lose (s : RefS) (id : Int) : RefS × Int := match s.pos id with | none => (s, 5) | some i => (s.cutL i, 0)
theorem ref_lose (F : Nat → Prop) (g : Nat) (s : RefS) (id : Int) (w : World) (h : RefAt w F g s) (hl : s.l.length ≤ 1000000) :
    Calls Try.prog 36 #[.pointer (some ⟨g, 0, none⟩), .int .i64 id] w fun e w' => e = .returned (.int .i64 (s.lose id).2) ∧ RefPost w F g (s.lose id).1 w' := by
  have ha := ref_find F g s id w h hl
  have H := Lib.hid h
  rcases s.pos_cases id with ⟨h1, h2⟩ | ⟨i, hi, h1, h2⟩
  · have HS := Lib.hid (show s.lose id = (s, 5) by unfold RefS.lose; rw [h1])
    rw [h2] at ha
    generalize s.lose id = r at HS ⊢
    obtain rfl : r = (s, 5) := HS.out
    clear h1 h2 h
    go_enter Try.func36, Try.ntmps36
    go_wp2_with (fail)
    refine ha.mono ?_
    rintro e w' ⟨rfl, hw⟩
    subst hw
    go_wp2
    go_ret
    exact ⟨rfl, RefPost.of_below H.out (Below.refl _ _)⟩
  · have HS := Lib.hid (show s.lose id = (s.cutL i, 0) by unfold RefS.lose; rw [h1])
    rw [h2] at ha
    generalize s.lose id = r at HS ⊢
    obtain rfl : r = (s.cutL i, 0) := HS.out
    have hp := ref_drop F g s i hi w h hl
    clear h1 h2 HS h
    have hiz : (0 : Int) ≤ (i : Int) := by omega
    go_enter Try.func36, Try.ntmps36
    go_wp2_with (fail)
    refine ha.mono ?_
    rintro e w' ⟨rfl, hw⟩
    subst hw
    go_wp2_with (fail)
    refine hp.mono ?_
    rintro e w2 ⟨rfl, hk⟩
    have HP := Lib.hid hk
    clear hk hp
    go_wp2
    go_ret
    exact ⟨rfl, HP.out⟩

def RefS.copy (s : RefS) (id : Int) : RefS × Int × Int := match s.pos id with
  | none => (s, 0, 5)
  | some i => s.put (s.l.getD i Letter.zero).src (s.l.getD i Letter.zero).dst (s.l.getD i Letter.zero).body
theorem ref_copy (F : Nat → Prop) (g : Nat) (s : RefS) (id : Int) (w : World) (h : RefAt w F g s) (hl : s.l.length ≤ 1000000) (hn : 0 ≤ s.next) (hs : ∀ x ∈ s.l, x.body.size ≤ 140737488355328) :
    Calls Try.prog 37 #[.pointer (some ⟨g, 0, none⟩), .int .i64 id] w fun e w' => e = .returned (.tuple #[.int .i64 (s.copy id).2.1, .int .i64 (s.copy id).2.2]) ∧ RefPost w F g (s.copy id).1 w' := by
  have ha := ref_find F g s id w h hl
  have H := Lib.hid h
  rcases s.pos_cases id with ⟨h1, h2⟩ | ⟨i, hi, h1, h2⟩
  · have HS := Lib.hid (show s.copy id = (s, 0, 5) by unfold RefS.copy; rw [h1])
    rw [h2] at ha
    generalize s.copy id = r at HS ⊢
    obtain rfl : r = (s, 0, 5) := HS.out
    clear h1 h2 h hs
    go_enter Try.func37, Try.ntmps37
    go_wp2_with (fail)
    refine ha.mono ?_
    rintro e w' ⟨rfl, hw⟩
    subst hw
    go_wp2
    go_ret2
    exact ⟨rfl, RefPost.of_below H.out (Below.refl _ _)⟩
  · have hg : s.l.getD i Letter.zero = s.l[i] := s.getD i hi
    have HS := Lib.hid (show s.copy id = s.put s.l[i].src s.l[i].dst s.l[i].body by unfold RefS.copy; rw [h1]; simp only [hg])
    rw [h2] at ha
    generalize s.copy id = r at HS ⊢
    obtain rfl : r = _ := HS.out
    have hsz := hs s.l[i] (List.getElem_mem hi)
    have hp := ref_put F g s s.l[i].id s.l[i].src s.l[i].dst s.l[i].body w h hn hsz
    obtain ⟨vl, vc, bs, N, hb, r1, r2, r3, hg', f1, f2⟩ := h
    obtain ⟨gb, c, rfl, hgl, hcl⟩ := r1.form (by omega)
    have hglt := hb.lt
    have hc1 := hb.cell 1
    have c0 := r1.cell (fun _ => rfl) i 0 hi (by omega)
    have c1 := r1.cell (fun _ => rfl) i 1 hi (by omega)
    have c2 := r1.cell (fun _ => rfl) i 2 hi (by omega)
    have c3 := r1.cell (fun _ => rfl) i 3 hi (by omega)
    generalize s.l[i] = x at c0 c1 c2 c3 hp ⊢
    simp only [Letter.cells, List.getElem?_cons_zero, List.getElem?_cons_succ, Nat.add_zero, Nat.mul_one] at c0 c1 c2 c3
    generalize s.put x.src x.dst x.body = r at hp ⊢
    clear h1 h2 HS hg r1 r2 r3 hb hs hsz
    have hiz : (0 : Int) ≤ (i : Int) := by omega
    have hiz2 : (i : Int) < (s.l.length : Int) := by omega
    go_enter Try.func37, Try.ntmps37
    go_wp2_with (fail)
    refine ha.mono ?_
    rintro e w' ⟨rfl, hw⟩
    subst hw
    go_wp2_with (fail)
    refine hp.mono ?_
    rintro e w2 ⟨rfl, hp'⟩
    have HP := Lib.hid hp'
    clear hp' hp
    go_wp2
    go_ret2
    exact ⟨rfl, HP.out⟩

/-! The table of who is parted. -/
def getC (cut : List (List Bool)) (a b : Nat) : Bool := (cut.getD a []).getD b false
def setC (cut : List (List Bool)) (a b : Nat) (v : Bool) : List (List Bool) := cut.set a ((cut.getD a []).set b v)
structure RefS.wf (s : RefS) : Prop where
  lo : 1 ≤ s.nodes
  hi : s.nodes ≤ 16
  rows : (s.cut.length : Int) = s.nodes
  row : ∀ r ∈ s.cut, (r.length : Int) = s.nodes
theorem getD_at {α : Type} (l : List α) (i : Nat) (d : α) (h : i < l.length) : l.getD i d = l[i] := by simp [List.getD_eq_getElem?_getD, List.getElem?_eq_getElem h]
/-- What is read of the table. -/
theorem RefAt.table {w : World} {F : Nat → Prop} {g : Nat} {s : RefS} (h : RefAt w F g s) (hw : s.wf) (a b : Nat) (ha : (a : Int) < s.nodes) (hb : (b : Int) < s.nodes) :
    ∃ cb c n ba N, w.cell? ⟨g, 3, none⟩ = some (.slice (some ⟨cb, 0, none⟩) n c) ∧ w.cell? ⟨cb, a, none⟩ = some (.slice (some ⟨ba, 0, none⟩) N N) ∧ w.cell? ⟨ba, b, none⟩ = some (.bool (getC s.cut a b)) ∧ (n : Int) = s.nodes ∧ (N : Int) = s.nodes ∧ n ≤ c ∧ cb < w.heap.size ∧ ba < w.heap.size := by
  obtain ⟨vl, vc, bs, N, hb0, r1, r2, r3, hg', f1, f2⟩ := h
  have hr := hw.rows
  have hal : a < bs.length := by rw [r3.len]; omega
  have hal2 : a < s.cut.length := by omega
  obtain ⟨cb, c, rfl, hcl, hcc⟩ := r2.form (by omega)
  have hc := r2.cell (fun _ => rfl) a 0 hal (by omega)
  simp only [scells, List.getElem?_cons_zero, Nat.mul_one, Nat.add_zero] at hc
  have hrow := (r3.each a hal hal2).1
  have hN : N = s.cut[a].length := hrow.block.1
  have hrl := hw.row _ (List.getElem_mem hal2)
  have hbl : b < s.cut[a].length := by omega
  have hd := hrow.cell (fun _ => rfl) b 0 hbl (by omega)
  simp only [bcells, List.getElem?_cons_zero, Nat.mul_one, Nat.add_zero] at hd
  refine ⟨cb, c, bs.length, bs[a], N, hb0.cell 3, hc, ?_, by rw [r3.len]; exact hr, by omega, hcc, hcl, hrow.lt rfl⟩
  rw [hd]
  unfold getC
  rw [getD_at _ _ _ hal2, getD_at _ _ _ hbl]

def RefS.askParted (s : RefS) (a b : Int) : Bool × Int := if (s.none_ a || s.none_ b) = true then (false, 30) else (getC s.cut a.toNat b.toNat, 0)
theorem RefS.none_false {s : RefS} {x : Int} (h : s.none_ x = false) : 0 ≤ x ∧ x < s.nodes := by
  unfold RefS.none_ at h
  rw [decide_eq_false_iff_not] at h
  omega
theorem ref_parted (F : Nat → Prop) (g : Nat) (s : RefS) (a b : Int) (w : World) (h : RefAt w F g s) (hw : s.wf) :
    Calls Try.prog 40 #[.pointer (some ⟨g, 0, none⟩), .int .i64 a, .int .i64 b] w fun e w' => e = .returned (.tuple #[.bool (s.askParted a b).1, .int .i64 (s.askParted a b).2]) ∧ w' = w := by
  have ha := ref_none F g s a w h
  have hb := ref_none F g s b w h
  have HS := Lib.hid (show s.askParted a b = if (s.none_ a || s.none_ b) = true then (false, 30) else (getC s.cut a.toNat b.toNat, 0) from rfl)
  generalize s.askParted a b = r at HS ⊢
  cases qa : s.none_ a with
  | true =>
    rw [qa] at ha HS
    obtain rfl : r = (false, 30) := by simpa using HS.out
    clear HS h hw qa
    go_enter Try.func40, Try.ntmps40
    go_wp2_with (fail)
    refine ha.mono ?_
    rintro e w' ⟨rfl, hw⟩
    subst hw
    go_wp2
    go_ret2
    exact ⟨rfl, rfl⟩
  | false =>
    cases qb : s.none_ b with
    | true =>
      rw [qa] at ha HS
      rw [qb] at hb HS
      obtain rfl : r = (false, 30) := by simpa using HS.out
      clear HS h hw qa qb
      go_enter Try.func40, Try.ntmps40
      go_wp2_with (fail)
      refine ha.mono ?_
      rintro e w' ⟨rfl, hw⟩
      subst hw
      go_wp2_with (fail)
      refine hb.mono ?_
      rintro e w2 ⟨rfl, hw⟩
      subst hw
      go_wp2
      go_ret2
      exact ⟨rfl, rfl⟩
    | false =>
      rw [qa] at ha HS
      rw [qb] at hb HS
      have hra := RefS.none_false qa
      have hrb := RefS.none_false qb
      obtain ⟨an, rfl⟩ := Int.eq_ofNat_of_zero_le hra.1
      obtain ⟨bn, rfl⟩ := Int.eq_ofNat_of_zero_le hrb.1
      simp only [Int.toNat_natCast] at HS
      obtain rfl : r = (getC s.cut an bn, 0) := HS.out
      obtain ⟨cb, c, n, ba, N, t1, t2, t3, t4, t5, t6, t7, t8⟩ := h.table hw an bn hra.2 hrb.2
      have i1 : (an : Int) < (n : Int) := by omega
      have i2 : (bn : Int) < (N : Int) := by omega
      clear HS h hw qa qb hra hrb t4 t5
      generalize getC s.cut an bn = q at t3 ⊢
      go_enter Try.func40, Try.ntmps40
      go_wp2_with (fail)
      refine ha.mono ?_
      rintro e w' ⟨rfl, hw⟩
      subst hw
      go_wp2_with (fail)
      refine hb.mono ?_
      rintro e w2 ⟨rfl, hw⟩
      subst hw
      go_wp2
      go_ret2
      exact ⟨rfl, rfl⟩
end Go.Proofs.Ytaaeiljeanfinaa
