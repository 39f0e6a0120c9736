import Derived.Test.YtpimpdgibcjbeaaRlZo
import Derived.Test.YtpimpdgibcjbeaaOShape
namespace Go.Proofs.Ytpimpdgibcjbeaa
open Go Go.RowKit
set_option linter.unusedVariables false
set_option linter.unusedSimpArgs false

/-! What came in: acts. -/
theorem segG_of_rows {α : Type} {w : World} {enc : α → List Value} {sz : Nat} (hs : ∀ x, (enc x).length = sz) (h0 : 0 < sz) {A : Option Addr} {len cap : Nat} {rows : List (List Value)} (xs : List α) (hx : rows = xs.map enc) (hl : rows.length = len) (hlc : len ≤ cap) (hm : cap ≤ maxLen)
    (hc : 0 < len → ∃ a, A = some a ∧ ∀ (j : Nat) (r : List Value), rows[j]? = some r → ∀ (i : Nat) (u : Value), r[i]? = some u → w.cell? (a.add (j * sz + i)) = some u) : SegG w enc (.slice A len cap) xs := by
  have hxl : xs.length = len := by rw [← hl, hx, List.length_map]
  refine ⟨A, cap, by rw [hxl], by omega, hm, fun hp => ?_⟩
  obtain ⟨a, rfl, hcell⟩ := hc (by omega)
  refine ⟨a, rfl, fun t u hu => ?_⟩
  have ht : t < xs.length * sz := by rw [← flat_length hs]; exact (List.getElem?_eq_some_iff.1 hu).1
  have hd : t / sz < xs.length := Nat.div_lt_of_lt_mul (by rwa [Nat.mul_comm])
  have hmod := Nat.mod_lt t h0
  have e := Nat.div_add_mod t sz
  rw [Nat.mul_comm] at e
  have hg := flat_get hs xs (t / sz) (t % sz) hd hmod
  rw [e, hu] at hg
  have := hcell (t / sz) (enc xs[t / sz]) (by rw [hx, List.getElem?_map, List.getElem?_eq_getElem hd]; rfl) (t % sz) u hg.symm
  rwa [e] at this
theorem rows_map {α : Type} {R : List Value → Prop} (enc : α → List Value) (D : α → Prop) (hmk : ∀ r, R r → ∃ x, r = enc x ∧ D x) : ∀ (rows : List (List Value)), (∀ r ∈ rows, R r) → ∃ xs : List α, rows = xs.map enc ∧ ∀ x ∈ xs, D x
  | [], _ => ⟨[], rfl, fun x hx => by cases hx⟩
  | r :: rows, h => by
    obtain ⟨x, hk, hd⟩ := hmk r (h r List.mem_cons_self)
    obtain ⟨xs, hl, hD⟩ := rows_map enc D hmk rows (fun r' hr' => h r' (List.mem_cons_of_mem _ hr'))
    refine ⟨x :: xs, by simp [hk, hl], fun x' hx' => ?_⟩
    rcases List.mem_cons.1 hx' with rfl | hx'
    · exact hd
    · exact hD x' hx'
open Shape in
theorem oks_cons {P : Program} {w : World} {k : SK} {ks : List SK} {vs : List Value} (h : SK.oks P w (k :: ks) vs) : ∃ v vs', vs = v :: vs' ∧ SK.ok P w k v ∧ SK.oks P w ks vs' := by
  cases vs with
  | nil => simp [SK.oks] at h
  | cons v vs => simp only [SK.oks] at h; exact ⟨v, vs, rfl, h.1, h.2⟩
open Shape in
theorem oks_nil {P : Program} {w : World} {vs : List Value} (h : SK.oks P w [] vs) : vs = [] := by
  cases vs with
  | nil => rfl
  | cons v vs => simp [SK.oks] at h
open Shape in
abbrev entSK : List SK := [.int .i64, .str]
open Shape in
abbrev actSK : List SK := [.int .i64, .int .i64, .int .i64, .int .i64, .row 44 entSK, .row 3 [.int .i64]]
structure ActR where (kind pos term n : Int) (LA : Option Addr) (Lc : Nat) (L : List Ent) (MA : Option Addr) (Mc : Nat) (M : List Int)
def ActR.cells (x : ActR) : List Value := [.int .i64 x.kind, .int .i64 x.pos, .int .i64 x.term, .int .i64 x.n, .slice x.LA x.L.length x.Lc, .slice x.MA x.M.length x.Mc]
structure ActR.fits (w : World) (x : ActR) : Prop where
  L : SegG w Ent.cells (.slice x.LA x.L.length x.Lc) x.L
  Ll : x.L.length * 24 ≤ 140737488351232
  Ld : ∀ y ∈ x.L, y.data.size ≤ 140737488351232
  M : SegG w icell (.slice x.MA x.M.length x.Mc) x.M
  Ml : x.M.length * 8 ≤ 140737488351232
  Ln : x.LA = none → x.Lc = 0
  Mn : x.MA = none → x.Mc = 0
theorem ActR.fits.below {w w' : World} {x : ActR} (h : x.fits w) (hb : Below w.heap.size w w') : x.fits w' := ⟨h.L.below hb, h.Ll, h.Ld, h.M.below hb, h.Ml, h.Ln, h.Mn⟩
open Shape in
theorem open_ent {P : Program} {w : World} (r : List Value) (h : SK.oks P w entSK r) : ∃ x : Ent, r = x.cells ∧ x.data.size ≤ 140737488351232 := by
  obtain ⟨v1, r1, rfl, h1, h⟩ := oks_cons h
  obtain ⟨v2, r2, rfl, h2, h⟩ := oks_cons h
  obtain rfl := oks_nil h
  simp only [SK.ok] at h1 h2
  obtain ⟨t, rfl, _⟩ := h1
  obtain ⟨s, rfl, hs⟩ := h2
  exact ⟨⟨t, s⟩, rfl, hs⟩
open Shape in
theorem open_int1 {P : Program} {w : World} (r : List Value) (h : SK.oks P w [.int .i64] r) : ∃ x : Int, r = icell x ∧ True := by
  obtain ⟨v1, r1, rfl, h1, h⟩ := oks_cons h
  obtain rfl := oks_nil h
  simp only [SK.ok] at h1
  obtain ⟨t, rfl, _⟩ := h1
  exact ⟨t, rfl, trivial⟩
open Shape in
theorem open_act {w : World} (r : List Value) (h : SK.oks Try.prog w actSK r) : ∃ x : ActR, r = x.cells ∧ x.fits w := by
  have b1 : Try.prog.bytesOf 44 = 24 := by kernel_rfl
  have b2 : Try.prog.bytesOf 3 = 8 := by kernel_rfl
  obtain ⟨v1, r1, rfl, h1, h⟩ := oks_cons h
  obtain ⟨v2, r2, rfl, h2, h⟩ := oks_cons h
  obtain ⟨v3, r3, rfl, h3, h⟩ := oks_cons h
  obtain ⟨v4, r4, rfl, h4, h⟩ := oks_cons h
  obtain ⟨v5, r5, rfl, h5, h⟩ := oks_cons h
  obtain ⟨v6, r6, rfl, h6, h⟩ := oks_cons h
  obtain rfl := oks_nil h
  simp only [SK.ok] at h1 h2 h3 h4 h5 h6
  obtain ⟨t1, rfl, _⟩ := h1
  obtain ⟨t2, rfl, _⟩ := h2
  obtain ⟨t3, rfl, _⟩ := h3
  obtain ⟨t4, rfl, _⟩ := h4
  obtain ⟨LA, ll, lc, lr, rfl, l1, l2, l3, l4, l5, l7, l6⟩ := h5
  obtain ⟨MA, ml, mc, mr, rfl, m1, m2, m3, m4, m5, m7, m6⟩ := h6
  obtain ⟨L, hL, hLd⟩ := rows_map Ent.cells (fun x => x.data.size ≤ 140737488351232) open_ent lr l6
  obtain ⟨M, hM, hMd⟩ := rows_map icell (fun _ => True) open_int1 mr m6
  have e1 : L.length = ll := by rw [← l4, hL, List.length_map]
  have e2 : M.length = ml := by rw [← m4, hM, List.length_map]
  subst e1 e2
  rw [b1] at l3
  rw [b2] at m3
  exact ⟨⟨t1, t2, t3, t4, LA, lc, L, MA, mc, M⟩, rfl, segG_of_rows (sz := 2) (fun _ => rfl) (by decide) L hL l4 l1 l2 l5, l3, hLd, segG_of_rows (sz := 1) (fun _ => rfl) (by decide) M hM m4 m1 m2 m5, m3, l7, m7⟩
open Shape in
theorem open_acts {w : World} {A : Option Addr} {len cap : Nat} (h : SK.oks Try.prog w [.row 55 actSK] [.slice A len cap]) : ∃ xs : List ActR, xs.length = len ∧ SegG w ActR.cells (.slice A len cap) xs ∧ ∀ x ∈ xs, x.fits w := by
  obtain ⟨v, vs, e, h, _⟩ := oks_cons h
  simp only [SK.ok] at h
  obtain ⟨A', len', cap', rows, hv, h1, h2, h3, h4, h5, h7, h6⟩ := h
  simp only [List.cons.injEq] at e
  rw [hv] at e
  simp only [Value.slice.injEq] at e
  obtain ⟨⟨rfl, rfl, rfl⟩, _⟩ := e
  obtain ⟨xs, hx, hd⟩ := rows_map ActR.cells (ActR.fits w) open_act rows h6
  exact ⟨xs, by rw [← h4, hx, List.length_map], segG_of_rows (sz := 6) (fun _ => rfl) (by decide) xs hx h4 h1 h2 h5, hd⟩

/-- append of a stretch that came in. -/
theorem SegG.append_list {P : Program} {α : Type} {enc : α → List Value} {ops : Array Oper} {rest : List Oper} {o : Oper} {a : Act} {Q : Exit → Act → World → Prop} {W : World} (hgd : o.guard = none) (s x : Operand) (t e : TypeId) (z : Value) (sz bytes : Nat)
    (ho : o.op = .call { callee := .builtin .append, args := #[s, x], argTypes := #[t, t] })
    (ht : P.underlying t = some (.slice e)) (hinfo : (P.info? e).map (fun i => (i.zero, i.size, i.bytes)) = some (some z, sz, bytes)) (hz : z.cells.size = sz) (hs0 : 0 < sz) (hb0 : 0 < bytes)
    (v : Value) (A : Option Addr) (n c : Nat) (l ys : List α) (hs : a.eval s = v) (hx : a.eval x = .slice A n c) (HR : Row W e sz enc v l) (HY : SegG W enc (.slice A n c) ys) (hn : ys.length = n) (hAc : A = none → c = 0) (hlen : ∀ x, (enc x).length = sz)
    (h1 : ∀ x, ∀ u ∈ enc x, u.oneCell' = true) (hl : (l.length + n) * bytes ≤ 140737488355328)
    (h : ∀ v1 w1, Row w1 e sz enc v1 (l ++ ys) → W.grownBy w1 v.ownBlock → (v1.ownBlock = v.ownBlock ∨ v1.ownBlock = some W.heap.size) → wpList P ops Q rest (a.put o.dst v1) w1) :
    wpList P ops Q (o :: rest) a W := by
  cases A with
  | none =>
    obtain rfl := hAc rfl
    obtain rfl : ys = [] := by
      obtain ⟨A', c', hv, _, _, hc⟩ := HY
      rcases Nat.eq_zero_or_pos ys.length with h0 | h0
      · exact List.eq_nil_of_length_eq_zero h0
      · obtain ⟨ad, rfl, _⟩ := hc h0
        simp at hv
    obtain rfl : n = 0 := hn.symm
    exact Row.appendRow_list hgd s x t e z sz bytes ho ht hinfo hz hs0 hb0 v (.slice none 0 0) l [] hs hx HR (Row.nil_ ..) hlen h1 (by simpa using hl) h
  | some ad =>
    refine Row.append_list hgd s x t e z sz bytes ho ht hinfo hz hs0 hb0 v l ys hs ad n c hx HR hn hlen ?_ h1 hl h
    obtain ⟨A', c', hv, _, _, hc⟩ := HY
    rcases Nat.eq_zero_or_pos ys.length with h0 | h0
    · obtain rfl : ys = [] := List.eq_nil_of_length_eq_zero h0
      intro j u hu
      simp at hu
    · obtain ⟨ad', rfl, hc2⟩ := hc h0
      simp only [Value.slice.injEq, Option.some.injEq] at hv
      obtain ⟨rfl, _, _⟩ := hv
      exact hc2
theorem SegG.alloc {α : Type} {W : World} {enc : α → List Value} {v : Value} {l : List α} (h : SegG W enc v l) (o : Obj) : SegG (W.alloc o) enc v l := h.below ((Below.refl _ W).alloc (Nat.le_refl _) o)
set_option maxHeartbeats 2000000 in
/-- Two stretches of the same entries. -/
theorem same_g (v v' : Value) (l : List Ent) (w : World) (h : SegG w Ent.cells v l) (h' : SegG w Ent.cells v' l) (hl : l.length ≤ 4611686018427387904) :
    Calls Try.prog 19 #[v, v'] w fun e w' => e = .returned (.bool true) ∧ Below w.heap.size w w' := by
  obtain ⟨A, c, rfl, _⟩ := h.shape
  obtain ⟨A', c', rfl, _⟩ := h'.shape
  have H := Lib.hid h
  have H' := Lib.hid h'
  clear h h'
  obtain ⟨n, hn⟩ : ∃ n, l.length = n := ⟨_, rfl⟩
  rw [hn] at hl ⊢
  have HN := Lib.hid hn
  clear hn
  go_enter Try.func19, Try.ntmps19
  go_wp2_with (fail)
  go_loopg [5] n (fun gg s5 wr => ∃ k : Nat, k ≤ n ∧ n - k ≤ gg ∧ s5 = .int .i64 k ∧ Hid (Below w.heap.size w wr))
  case atStart => exact ⟨0, Nat.zero_le _, by omega, rfl, Lib.hid (Below.refl _ _)⟩
  case round =>
    obtain ⟨k, hk, hg, rfl, HB⟩ := hrel
    by_cases hlt : k < n
    · have g1 : (k : Int) < (n : Int) := by omega
      have g0 : (0 : Int) ≤ (k : Int) := by omega
      have hkl : k < l.length := by rw [HN.out]; exact hlt
      have R := H.out.below HB.out
      have R' := H'.out.below HB.out
      obtain ⟨gb, c2, hv, _, _⟩ := R.form (by omega)
      obtain ⟨gb', c2', hv', _, _⟩ := R'.form (by omega)
      injection hv with hA hq1 hc
      injection hv' with hA' hq2 hc'
      clear hq1 hq2
      subst hA hc hA' hc'
      have x0 := R.cell (sz := 2) (fun _ => rfl) k 0 hkl (by omega)
      have x1 := R.cell (sz := 2) (fun _ => rfl) k 1 hkl (by omega)
      have y0 := R'.cell (sz := 2) (fun _ => rfl) k 0 hkl (by omega)
      have y1 := R'.cell (sz := 2) (fun _ => rfl) k 1 hkl (by omega)
      generalize l[k] = x at x0 x1 y0 y1
      simp only [Ent.cells, adr, List.getElem?_cons_zero, List.getElem?_cons_succ, Nat.add_zero, Nat.zero_add] at x0 x1 y0 y1
      have hneq := neq_entry x
      clear R R' hkl
      go_wp2_with (fail)
      go_quiet (fail)
      go_wp2
      go_roundg (n - (k + 1))
      case measure => omega
      case rel => exact ⟨k + 1, by omega, Nat.le_refl _, by go_num, Lib.hid (pw_drewN HB.out _)⟩
    · have g1 : ¬ ((k : Int) < (n : Int)) := by omega
      clear hlt
      go_wp2
      go_ret
      exact ⟨rfl, HB.out⟩
/-- The document's Agreed, whatever comes. -/
theorem ref_agreed (F : Nat → Prop) (g : Nat) (s : LogS) (v : Value) (zs : List Int) (term commit : Int) (w : World) (h : RAt w F g s) (hb0 : 0 ≤ s.base) (hl : s.base + s.l.length ≤ 1048576) (hS : SegG w icell v zs) (hz : zs.length ≤ 70368744177664) :
    Calls Try.prog 37 #[.pointer (some ⟨g, 0, none⟩), v, .int .i64 term, .int .i64 commit] w fun e w' => e = .returned (.tuple #[.int .i64 (s.agreed zs term commit).1, .int .i64 (s.agreed zs term commit).2]) ∧ Below w.heap.size w w' := by
  unfold LogS.agreed
  by_cases hbad : zs = [] ∨ commit < 0
  · rw [if_pos hbad]
    obtain ⟨A, c, rfl, _⟩ := hS.shape
    refine (ref_agreed_bad g A zs.length c term commit w (hbad.imp (fun h => by rw [h]; rfl) id)).mono ?_
    rintro e w' ⟨rfl, rfl⟩
    exact ⟨rfl, Below.refl _ _⟩
  · rw [if_neg hbad]
    exact ref_agreed_ok F g s v zs term commit w h hb0 hl hS (List.length_pos_iff.2 fun h => hbad (.inl h)) hz (by rcases Int.lt_or_le commit 0 with h | h; exact absurd (.inr h) hbad; exact h)

/-! The two logs side by side. -/
structure Duo (w0 w : World) (F : Nat → Prop) (g : Nat) (G : Nat → Prop) (h : Nat) (s t : LogS) : Prop where
  l : LogAt w F g s
  r : RAt w G h t
  lf : ∀ k, F k → w0.heap.size ≤ k ∧ k < w.heap.size
  rf : ∀ k, G k → w0.heap.size ≤ k ∧ k < w.heap.size
  d : ∀ k, F k → ¬ G k
  back : Below w0.heap.size w0 w
section
variable {w0 w w' : World} {F G S : Nat → Prop} {g h : Nat} {s t s' : LogS}
theorem Duo.kept (H : Duo w0 w F g G h s t) (hk : Kept w w' S) (hF : ∀ k, F k → ¬ S k) (hG : ∀ k, G k → ¬ S k) (hS : ∀ k, S k → w0.heap.size ≤ k) : Duo w0 w' F g G h s t :=
  ⟨H.l.kept hk (fun k _ hf => hF k hf), H.r.kept hk (fun k _ hf => hG k hf), fun k hf => ⟨(H.lf k hf).1, Nat.lt_of_lt_of_le (H.lf k hf).2 hk.size⟩, fun k hf => ⟨(H.rf k hf).1, Nat.lt_of_lt_of_le (H.rf k hf).2 hk.size⟩, H.d, H.back.trans (hk.below H.back.size (fun k hk' hs => by have := hS k hs; omega))⟩
theorem Duo.below (H : Duo w0 w F g G h s t) (hb : Below w.heap.size w w') : Duo w0 w' F g G h s t := H.kept (Kept.of_below hb fun _ => False) (fun _ _ h => h) (fun _ _ h => h) (fun _ h => h.elim)
theorem Duo.left (H : Duo w0 w F g G h s t) (hp : LogPost w F g s' w') : Duo w0 w' (grow F w w') g G h s' t := by
  have hz := H.back.size
  refine ⟨hp.2, H.r.kept hp.1 (fun k _ hg hf => H.d k hf hg), fun k hk => ?_, fun k hf => ⟨(H.rf k hf).1, Nat.lt_of_lt_of_le (H.rf k hf).2 hp.1.size⟩, fun k hk hg => ?_, H.back.trans (hp.1.below H.back.size (fun k hk' hs => by have := (H.lf k hs).1; omega))⟩
  · rcases hk with hk | hk
    · exact ⟨(H.lf k hk).1, Nat.lt_of_lt_of_le (H.lf k hk).2 hp.1.size⟩
    · exact ⟨by omega, hk.2⟩
  · rcases hk with hk | hk
    · exact H.d k hk hg
    · have := (H.rf k hg).2; omega
theorem Duo.right (H : Duo w0 w F g G h s t) (hp : RPost w G h s' w') : Duo w0 w' F g (grow G w w') h s s' := by
  have hz := H.back.size
  refine ⟨H.l.kept hp.1 (fun k _ hf hg => H.d k hf hg), hp.2, fun k hf => ⟨(H.lf k hf).1, Nat.lt_of_lt_of_le (H.lf k hf).2 hp.1.size⟩, fun k hk => ?_, fun k hf hk => ?_, H.back.trans (hp.1.below H.back.size (fun k hk' hs => by have := (H.rf k hs).1; omega))⟩
  · rcases hk with hk | hk
    · exact ⟨(H.rf k hk).1, Nat.lt_of_lt_of_le (H.rf k hk).2 hp.1.size⟩
    · exact ⟨by omega, hk.2⟩
  · rcases hk with hk | hk
    · exact H.d k hf hk
    · have := (H.lf k hf).2; omega
end
/-- States that may be. -/
def LogS.okB (s : LogS) : Prop := 0 ≤ s.base ∧ s.base + s.l.length ≤ 1048576
theorem LogS.okB.app {s : LogS} (h : s.okB) (x : Ent) : (s.app x).1.okB := by
  unfold LogS.app
  split
  · exact h
  · split
    · exact h
    · split
      · exact h
      · rename_i h3
        refine ⟨h.1, ?_⟩
        have h2 := h.2
        have : ¬ 1048576 ≤ s.last := fun h' => h3 (.inr h')
        unfold LogS.last at this
        simp only [List.length_append, List.length_cons, List.length_nil]
        omega
theorem LogS.okB.merge {s : LogS} (h : s.okB) (prev term : Int) (l : List Ent) : (s.merge prev term l).1.okB := by
  by_cases h1 : (s.termAt prev).2 = 0
  · by_cases h2 : (s.termAt prev).1 = term
    · by_cases h3 : wrongE prev term l = 0
      · have hr : s.base ≤ prev ∧ prev ≤ s.base + s.l.length := by
          rcases s.termAt_cases prev with h' | h'
          · rw [h'.1] at h1; cases h1
          · exact h'.2
        have hl : prev + l.length ≤ 1048576 := by
          rcases wrongE_cases prev term l with h' | h' | h' | h'
          · rw [h'] at h3; cases h3
          · rw [h'] at h3; cases h3
          · rw [h'] at h3; cases h3
          · omega
        have hb := h.1
        have hb2 := h.2
        rw [RM_end s prev term l (prev - s.base).toNat (by omega) (Prod.ext h2 h1) h3]
        have := RM_length s.l (prev - s.base).toNat l l.length (by omega) (Nat.le_refl _)
        exact ⟨h.1, by simp only; omega⟩
      · unfold LogS.merge; rw [if_neg (by simpa using h1), if_neg (by simpa using h2), if_pos h3]; exact h
    · unfold LogS.merge; rw [if_neg (by simpa using h1), if_pos h2]; exact h
  · unfold LogS.merge; rw [if_pos h1]; exact h
end Go.Proofs.Ytpimpdgibcjbeaa
