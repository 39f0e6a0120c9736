import Derived.Test.YtaaeiljeanfinaaNetH
import Derived.Test.YtaaeiljeanfinaaORows
namespace Go.Proofs.Ytaaeiljeanfinaa
open Go Go.RowKit
set_option linter.unusedVariables false
set_option linter.unusedSimpArgs false

/-! The document's net. -/
def bcells (b : Bool) : List Value := [.bool b]
def scells (N : Nat) (b : Nat) : List Value := [.slice (some ⟨b, 0, none⟩) N N]
structure RefS where (nodes next : Int) (l : List Letter) (cut : List (List Bool))
structure Cuts (w : World) (F : Nat → Prop) (N : Nat) (bs : List Nat) (cut : List (List Bool)) : Prop where
  len : bs.length = cut.length
  nodup : bs.Nodup
  each : ∀ (i : Nat) (h : i < bs.length) (h2 : i < cut.length), Row w 4 1 bcells (.slice (some ⟨bs[i], 0, none⟩) N N) cut[i] ∧ F bs[i]
def RefAt (w : World) (F : Nat → Prop) (g : Nat) (s : RefS) : Prop :=
  ∃ vl vc bs N, Blk w g 79 #[.int .i64 s.nodes, vl, .int .i64 s.next, vc] ∧ Row w 81 4 Letter.cells vl s.l ∧ Row w 80 1 (scells N) vc bs ∧ Cuts w F N bs s.cut ∧ F g ∧ (∀ k, vl.ownBlock = some k → F k) ∧ (∀ k, vc.ownBlock = some k → F k)
theorem Cuts.kept {w w' : World} {F S : Nat → Prop} {N : Nat} {bs : List Nat} {cut : List (List Bool)} (h : Cuts w F N bs cut) (hk : Kept w w' S) (hn : ∀ k, k < w.heap.size → F k → ¬ S k) : Cuts w' F N bs cut :=
  ⟨h.len, h.nodup, fun i h1 h2 => ⟨(h.each i h1 h2).1.kept hk (fun k e => by
    have hb : bs[i] = k := by simpa [Value.ownBlock] using e
    subst hb
    exact hn _ ((h.each i h1 h2).1.lt rfl) (h.each i h1 h2).2), (h.each i h1 h2).2⟩⟩
theorem Cuts.mono {w : World} {F F' : Nat → Prop} {N : Nat} {bs : List Nat} {cut : List (List Bool)} (h : Cuts w F N bs cut) (hf : ∀ k, k < w.heap.size → F k → F' k) : Cuts w F' N bs cut :=
  ⟨h.len, h.nodup, fun i h1 h2 => ⟨(h.each i h1 h2).1, hf _ ((h.each i h1 h2).1.lt rfl) (h.each i h1 h2).2⟩⟩
theorem RefAt.kept {w w' : World} {F S : Nat → Prop} {g : Nat} {s : RefS} (h : RefAt w F g s) (hk : Kept w w' S) (hn : ∀ k, k < w.heap.size → F k → ¬ S k) : RefAt w' F g s := by
  obtain ⟨vl, vc, bs, N, hb, h1, h2, h3, hg, f1, f2⟩ := h
  exact ⟨vl, vc, bs, N, hb.kept hk (hn g hb.lt hg), h1.kept hk (fun k e => hn k (h1.lt e) (f1 k e)), h2.kept hk (fun k e => hn k (h2.lt e) (f2 k e)), h3.kept hk hn, hg, f1, f2⟩
theorem RefAt.below {w w' : World} {F : Nat → Prop} {g : Nat} {s : RefS} (h : RefAt w F g s) (hb : Below w.heap.size w w') : RefAt w' F g s := h.kept (Kept.of_below hb fun _ => False) (fun _ _ _ h => h)
theorem RefAt.mono {w : World} {F F' : Nat → Prop} {g : Nat} {s : RefS} (h : RefAt w F g s) (hf : ∀ k, k < w.heap.size → F k → F' k) : RefAt w F' g s := by
  obtain ⟨vl, vc, bs, N, hb, h1, h2, h3, hg, f1, f2⟩ := h
  exact ⟨vl, vc, bs, N, hb, h1, h2, h3.mono hf, hf g hb.lt hg, fun k e => hf k (h1.lt e) (f1 k e), fun k e => hf k (h2.lt e) (f2 k e)⟩
def RefPost (w : World) (F : Nat → Prop) (g : Nat) (s : RefS) (w' : World) : Prop := Kept w w' F ∧ RefAt w' (grow F w w') g s
theorem RefPost.of_below {w w' : World} {F : Nat → Prop} {g : Nat} {s : RefS} (h : RefAt w F g s) (hb : Below w.heap.size w w') : RefPost w F g s w' := ⟨Kept.of_below hb F, (h.below hb).mono fun k _ h => .inl h⟩
theorem RefPost.after {a b c : World} {F : Nat → Prop} {g : Nat} {s : RefS} (hb : Below a.heap.size a b) (h : RefPost b F g s c) : RefPost a F g s c :=
  ⟨(Kept.of_below hb F).trans h.1, h.2.mono fun k _ hk => grow_sub hb.size hk⟩
theorem RefPost.kept {w w' : World} {F : Nat → Prop} {g : Nat} {s : RefS} (h : Kept w w' F) (hn : RefAt w' F g s) : RefPost w F g s w' := ⟨h, hn.mono fun _ _ x => .inl x⟩

def RefS.none_ (s : RefS) (x : Int) : Bool := decide (x < 0 ∨ s.nodes ≤ x)
theorem ref_none (F : Nat → Prop) (g : Nat) (s : RefS) (x : Int) (w : World) (h : RefAt w F g s) :
    Calls Try.prog 49 #[.pointer (some ⟨g, 0, none⟩), .int .i64 x] w fun e w' => e = .returned (.bool (s.none_ x)) ∧ w' = w := by
  obtain ⟨vl, vc, bs, N, hb, h1, h2, h3, hg, f1, f2⟩ := h
  have c0 := hb.cell 0
  clear hb h1 h2 h3
  unfold RefS.none_
  by_cases h : x < 0
  · go_enter Try.func49, Try.ntmps49
    go_wp2
    go_ret
    exact ⟨ret_bool (by simp [h]), rfl⟩
  · have h2 : 0 ≤ x := by omega
    go_enter Try.func49, Try.ntmps49
    go_wp2
    go_ret
    exact ⟨ret_bool (by simp; omega), rfl⟩

def RefS.find (s : RefS) (id : Int) : Int := idx (fun x : Letter => x.id == id) s.l 0
set_option maxHeartbeats 2000000 in
theorem ref_find (F : Nat → Prop) (g : Nat) (s : RefS) (id : Int) (w : World) (h : RefAt w F g s) (hl : s.l.length ≤ 1000000) :
    Calls Try.prog 51 #[.pointer (some ⟨g, 0, none⟩), .int .i64 id] w fun e w' => e = .returned (.int .i64 (s.find id)) ∧ w' = w := by
  obtain ⟨vl, vc, bs, N, hb, h1, h2, h3, hg, f1, f2⟩ := h
  have hlt := hb.lt
  have hc1 := hb.cell 1
  obtain ⟨A, c, rfl⟩ := h1.shape
  have HR := Lib.hid h1
  unfold RefS.find
  obtain ⟨p, hp⟩ : ∃ p, p = (fun x : Letter => x.id == id) := ⟨_, rfl⟩
  rw [← hp]
  have HP := Lib.hid hp
  clear hb h1 h2 h3 hp
  go_enter Try.func51, Try.ntmps51
  go_wp2
  go_loop [5] (fun i => ∃ k : Nat, k ≤ s.l.length ∧ i = .int .i64 k ∧ Hid (idx p s.l 0 = idx p (s.l.drop k) k)) (fun i => s.l.length - (intOf i).toNat)
  case atStart => exact ⟨0, Nat.zero_le _, rfl, Lib.hid rfl⟩
  case round =>
    obtain ⟨k, hk, rfl, HI⟩ := hrel
    by_cases hlt : k < s.l.length
    · obtain ⟨gb, c', hv, hgl, hcl⟩ := HR.out.form (by omega)
      injection hv with hA _ hc
      subst hA hc
      have c0 := HR.out.cell (fun _ => rfl) k 0 hlt (by omega)
      have HS := Lib.hid (show idx p (s.l.drop k) k = if p s.l[k] then (k : Int) else idx p (s.l.drop (k + 1)) (k + 1) by rw [List.drop_eq_getElem_cons hlt]; rfl)
      generalize s.l[k] = x at c0 HS
      simp only [Letter.cells, List.getElem?_cons_zero, Nat.add_zero] at c0
      have hltz : (k : Int) < (s.l.length : Int) := by omega
      have h0z : (0 : Int) ≤ (k : Int) := by omega
      cases hq : (x.id == id) with
      | true =>
        have hpx := Lib.hid (show p x = true by rw [HP.out]; exact hq)
        go_wp2
        go_ret
        exact ⟨ret_int (by rw [HI.out, HS.out, hpx.out]; rfl), rfl⟩
      | false =>
        have hpx := Lib.hid (show p x = false by rw [HP.out]; exact hq)
        go_wp2
        go_round
        case rel => exact ⟨k + 1, by omega, by go_num, Lib.hid (by rw [HI.out, HS.out, hpx.out]; rfl)⟩
        case measure => simp [intOf]; omega
    · go_wp2
      go_ret
      exact ⟨ret_int (by rw [HI.out, List.drop_of_length_le (by omega)]; rfl), rfl⟩

def RefS.full (s : RefS) (body : ByteArray) : Prop := 65536 < body.size ∨ 4096 ≤ s.l.length ∨ 1099511627776 ≤ s.next
instance (s : RefS) (body : ByteArray) : Decidable (s.full body) := by unfold RefS.full; infer_instance
def RefS.add (s : RefS) (src dst : Int) (body : ByteArray) : RefS := { s with l := s.l ++ [⟨s.next, src, dst, body⟩], next := s.next + 1 }

theorem ref_put_full (F : Nat → Prop) (g : Nat) (s : RefS) (id src dst : Int) (bd : ByteArray) (w : World) (h : RefAt w F g s) (hf : s.full bd) (hs : bd.size ≤ 140737488355328) :
    Calls Try.prog 50 #[.pointer (some ⟨g, 0, none⟩), .agg #[.int .i64 id, .int .i64 src, .int .i64 dst, .string bd]] w fun e w' => e = .returned (.tuple #[.int .i64 0, .int .i64 2]) ∧ Below w.heap.size w w' := by
  obtain ⟨vl, vc, bs, N, hb, h1, h2, h3, hg, f1, f2⟩ := h
  have hlt := hb.lt
  have hc1 := hb.cell 1
  have hc2 := hb.cell 2
  obtain ⟨A, c, rfl⟩ := h1.shape
  clear hb h1 h2 h3
  unfold RefS.full at hf
  generalize s.l.length = n at *
  generalize s.next = nx at *
  by_cases g1 : 65536 < bd.size
  · have i1 : (65536 : Int) < (bd.size : Int) := by omega
    clear hf
    go_enter Try.func50, Try.ntmps50
    go_wp2
    go_ret2
    exact ⟨rfl, (Below.refl _ _).alloc (Nat.le_refl _) _⟩
  · have i1 : (bd.size : Int) ≤ 65536 := by omega
    by_cases g2 : 4096 ≤ n
    · have i2 : (4096 : Int) ≤ (n : Int) := by omega
      clear hf g1 g2
      go_enter Try.func50, Try.ntmps50
      go_wp2
      go_ret2
      exact ⟨rfl, (Below.refl _ _).alloc (Nat.le_refl _) _⟩
    · have i2 : (n : Int) < 4096 := by omega
      have i3 : 1099511627776 ≤ nx := by omega
      clear hf g1 g2
      go_enter Try.func50, Try.ntmps50
      go_wp2
      go_ret2
      exact ⟨rfl, (Below.refl _ _).alloc (Nat.le_refl _) _⟩
end Go.Proofs.Ytaaeiljeanfinaa
