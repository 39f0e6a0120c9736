import Derived.Test.YtaaeiljeanfinaaNetF
namespace Go.Proofs.Ytaaeiljeanfinaa
open Go Go.RowKit
set_option linter.unusedVariables false
set_option linter.unusedSimpArgs false

def NetPost (w : World) (F : Nat → Prop) (g : Nat) (s : NetS) (w' : World) : Prop := Kept w w' F ∧ NetAt w' (grow F w w') g s
theorem grow_sub {F : Nat → Prop} {a b c : World} (h : a.heap.size ≤ b.heap.size) {k : Nat} (hk : grow F b c k) : grow F a c k := hk.elim .inl (fun h' => .inr ⟨by omega, h'.2⟩)
theorem grow_two {F : Nat → Prop} {a b c : World} (h1 : a.heap.size ≤ b.heap.size) (h2 : b.heap.size ≤ c.heap.size) {k : Nat} (hk : grow (grow F a b) b c k) : grow F a c k := by
  rcases hk with (hk | hk) | hk
  · exact .inl hk
  · exact .inr ⟨hk.1, by omega⟩
  · exact .inr ⟨by omega, hk.2⟩
theorem NetPost.of_below {w w' : World} {F : Nat → Prop} {g : Nat} {s : NetS} (h : NetAt w F g s) (hb : Below w.heap.size w w') : NetPost w F g s w' := ⟨Kept.of_below hb F, (h.below hb).mono fun k _ h => .inl h⟩
theorem NetPost.after {a b c : World} {F : Nat → Prop} {g : Nat} {s : NetS} (hb : Below a.heap.size a b) (h : NetPost b F g s c) : NetPost a F g s c :=
  ⟨(Kept.of_below hb F).trans h.1, h.2.mono fun k _ hk => grow_sub hb.size hk⟩
theorem NetPost.then_ {a b c : World} {F : Nat → Prop} {g : Nat} {s s' : NetS} (h : NetPost a F g s b) (k : NetPost b (grow F a b) g s' c) : NetPost a F g s' c :=
  ⟨h.1.then_ k.1 (fun i hi => hi.elim .inl (fun x => .inr x.1)), k.2.mono fun i _ hi => grow_two h.1.size k.1.size hi⟩
theorem NetPost.kept {w w' : World} {F : Nat → Prop} {g : Nat} {s : NetS} (h : Kept w w' F) (hn : NetAt w' F g s) : NetPost w F g s w' := ⟨h, hn.mono fun _ _ x => .inl x⟩

theorem row_two (w : World) (a b : Int) : Row (w.alloc (.cells #[.int .i64 a, .int .i64 b] 3)) 3 1 icells (.slice (some ⟨w.heap.size, 0, none⟩) 2 2) [a, b] := World.ownsRow_lit w #[.int .i64 a, .int .i64 b] 2 (Nat.zero_le _) (by decide) rfl
theorem row_one (w : World) (a : Int) : Row (w.alloc (.cells #[.int .i64 a] 3)) 3 1 icells (.slice (some ⟨w.heap.size, 0, none⟩) 1 1) [a] := World.ownsRow_lit w #[.int .i64 a] 1 (Nat.zero_le _) (by decide) rfl

instance (s : NetS) (body : ByteArray) : Decidable (s.full body) := by unfold NetS.full; infer_instance
def NetS.put (s : NetS) (src dst : Int) (body : ByteArray) : NetS × Int × Int := if s.full body then (s, 0, 2) else (s.add src dst body, s.next, 0)
theorem net_put (F : Nat → Prop) (g : Nat) (s : NetS) (id src dst : Int) (body : ByteArray) (w : World) (h : NetAt w F g s) (hn : 0 ≤ s.next) (hs : body.size ≤ 140737488355328) :
    Calls Try.prog 24 #[.pointer (some ⟨g, 0, none⟩), .agg #[.int .i64 id, .int .i64 src, .int .i64 dst, .string body]] w fun e w' => e = .returned (.tuple #[.int .i64 (s.put src dst body).2.1, .int .i64 (s.put src dst body).2.2]) ∧ NetPost w F g (s.put src dst body).1 w' := by
  by_cases hf : s.full body
  · refine (net_put_full F g s ⟨id, src, dst, body⟩ w h hf hs).mono ?_
    rintro e w' ⟨rfl, hb⟩
    unfold NetS.put
    rw [if_pos hf]
    exact ⟨rfl, NetPost.of_below h hb⟩
  · refine (net_put_ok F g s ⟨id, src, dst, body⟩ w h hf hn).mono ?_
    rintro e w' ⟨rfl, hb⟩
    unfold NetS.put
    rw [if_neg hf]
    exact ⟨rfl, hb⟩

def NetS.send (s : NetS) (a b : Int) (body : ByteArray) : NetS × Int × Int := if (s.has a && s.has b) = true then s.put a b body else (s, 0, 30)
theorem net_send (F : Nat → Prop) (g : Nat) (s : NetS) (a b : Int) (body : ByteArray) (w : World) (h : NetAt w F g s) (hn : 0 ≤ s.next) (hs : body.size ≤ 140737488355328) :
    Calls Try.prog 10 #[.pointer (some ⟨g, 0, none⟩), .int .i64 a, .int .i64 b, .string body] w fun e w' => e = .returned (.tuple #[.int .i64 (s.send a b body).2.1, .int .i64 (s.send a b body).2.2]) ∧ NetPost w F g (s.send a b body).1 w' := by
  have h1 := h.below ((Below.refl _ w).alloc (Nat.le_refl _) (.cells #[.int .i64 a, .int .i64 b] 3))
  have hk := net_known F g s _ [a, b] _ h1 (row_two w a b) (by simp)
  rw [show [a, b].all s.has = (s.has a && s.has b) by simp] at hk
  have H := Lib.hid h
  have H1 := Lib.hid h1
  have HS := Lib.hid (show s.send a b body = if (s.has a && s.has b) = true then s.put a b body else (s, 0, 30) from rfl)
  generalize s.send a b body = r at HS ⊢
  generalize (s.has a && s.has b) = q at hk HS
  clear h h1
  cases q with
  | false =>
    obtain rfl : r = (s, 0, 30) := HS.out
    go_enter Try.func10, Try.ntmps10
    go_wp2_with (fail)
    refine hk.mono ?_
    rintro e w' ⟨rfl, hb'⟩
    go_wp2
    go_ret2
    exact ⟨rfl, NetPost.of_below H.out (below_next ((Below.refl _ _).alloc (Nat.le_refl _) _) hb')⟩
  | true =>
    obtain rfl : r = s.put a b body := HS.out
    have hput := fun W hW => net_put F g s 0 a b body W hW hn hs
    clear HS
    generalize s.put a b body = r at hput ⊢
    go_enter Try.func10, Try.ntmps10
    go_wp2_with (fail)
    refine hk.mono ?_
    rintro e w' ⟨rfl, hb'⟩
    have HB := Lib.hid hb'
    clear hb' hk
    go_wp2_with (fail)
    refine (hput _ (H1.out.below HB.out)).mono ?_
    rintro e w2 ⟨rfl, hp⟩
    have HP := Lib.hid hp
    clear hp hput
    go_wp2
    go_ret2
    exact ⟨rfl, HP.out.after (below_next ((Below.refl _ _).alloc (Nat.le_refl _) _) HB.out)⟩

theorem net_letters (F : Nat → Prop) (g : Nat) (s : NetS) (w : World) (h : NetAt w F g s) (hl : s.l.length ≤ 1000000) :
    Calls Try.prog 16 #[.pointer (some ⟨g, 0, none⟩)] w fun e w' => ∃ v, e = .returned v ∧ Row w' 38 4 Letter.cells v s.l ∧ Below w.heap.size w w' ∧ ∀ k, v.ownBlock = some k → w.heap.size ≤ k := by
  obtain ⟨vl, vp, hb, h1, h2, hg, f1, f2⟩ := h
  have hc1 := hb.cell 1
  have hc := clone_letters vl s.l w h1 (by omega)
  obtain ⟨A, m, c, rfl⟩ := h1.some_slice
  clear hb h1 h2
  go_enter Try.func16, Try.ntmps16
  go_wp2_with (fail)
  refine hc.mono ?_
  rintro e w' ⟨v, rfl, hr, hb', hn⟩
  have HR := Lib.hid hr
  have HN := Lib.hid hn
  clear hr hn
  go_wp2
  go_ret
  exact ⟨_, rfl, HR.out, hb', HN.out⟩
end Go.Proofs.Ytaaeiljeanfinaa
