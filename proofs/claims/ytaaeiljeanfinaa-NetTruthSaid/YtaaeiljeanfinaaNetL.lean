import Derived.Test.YtaaeiljeanfinaaNetK
namespace Go.Proofs.Ytaaeiljeanfinaa
open Go Go.RowKit
set_option linter.unusedVariables false
set_option linter.unusedSimpArgs false

/-- A net of the call's own; nothing below B has turned since w0. -/
def Lone (B : Nat) (w0 w : World) (g : Nat) (s : NetS) : Prop := ∃ F, NetAt w F g s ∧ (∀ k, F k → B ≤ k ∧ k < w.heap.size) ∧ Below B w0 w ∧ B ≤ w0.heap.size
theorem Lone.of {B : Nat} {w0 w w' : World} {g : Nat} {s' : NetS} {F : Nat → Prop} (hF : ∀ k, F k → B ≤ k ∧ k < w.heap.size) (hB : Below B w0 w) (h0 : B ≤ w0.heap.size) (h : NetPost w F g s' w') : Lone B w0 w' g s' := by
  refine ⟨_, h.2, fun k hk => ?_, hB.trans ?_, h0⟩
  · rcases hk with hk | hk
    · exact ⟨(hF k hk).1, Nat.lt_of_lt_of_le (hF k hk).2 h.1.size⟩
    · have := hB.size; exact ⟨by omega, hk.2⟩
  · have := hB.size
    exact h.1.below (by omega) (fun k hk hf => by have := (hF k hf).1; omega)
theorem Lone.below {B : Nat} {w0 w w' : World} {g : Nat} {s : NetS} (h : Lone B w0 w g s) (hb : Below w.heap.size w w') : Lone B w0 w' g s := by
  obtain ⟨F, hn, hF, hB, h0⟩ := h
  exact Lone.of hF hB h0 (NetPost.of_below hn hb)
theorem Lone.back {B : Nat} {w0 w : World} {g : Nat} {s : NetS} (h : Lone B w0 w g s) : Below B w0 w := by obtain ⟨F, hn, hF, hB, h0⟩ := h; exact hB
theorem Lone.drewN {B : Nat} {w0 w : World} {g : Nat} {s : NetS} (h : Lone B w0 w g s) (n : Nat) : Lone B w0 (w.drewN n) g s := by
  obtain ⟨F, hn, hF, hB, h0⟩ := h
  exact ⟨F, hn, hF, pw_drewN hB n, h0⟩
theorem Lone.new {w0 w : World} (n : Int) (h1 : 1 ≤ n) (h2 : n ≤ 16) (hB : Below w0.heap.size w0 w) : Calls Try.prog 8 #[.int .i64 n] w fun e w' => e = .returned (.tuple #[.pointer (some ⟨w.heap.size, 0, none⟩), .int .i64 0]) ∧ Lone w0.heap.size w0 w' w.heap.size ⟨n, 0, [], []⟩ := by
  refine (net_new_ok n w h1 h2).mono ?_
  rintro e w' ⟨he, hb, hn, hs⟩
  have hz := hB.size
  exact ⟨he, _, hn, fun k hk => by subst hk; omega, hB.trans (hb.mono hz), Nat.le_refl _⟩
section
variable {B : Nat} {w0 w : World} {g : Nat} {s s' : NetS}
theorem Lone.send (h : Lone B w0 w g s) {a b x er : Int} {body : ByteArray} (he : s.send a b body = (s', x, er)) (hn : 0 ≤ s.next) (hs : body.size ≤ 140737488355328) :
    Calls Try.prog 10 #[.pointer (some ⟨g, 0, none⟩), .int .i64 a, .int .i64 b, .string body] w fun e w' => e = .returned (.tuple #[.int .i64 x, .int .i64 er]) ∧ Lone B w0 w' g s' := by
  obtain ⟨F, hna, hF, hB, h0⟩ := h
  refine (net_send F g s a b body w hna hn hs).mono ?_
  rw [he]
  rintro e w' ⟨rfl, hp⟩
  exact ⟨rfl, Lone.of hF hB h0 hp⟩
theorem Lone.copy (h : Lone B w0 w g s) {id x er : Int} (he : s.copy id = (s', x, er)) (hl : s.l.length ≤ 1000000) (hn : 0 ≤ s.next) (hs : ∀ x ∈ s.l, x.body.size ≤ 140737488355328) :
    Calls Try.prog 11 #[.pointer (some ⟨g, 0, none⟩), .int .i64 id] w fun e w' => e = .returned (.tuple #[.int .i64 x, .int .i64 er]) ∧ Lone B w0 w' g s' := by
  obtain ⟨F, hna, hF, hB, h0⟩ := h
  refine (net_copy F g s id w hna hl hn hs).mono ?_
  rw [he]
  rintro e w' ⟨rfl, hp⟩
  exact ⟨rfl, Lone.of hF hB h0 hp⟩
theorem Lone.lose (h : Lone B w0 w g s) {id er : Int} (he : s.lose id = (s', er)) (hl : s.l.length ≤ 1000000) :
    Calls Try.prog 12 #[.pointer (some ⟨g, 0, none⟩), .int .i64 id] w fun e w' => e = .returned (.int .i64 er) ∧ Lone B w0 w' g s' := by
  obtain ⟨F, hna, hF, hB, h0⟩ := h
  refine (net_lose F g s id w hna hl).mono ?_
  rw [he]
  rintro e w' ⟨rfl, hp⟩
  exact ⟨rfl, Lone.of hF hB h0 hp⟩
theorem Lone.take (h : Lone B w0 w g s) {id er : Int} {x : Letter} (he : s.take id = (s', x, er)) (hl : s.l.length ≤ 1000000) (hlp : s.parted.length ≤ 1000000) :
    Calls Try.prog 15 #[.pointer (some ⟨g, 0, none⟩), .int .i64 id] w fun e w' => e = .returned (.tuple #[.agg #[.int .i64 x.id, .int .i64 x.src, .int .i64 x.dst, .string x.body], .int .i64 er]) ∧ Lone B w0 w' g s' := by
  obtain ⟨F, hna, hF, hB, h0⟩ := h
  refine (net_take F g s id w hna (fun k hk => (hF k hk).2) hl hlp).mono ?_
  rw [he]
  rintro e w' ⟨rfl, hp⟩
  exact ⟨rfl, Lone.of hF hB h0 hp⟩
theorem Lone.part (h : Lone B w0 w g s) {a b er : Int} (he : s.part a b = (s', er)) (hlp : s.parted.length ≤ 1000000) :
    Calls Try.prog 13 #[.pointer (some ⟨g, 0, none⟩), .int .i64 a, .int .i64 b] w fun e w' => e = .returned (.int .i64 er) ∧ Lone B w0 w' g s' := by
  obtain ⟨F, hna, hF, hB, h0⟩ := h
  refine (net_part F g s a b w hna hlp).mono ?_
  rw [he]
  rintro e w' ⟨rfl, hp⟩
  exact ⟨rfl, Lone.of hF hB h0 hp⟩
theorem Lone.join (h : Lone B w0 w g s) {a b er : Int} (he : s.join a b = (s', er)) (hlp : s.parted.length ≤ 1000000) :
    Calls Try.prog 17 #[.pointer (some ⟨g, 0, none⟩), .int .i64 a, .int .i64 b] w fun e w' => e = .returned (.int .i64 er) ∧ Lone B w0 w' g s' := by
  obtain ⟨F, hna, hF, hB, h0⟩ := h
  refine (net_join F g s a b w hna (fun k hk => (hF k hk).2) hlp).mono ?_
  rw [he]
  rintro e w' ⟨rfl, hp⟩
  exact ⟨rfl, Lone.of hF hB h0 hp⟩
theorem Lone.letters (h : Lone B w0 w g s) (n : Nat) (hn : s.l.length = n) (hl : s.l.length ≤ 1000000) :
    Calls Try.prog 16 #[.pointer (some ⟨g, 0, none⟩)] w fun e w' => ∃ A c, e = .returned (.slice A n c) ∧ Row w' 38 4 Letter.cells (.slice A n c) s.l ∧ (∀ k, (Value.slice A n c).ownBlock = some k → w.heap.size ≤ k) ∧ Below w.heap.size w w' ∧ Lone B w0 w' g s := by
  obtain ⟨F, hna, hF, hB, h0⟩ := h
  refine (net_letters F g s w hna hl).mono ?_
  rintro e w' ⟨v, rfl, hr, hb, hn'⟩
  obtain ⟨A, c, rfl⟩ := hr.shape_n hn
  exact ⟨A, c, rfl, hr, hn', hb, Lone.below ⟨F, hna, hF, hB, h0⟩ hb⟩
end

set_option maxHeartbeats 4000000 in
set_option maxRecDepth 1000000 in
theorem works_true (w : World) : Calls Try.prog 9 #[] w fun e w' => e = .returned (.bool true) ∧ Below w.heap.size w w' := by
  have e1 := Lib.hid (show (⟨3, 0, [], []⟩ : NetS).send 0 1 ⟨#[97]⟩ = (⟨3, 1, [⟨0, 0, 1, ⟨#[97]⟩⟩], []⟩, 0, 0) from rfl)
  have e2 := Lib.hid (show (⟨3, 1, [⟨0, 0, 1, ⟨#[97]⟩⟩], []⟩ : NetS).copy 0 = (⟨3, 2, [⟨0, 0, 1, ⟨#[97]⟩⟩, ⟨1, 0, 1, ⟨#[97]⟩⟩], []⟩, 1, 0) from rfl)
  have e3 := Lib.hid (show (⟨3, 2, [⟨0, 0, 1, ⟨#[97]⟩⟩, ⟨1, 0, 1, ⟨#[97]⟩⟩], []⟩ : NetS).part 1 0 = (⟨3, 2, [⟨0, 0, 1, ⟨#[97]⟩⟩, ⟨1, 0, 1, ⟨#[97]⟩⟩], [mkPr 0 1]⟩, 0) from rfl)
  have e4 := Lib.hid (show (⟨3, 2, [⟨0, 0, 1, ⟨#[97]⟩⟩, ⟨1, 0, 1, ⟨#[97]⟩⟩], [mkPr 0 1]⟩ : NetS).take 0 = (⟨3, 2, [⟨0, 0, 1, ⟨#[97]⟩⟩, ⟨1, 0, 1, ⟨#[97]⟩⟩], [mkPr 0 1]⟩, Letter.zero, 4) from rfl)
  have e5 := Lib.hid (show (⟨3, 2, [⟨0, 0, 1, ⟨#[97]⟩⟩, ⟨1, 0, 1, ⟨#[97]⟩⟩], [mkPr 0 1]⟩ : NetS).join 0 1 = (⟨3, 2, [⟨0, 0, 1, ⟨#[97]⟩⟩, ⟨1, 0, 1, ⟨#[97]⟩⟩], []⟩, 0) from rfl)
  have e6 := Lib.hid (show (⟨3, 2, [⟨0, 0, 1, ⟨#[97]⟩⟩, ⟨1, 0, 1, ⟨#[97]⟩⟩], []⟩ : NetS).take 1 = (⟨3, 2, [⟨0, 0, 1, ⟨#[97]⟩⟩], []⟩, ⟨1, 0, 1, ⟨#[97]⟩⟩, 0) from rfl)
  have e7 := Lib.hid (show (⟨3, 2, [⟨0, 0, 1, ⟨#[97]⟩⟩], []⟩ : NetS).lose 0 = (⟨3, 2, [], []⟩, 0) from rfl)
  go_enter Try.func9, Try.ntmps9
  go_wp2_with (fail)
  refine (Lone.new (w0 := w) 3 (by decide) (by decide) (Below.refl _ _)).mono ?_
  rintro e w1 ⟨rfl, h1⟩
  have H1 := Lib.hid h1
  clear h1
  go_wp2_with (fail)
  refine (H1.out.send e1.out (by decide) (by decide)).mono ?_
  rintro e w2 ⟨rfl, h2⟩
  have H2 := Lib.hid h2
  clear h2
  go_wp2_with (fail)
  refine (H2.out.copy e2.out (by decide) (by decide) (by simp; decide)).mono ?_
  rintro e w3 ⟨rfl, h3⟩
  have H3 := Lib.hid h3
  clear h3
  go_wp2_with (fail)
  refine (H3.out.part e3.out (by decide)).mono ?_
  rintro e w4 ⟨rfl, h4⟩
  have H4 := Lib.hid h4
  clear h4
  go_wp2_with (fail)
  refine (H4.out.take e4.out (by decide) (by decide)).mono ?_
  rintro e w5 ⟨rfl, h5⟩
  have H5 := Lib.hid h5
  clear h5
  go_wp2_with (fail)
  refine (H5.out.join e5.out (by decide)).mono ?_
  rintro e w6 ⟨rfl, h6⟩
  have H6 := Lib.hid h6
  clear h6
  go_wp2_with (fail)
  refine (H6.out.take e6.out (by decide) (by decide)).mono ?_
  rintro e w7 ⟨rfl, h7⟩
  have H7 := Lib.hid h7
  clear h7
  go_wp2_with (fail)
  refine ((H7.out.below ((Below.refl _ _).alloc (Nat.le_refl _) _)).lose e7.out (by decide)).mono ?_
  rintro e w8 ⟨rfl, h8⟩
  have H8 := Lib.hid h8
  clear h8
  go_wp2_with (fail)
  refine (H8.out.letters 0 rfl (by decide)).mono ?_
  rintro e w9 ⟨A, c, rfl, hr, hn, hb, h9⟩
  have H9 := Lib.hid h9
  clear h9 hr hn hb
  go_wp2
  go_ret
  exact ⟨rfl, H9.out.back⟩
end Go.Proofs.Ytaaeiljeanfinaa
