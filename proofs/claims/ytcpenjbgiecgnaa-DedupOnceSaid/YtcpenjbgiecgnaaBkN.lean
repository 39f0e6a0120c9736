import Derived.Test.YtcpenjbgiecgnaaBkM
namespace Go.Proofs.Ytcpenjbgiecgnaa
open Go Go.RowKit
open Go.Proofs.YtcpenjbgiecgnaaW.PrintWords Go.Proofs.YtcpenjbgiecgnaaW.PrintLast Go.Proofs.YtcpenjbgiecgnaaW.PrintMore
open Go.Proofs.Ytcpenjbgiecgnaa.PAll (S62 fN fT)
open Go.Proofs.Ytcpenjbgiecgnaa.Bytes (I)
set_option linter.unusedVariables false
set_option linter.unusedSimpArgs false
set_option maxRecDepth 100000

/-! Save. -/
def cliF (S : Int → List Int) (c : Int) : List S62 := [fN c, fN (lastN (S c)), fN ((S c).length : Int)]
def cliT (S : Int → List Int) (c : Int) : List S62 := (S c).map fun n => fT (repT c n)
def cliA (S : Int → List Int) (c : Int) : List S62 := cliF S c ++ cliT S c
def bookF (d : Nat) (S : Int → List Int) (cs : List Int) : List S62 := fN (d : Int) :: cs.flatMap (cliA S)
def saveT (d : Nat) (S : Int → List Int) (cs : List Int) : ByteArray := strOfNums (I (Fn.enc (bookF d S cs)))
def IsCl (S : Int → List Int) (cs : List Int) : Prop := cs.Pairwise (· < ·) ∧ ∀ c, c ∈ cs ↔ S c ≠ [] ∧ (Lit.int .i64 c).wf = true
/-- What is small in a book. -/
structure Small (S : Int → List Int) : Prop where
  n : ∀ c x, x ∈ S c → 1 ≤ x ∧ x ≤ 1048576
  len : ∀ c, (S c).length ≤ 64
  cl : ∀ c, S c ≠ [] → 0 ≤ c ∧ c ≤ 3
section plain
theorem rising_few : ∀ (l : List Int) (lo : Int), l.Pairwise (· < ·) → (∀ x ∈ l, lo ≤ x ∧ x ≤ 3) → lo ≤ 4 → (l.length : Int) ≤ 4 - lo
  | [], lo, _, _, h => by simp; omega
  | x :: l, lo, hp, hx, h => by
    obtain ⟨h1, h2⟩ := List.pairwise_cons.1 hp
    have hx0 := hx x (by simp)
    have := rising_few l (x + 1) h2 (fun y hy => ⟨by have := h1 y hy; omega, (hx y (List.mem_cons_of_mem _ hy)).2⟩) (by omega)
    rw [List.length_cons]
    omega
variable {d : Nat} {S : Int → List Int} {cs : List Int}
theorem Small.keys (h : Small S) (hc : IsCl S cs) : cs.length ≤ 4 ∧ ∀ c ∈ cs, 0 ≤ c ∧ c ≤ 3 := by
  have hx : ∀ c ∈ cs, 0 ≤ c ∧ c ≤ 3 := fun c hm => h.cl c ((hc.2 c).1 hm).1
  have := rising_few cs 0 hc.1 hx (by omega)
  exact ⟨by omega, hx⟩
theorem cliA_len (h : Small S) (c : Int) : (cliA S c).length ≤ 67 := by
  have := h.len c
  unfold cliA cliF cliT
  rw [List.length_append, List.length_map]
  show 3 + _ ≤ _
  omega
theorem flat_len (h : Small S) : ∀ l : List Int, (l.flatMap (cliA S)).length ≤ 67 * l.length
  | [] => by simp
  | c :: l => by
    have := cliA_len h c
    have := flat_len h l
    rw [List.flatMap_cons, List.length_append, List.length_cons]
    omega
theorem bookF_len (h : Small S) (hc : IsCl S cs) : (bookF d S cs).length ≤ 269 := by
  have h1 := flat_len h cs
  have h2 := (h.keys hc).1
  unfold bookF
  rw [List.length_cons]
  omega
theorem fitN {n : Int} (h0 : -9223372036854775808 ≤ n) (h1 : n ≤ 9223372036854775807) : Fn.wfS (fN n) ∧ Fn.ok (fN n) = true ∧ ((fN n).f0 = true → (fN n).f2.size ≤ 262144) := ⟨⟨h0, h1⟩, rfl, fun h => by cases h⟩
theorem fitT {s : ByteArray} (h : s.size ≤ 262144) : Fn.wfS (fT s) ∧ Fn.ok (fT s) = true ∧ ((fT s).f0 = true → (fT s).f2.size ≤ 262144) := ⟨⟨by show (-9223372036854775808 : Int) ≤ 0; decide, by show (0 : Int) ≤ _; decide⟩, rfl, fun _ => h⟩
theorem last_small (h : Small S) (c : Int) : 0 ≤ lastN (S c) ∧ lastN (S c) ≤ 1048576 := by
  unfold lastN
  cases hl : (S c).getLast? with
  | none => simp
  | some x =>
    have := h.n c x (List.mem_of_getLast? hl)
    simp
    omega
theorem mem_book {x : S62} (h : Small S) (hc : IsCl S cs) (hd : d ≤ 64) (hx : x ∈ bookF d S cs) : (∃ n : Int, x = fN n ∧ 0 ≤ n ∧ n ≤ 1048576) ∨ ∃ c n, x = fT (repT c n) := by
  unfold bookF at hx
  rcases List.mem_cons.1 hx with rfl | hx
  · exact .inl ⟨_, rfl, by omega, by omega⟩
  · obtain ⟨c, hcm, hx⟩ := List.mem_flatMap.1 hx
    have hcs := (h.keys hc).2 c hcm
    have hl := last_small h c
    have hn := h.len c
    rcases List.mem_append.1 hx with hx | hx
    · unfold cliF at hx
      simp only [List.mem_cons, List.not_mem_nil, or_false] at hx
      rcases hx with rfl | rfl | rfl
      · exact .inl ⟨_, rfl, by omega, by omega⟩
      · exact .inl ⟨_, rfl, hl.1, hl.2⟩
      · exact .inl ⟨_, rfl, by omega, by omega⟩
    · obtain ⟨n, _, rfl⟩ := List.mem_map.1 hx
      exact .inr ⟨c, n, rfl⟩
theorem book_fit (h : Small S) (hc : IsCl S cs) (hd : d ≤ 64) : Fn.fit (bookF d S cs) := fun x hx => by
  rcases mem_book h hc hd hx with ⟨n, rfl, h0, h1⟩ | ⟨c, n, rfl⟩
  · exact fitN (by omega) (by omega)
  · exact fitT (Nat.le_trans (repT_size c n) (by decide))
theorem one_fT (s : ByteArray) (h : s.size ≤ 100) : (Fn.one (fT s)).length ≤ 110 := by
  have h1 := Bytes.digs_length 8 s.size (by omega)
  unfold Fn.one fT
  simp only [if_true, List.length_append, List.length_cons, Fn.num_length, Bytes.L_length]
  omega
theorem enc_le : ∀ l : List S62, (∀ x ∈ l, (Fn.one x).length ≤ 110) → (Fn.enc l).length ≤ 110 * l.length
  | [], _ => by simp [Fn.enc]
  | x :: l, h => by
    have h1 := h x (by simp)
    have h2 := enc_le l (fun y hy => h y (List.mem_cons_of_mem _ hy))
    rw [Fn.enc_cons, List.length_append, List.length_cons]
    omega
theorem book_enc (h : Small S) (hc : IsCl S cs) (hd : d ≤ 64) : (Fn.enc (bookF d S cs)).length ≤ 262144 := by
  have h1 := enc_le (bookF d S cs) (fun x hx => by
    rcases mem_book h hc hd hx with ⟨n, rfl, _, _⟩ | ⟨c, n, rfl⟩
    · exact Nat.le_trans (one_fN n) (by decide)
    · exact one_fT _ (repT_size c n))
  have h2 := bookF_len (d := d) h hc
  omega
end plain
theorem info_field : (Try.prog.info? 62).map (fun i => (i.zero, i.size, i.bytes)) = some (some (.agg #[.bool false, .int .i64 0, .string ⟨#[]⟩]), 3, 32) := by kernel_rfl
/-- What Save's loops carry. -/
structure SV (w0 w : World) (F : Nat → Prop) (g d nb mb : Nat) (m : Int → Option Value) (L : Int → List RX) (v4 : Value) (fl : List S62) (vc : Value) (cs : List Int) : Prop where
  bk : BkI w F g d nb mb m L
  row : Row w 62 3 FC v4 fl
  v4f : ∀ k, v4.ownBlock = some k → w0.heap.size ≤ k
  cl : Row w 3 1 icl vc cs
  h : Below w0.heap.size w0 w
  F0 : ∀ k, F k → k < w0.heap.size
section
variable {w0 w w1 : World} {F : Nat → Prop} {g d nb mb : Nat} {m : Int → Option Value} {L : Int → List RX} {v4 vc : Value} {fl : List S62} {cs : List Int}
theorem SV.below (h : SV w0 w F g d nb mb m L v4 fl vc cs) (hb : Below w.heap.size w w1) : SV w0 w1 F g d nb mb m L v4 fl vc cs :=
  ⟨h.bk.below hb, h.row.kept (Kept.of_below hb fun _ => False) (fun _ _ h => h), h.v4f, h.cl.kept (Kept.of_below hb fun _ => False) (fun _ _ h => h), h.h.trans (hb.mono h.h.size), h.F0⟩
theorem SV.alloc (h : SV w0 w F g d nb mb m L v4 fl vc cs) (o : Obj) : SV w0 (w.alloc o) F g d nb mb m L v4 fl vc cs := h.below ((Below.refl _ _).alloc (Nat.le_refl _) o)
theorem SV.drew (h : SV w0 w F g d nb mb m L v4 fl vc cs) : SV w0 w.drew F g d nb mb m L v4 fl vc cs := h.below (Kept.below ((Kept.refl w fun _ => False).drew) (Nat.le_refl _) (fun _ _ h => h))
theorem SV.look (h : SV w0 w F g d nb mb m L v4 fl vc cs) {c : Int} {v : Value} (hv : qv m c = v) (hK : (Lit.int .i64 c).wf = true ∧ keyOf Try.prog 3 (.int .i64 c) = some (.int .i64 c)) : (Instr.lookup 51 (.map (some mb)) (.int .i64 c) false).run Try.prog w = .ok v w := by
  rw [← hv]
  exact h.bk.im.look_run 51 54 (Go.Maps.int_keyed Try.underlying3) Try.underlying51 zero_reps c hK.1 hK.2
theorem SV.app (h : SV w0 w F g d nb mb m L v4 fl vc cs) {v1 : Value} {ys : List S62} (hR : Row w1 62 3 FC v1 (fl ++ ys)) (hg : w.grownBy w1 v4.ownBlock) (hO : v1.ownBlock = v4.ownBlock ∨ v1.ownBlock = some w.heap.size) :
    SV w0 w1 F g d nb mb m L v1 (fl ++ ys) vc cs := by
  have hk : Kept w w1 (fun k => some k = v4.ownBlock) := ⟨hg.os, hg.tape, hg.output, hg.size, fun k hk hn => hg.block k hk hn⟩
  have hs := h.h.size
  refine ⟨h.bk.kept hk (fun k hF e => by have := h.F0 k hF; have := h.v4f k e.symm; omega), hR, fun k e => ?_, h.cl.kept hk (fun k e he => ?_), h.h.trans (hk.below hs (fun k hk e => by have := h.v4f k e.symm; omega)), h.F0⟩
  · rcases hO with hO | hO
    · exact h.v4f k (hO ▸ e)
    · rw [hO] at e
      injection e with e
      omega
  · obtain ⟨cs1, b1⟩ := h.cl.typed e
    obtain ⟨cs2, b2⟩ := h.row.typed he.symm
    have h9 := b1.type_eq b2
    exact absurd h9 (by decide)
end
theorem news_F (w : World) (x : S62) : ∀ j u, ([x].flatMap FC)[j]? = some u → (w.alloc (.cells #[.bool x.f0, .int .i64 x.f1, .string x.f2] 62)).cell? ((⟨w.heap.size, 0, none⟩ : Addr).add j) = some u := by
  intro j u hu
  rw [addr0]
  have := (Blk.new w 62 #[.bool x.f0, .int .i64 x.f1, .string x.f2]).cell j
  rw [this, ← hu]
  match j with
  | 0 => rfl
  | 1 => rfl
  | 2 => rfl
  | j + 3 => rfl
theorem news_F3 (w : World) (a b c : Int) : ∀ j u, ([fN a, fN b, fN c].flatMap FC)[j]? = some u → (w.alloc (.cells #[.bool false, .int .i64 a, .string ⟨#[]⟩, .bool false, .int .i64 b, .string ⟨#[]⟩, .bool false, .int .i64 c, .string ⟨#[]⟩] 62)).cell? ((⟨w.heap.size, 0, none⟩ : Addr).add j) = some u := by
  intro j u hu
  rw [addr0]
  have := (Blk.new w 62 #[.bool false, .int .i64 a, .string ⟨#[]⟩, .bool false, .int .i64 b, .string ⟨#[]⟩, .bool false, .int .i64 c, .string ⟨#[]⟩]).cell j
  rw [this, ← hu]
  match j with
  | 0 => rfl
  | 1 => rfl
  | 2 => rfl
  | 3 => rfl
  | 4 => rfl
  | 5 => rfl
  | 6 => rfl
  | 7 => rfl
  | 8 => rfl
  | j + 9 => rfl
end Go.Proofs.Ytcpenjbgiecgnaa
