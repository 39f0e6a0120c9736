import Derived.Test.YtdfdlajfjcakaaaGreatCnF
import Derived.Test.YtdfdlajfjcakaaaGreatOCode
namespace Go.Proofs.YtdfdlajfjcakaaaGreat
open Go Go.RowKit
open Go.Proofs.YtdfdlajfjcakaaaGreatW.PrintLast
open Go.Proofs.YtdfdlajfjcakaaaGreat.PAll (S136 fN fT)
set_option linter.unusedVariables false
set_option linter.unusedSimpArgs false
set_option maxRecDepth 100000

/-! Letters: send, up, down. -/
theorem MPost.from_ {w w1 w' : World} {F : Nat → Prop} {g : Nat} {m : Mem} (hb : Below w.heap.size w w1) (h : MPost w1 F g m w') : MPost w F g m w' := by
  obtain ⟨F', hm, hk, hf⟩ := h
  exact ⟨F', hm, (Kept.of_below hb F).trans hk, fun k e => (hf k e).elim .inl (fun h => .inr (Nat.le_trans hb.size h))⟩
theorem Row.litn {α : Type} (enc : α → List Value) (w : World) (e sz : Nat) (l : List α) (n : Nat) (cs : Array Value) (h : cs.toList = l.flatMap enc) (hl : l.length = n) (hs : cs.size = n * sz) (hn : n ≤ maxLen) : Row (w.alloc (.cells cs e)) e sz enc (.slice (some ⟨w.heap.size, 0, none⟩) n n) l := by
  have := World.ownsRow_lit (base := 0) (e := e) (size := sz) w cs n (Nat.zero_le _) hn hs
  unfold Row
  rw [hl, ← h]
  exact this
/-- Behind a call that lays letters alone. -/
def OPost (w : World) (g : Nat) (m' : Mem) (tb : Nat) (vo vw vl vt : Value) (rw_ : List UndW) (rt : List RepW) (w' : World) : Prop := ∃ vl', MemP w' g m' tb vo vw vl' vt rw_ rt ∧ Kept w w' (fun k => k = g ∨ vl.ownBlock = some k) ∧ ∀ k, vl'.ownBlock = some k → vl.ownBlock = some k ∨ w.heap.size ≤ k
section
variable {w w1 w' : World} {g : Nat} {m m' : Mem} {tb : Nat} {vo vw vl vt : Value} {rw_ : List UndW} {rt : List RepW}
theorem OPost.mpost (h : OPost w g m' tb vo vw vl vt rw_ rt w') : MPost w (Foot g tb vo vw vl vt) g m' w' := by
  obtain ⟨vl', hp, hk, hf⟩ := h
  refine ⟨_, ⟨tb, vo, vw, vl', vt, rw_, rt, hp, rfl⟩, hk.mono (fun k _ e => ?_), fun k e => ?_⟩
  · rcases e with e | e
    · exact .inl e
    · exact .inr (.inr (.inr (.inr (.inl e))))
  · rcases e with e | e | e | e | e | e
    · exact .inl (.inl e)
    · exact .inl (.inr (.inl e))
    · exact .inl (.inr (.inr (.inl e)))
    · exact .inl (.inr (.inr (.inr (.inl e))))
    · exact (hf k e).elim (fun e => .inl (.inr (.inr (.inr (.inr (.inl e)))))) .inr
    · exact .inl (.inr (.inr (.inr (.inr (.inr e)))))
theorem OPost.mk0 (h : MemP w g m tb vo vw vl vt rw_ rt) (hb : Below w.heap.size w w') : OPost w g m tb vo vw vl vt rw_ rt w' := ⟨vl, h.below hb, Kept.of_below hb _, fun k e => .inl e⟩
theorem OPost.from_ (hb : Below w.heap.size w w1) (h : OPost w1 g m' tb vo vw vl vt rw_ rt w') : OPost w g m' tb vo vw vl vt rw_ rt w' := by
  obtain ⟨vl', hp, hk, hf⟩ := h
  exact ⟨vl', hp, (Kept.of_below hb _).trans hk, fun k e => (hf k e).elim .inl (fun h => .inr (Nat.le_trans hb.size h))⟩
end
def upF (E n : Int) : List S136 := [fN 2, fN E, fN n]
def dnF (E n : Int) (s : ByteArray) : List S136 := [fN 1, fN E, fN n, fT s]
def Num63 (n : Int) : Prop := -9223372036854775808 ≤ n ∧ n ≤ 9223372036854775807
theorem fit_fN {n : Int} (h : Num63 n) : Fn.wfS (fN n) ∧ Fn.ok (fN n) = true ∧ ((fN n).f0 = true → (fN n).f2.size ≤ 262144) := ⟨⟨h.1, h.2⟩, rfl, fun e => by cases e⟩
theorem fit_fT {s : ByteArray} (h : s.size ≤ 262144) : Fn.wfS (fT s) ∧ Fn.ok (fT s) = true ∧ ((fT s).f0 = true → (fT s).f2.size ≤ 262144) := ⟨⟨by show (-9223372036854775808 : Int) ≤ 0; omega, by show (0 : Int) ≤ 9223372036854775807; omega⟩, rfl, fun _ => h⟩
/-- A list that can be sent. -/
def Sends (l : List S136) : Prop := Fn.fit l ∧ l.length ≤ 4096 ∧ (Fn.enc l).length ≤ 262144
theorem up_sends {E n : Int} (hE : Num63 E) (hn : Num63 n) : Sends (upF E n) := by
  refine ⟨fun x hx => ?_, by unfold upF; simp, ?_⟩
  · simp only [upF, List.mem_cons, List.not_mem_nil, or_false] at hx
    rcases hx with rfl | rfl | rfl
    · exact fit_fN ⟨by omega, by omega⟩
    · exact fit_fN hE
    · exact fit_fN hn
  · have h1 := one_fN 2
    have h2 := one_fN E
    have h3 := one_fN n
    unfold upF
    simp only [Fn.enc_cons, Fn.enc_nil, List.length_append, List.length_nil]
    omega
theorem dn_sends {E n : Int} {s : ByteArray} (hE : Num63 E) (hn : Num63 n) (hs : s.size ≤ 60000) : Sends (dnF E n s) := by
  refine ⟨fun x hx => ?_, by unfold dnF; simp, ?_⟩
  · simp only [dnF, List.mem_cons, List.not_mem_nil, or_false] at hx
    rcases hx with rfl | rfl | rfl | rfl
    · exact fit_fN ⟨by omega, by omega⟩
    · exact fit_fN hE
    · exact fit_fN hn
    · exact fit_fT (by omega)
  · have h1 := one_fN 1
    have h2 := one_fN E
    have h3 := one_fN n
    have h4 := one_fT s (by omega)
    unfold dnF
    simp only [Fn.enc_cons, Fn.enc_nil, List.length_append, List.length_nil]
    omega
def Mem.sent (m : Mem) (to_ : Int) (l : List S136) : Mem := if to_ = -1 then m else { m with out := m.out ++ [⟨to_, bytesF l⟩] }
section
variable {w : World} {F : Nat → Prop} {g : Nat} {m : Mem}
set_option maxHeartbeats 4000000 in
theorem send_P {tb : Nat} {vo vw vl vt : Value} {rw_ : List UndW} {rt : List RepW} (h : MemP w g m tb vo vw vl vt rw_ rt) (to_ : Int) (v : Value) (l : List S136) (hv : Row w 136 3 FC v l) (hs : Sends l) (ho : m.out.length ≤ 1000000) :
    Calls Tryz.prog 72 #[.pointer (some ⟨g, 0, none⟩), .int .i64 to_, v] w fun e w' => e = .returned (.tuple #[]) ∧ OPost w g (m.sent to_ l) tb vo vw vl vt rw_ rt w' := by
  have henc := code_enc v l w hv hs.1 hs.2.1 hs.2.2
  by_cases ht : to_ = -1
  · have q : (to_ != -1) = false := by simp [ht]
    have H := Lib.hid (OPost.mk0 h (Below.refl _ w))
    have HE := Lib.hid (show m.sent to_ l = m by unfold Mem.sent; rw [if_pos ht])
    clear h henc ht
    go_enter Tryz.func72, Tryz.ntmps72
    go_wp2
    go_end0
    exact ⟨rfl, by rw [HE.out]; exact H.out⟩
  · have q : (to_ != -1) = true := by simp [ht]
    have HE := Lib.hid (show m.sent to_ l = { m with out := m.out ++ [⟨to_, bytesF l⟩] } by unfold Mem.sent; rw [if_neg ht])
    obtain ⟨A, n, c, rfl⟩ := h.l.some_slice
    have H := Lib.hid h
    have hle := Lib.hid (show (m.out.length + 1) * 24 ≤ 140737488355328 by omega)
    obtain ⟨bs, HBS⟩ : ∃ bs, Hid (bytesF l = bs) := ⟨_, Lib.hid rfl⟩
    rw [show strOfNums (Bytes.I (Fn.enc l)) = bytesF l from rfl, HBS.out] at henc
    rw [HBS.out] at HE
    clear h ht hv hs
    go_enter Tryz.func72, Tryz.ntmps72
    go_wp2_with (fail)
    refine henc.mono ?_
    rintro e w2 ⟨rfl, hb2⟩
    have HB2 := Lib.hid hb2
    have h2 := H.out.below hb2
    have KW := Lib.hid ((Kept.refl w2 (fun k => (Value.slice A n c).ownBlock = some k)).alloc (.cells #[.int .i64 to_, .string bs] 64))
    have HGA := h2.b.alloc (.cells #[.int .i64 to_, .string bs] 64)
    have c6 := h2.b.cell 6
    have c6a := HGA.cell 6
    have f6a := HGA.frozen 6
    have hgl := HGA.lt
    have HROW := Lib.hid (h2.l.alloc (.cells #[.int .i64 to_, .string bs] 64))
    have HLIT := Lib.hid (news_lit LetT.cells w2 64 ⟨to_, bs⟩ #[.int .i64 to_, .string bs] rfl)
    have hg6 : ¬ (Value.slice A n c).ownBlock = some g := fun e => by obtain ⟨cs, hc⟩ := h2.l.typed e; exact hc.ne_ h2.b (by decide) rfl
    have H2 := Lib.hid h2
    clear henc hb2 h2 HGA
    go_wp2_with (at_builtin; refine Row.append_list (by rfl) (.tmp 19) (.tmp 23) 47 64 (.agg #[.int .i64 0, .string ⟨#[]⟩]) 2 24 (by rfl) Tryz.underlying47 info_let rfl (by decide) (by decide) (.slice A n c) m.out [⟨to_, bs⟩] rfl ⟨w2.heap.size, 0, none⟩ 1 1 rfl HROW.out rfl (fun _ => rfl) HLIT.out one_let hle.out ?_)
    intro v7 w7 hR hG hO
    obtain ⟨A7, n7, c7, rfl⟩ := hR.some_slice
    have hk7 := KW.out.grown hG (fun k e => .inl e)
    have K7 := Lib.hid hk7
    have HR7 := Lib.hid hR
    have HO7 := Lib.hid hO
    have hk8 := (Kept.refl _ (fun k => (Value.slice A n c).ownBlock = some k)).grown hG (fun k e => .inl e)
    have c67 := (hk8.cell (p := ⟨g, 6, none⟩) hgl hg6).trans c6a
    have f67 := (hk8.frozen (p := ⟨g, 6, none⟩) hgl hg6).trans f6a
    have hgl7 : g < w7.heap.size := Nat.lt_of_lt_of_le hgl hk8.size
    clear hR hG hO hk7 hk8 c6 c6a f6a hgl
    go_wp2
    go_end0
    refine ⟨rfl, ?_⟩
    rw [HE.out]
    have hf9 : ∀ k, (Value.slice A7 n7 c7).ownBlock = some k → (Value.slice A n c).ownBlock = some k ∨ w2.heap.size ≤ k := fun k e => by
      rcases HO7.out with h | h
      · exact .inl (h ▸ e)
      · rw [h] at e
        injection e with e
        right
        rw [← e]
        first | omega | (simp; done) | (simp; omega)
    have h1 := H2.out.putL_ K7.out HR7.out hf9
    exact OPost.from_ HB2.out ⟨_, h1.1, h1.2, hf9⟩
theorem send_calls (h : MemAt w F g m) (to_ : Int) (v : Value) (l : List S136) (hv : Row w 136 3 FC v l) (hs : Sends l) (ho : m.out.length ≤ 1000000) :
    Calls Tryz.prog 72 #[.pointer (some ⟨g, 0, none⟩), .int .i64 to_, v] w fun e w' => e = .returned (.tuple #[]) ∧ MPost w F g (m.sent to_ l) w' := by
  obtain ⟨tb, vo, vw, vl, vt, rw_, rt, h, rfl⟩ := h
  exact (send_P h to_ v l hv hs ho).mono fun e w' h => ⟨h.1, h.2.mpost⟩
def Mem.upd (m : Mem) : Mem := m.sent (m.nb (-1)) (upF m.epoch m.behind)
def Mem.dnd (m : Mem) (n : Int) (r : ReqT) : Mem := m.sent (m.nb 1) (dnF m.epoch n (encR r).1)
set_option maxHeartbeats 4000000 in
theorem up_calls (h : MemAt w F g m) (ho : m.order.length ≤ 1000) (hE : Num63 m.epoch) (hB : Num63 m.behind) (hl : m.out.length ≤ 1000000) :
    Calls Tryz.prog 50 #[.pointer (some ⟨g, 0, none⟩)] w fun e w' => e = .returned (.tuple #[]) ∧ MPost w F g m.upd w' := by
  have HNB := Lib.hid (fun W (hb : Below w.heap.size w W) => nb_calls (-1) (.inr rfl) (h.below hb) ho)
  have HSD := Lib.hid (fun W (hb : Below w.heap.size w W) v (hv : Row W 136 3 FC v (upF m.epoch m.behind)) => send_calls (h.below hb) (m.nb (-1)) v _ hv (up_sends hE hB) hl)
  have H := Lib.hid h
  obtain ⟨tb, vo, vw, vl, vt, rw_, rt, h, rfl⟩ := h
  have c1 := h.b.cell 1
  have c4 := h.b.cell 4
  have hgl := h.b.lt
  obtain ⟨ep, HEP⟩ : ∃ x, Hid (m.epoch = x) := ⟨_, Lib.hid rfl⟩
  obtain ⟨bh, HBH⟩ : ∃ x, Hid (m.behind = x) := ⟨_, Lib.hid rfl⟩
  obtain ⟨nbv, HNV⟩ : ∃ x, Hid (m.nb (-1) = x) := ⟨_, Lib.hid rfl⟩
  have HU := Lib.hid (show m.upd = m.sent nbv (upF ep bh) by unfold Mem.upd; rw [HEP.out, HBH.out, HNV.out])
  rw [HEP.out] at c1 HSD
  rw [HBH.out] at c4 HSD
  rw [HNV.out] at HNB HSD
  have B0 := Lib.hid (Below.refl w.heap.size w)
  clear h ho hE hB hl
  go_enter Tryz.func50, Tryz.ntmps50
  go_wp2_with (fail)
  refine start_ (n := 17) (S := fun w' => w'.cell? ⟨g, 1, none⟩ = some (.int .i64 ep) ∧ w'.cell? ⟨g, 4, none⟩ = some (.int .i64 bh)) (ds := [16]) #[false, false, false, false, false, false, false, false, false, false, false, false, false, false, false, false, false] (by kernel_rfl) rfl rfl ⟨(B0.out.drew.cell (p := ⟨g, 1, none⟩) hgl).trans c1, (B0.out.drew.cell (p := ⟨g, 4, none⟩) hgl).trans c4⟩ (fun hHeld => ?_)
  refine pure_ (i := 0) (N := some 2) (v := ?_) (a' := ?_) #[true, false, false, false, false, false, false, false, false, false, false, false, false, false, false, false, false] rfl rfl (by kernel_rfl) (fun _ _ _ h => h) (Or.inl ⟨by rfl, ?_⟩) ?_ ?_
  rotate_left
  · intro w'
    go_simp
    with_reducible rfl
  rotate_left
  · simp only [Act.put, List.setIfInBounds_toArray, List.set_cons_zero, List.set_cons_succ, i64_w, i32_w]
    rfl
  refine pure_ (i := 1) (N := some 3) (v := ?_) (a' := ?_) #[true, true, false, false, false, false, false, false, false, false, false, false, false, false, false, false, false] rfl rfl (by kernel_rfl) (fun _ _ _ h => h) (Or.inl ⟨by rfl, ?_⟩) ?_ ?_
  rotate_left
  · intro w'
    go_simp
    with_reducible rfl
  rotate_left
  · simp only [Act.put, List.setIfInBounds_toArray, List.set_cons_zero, List.set_cons_succ, i64_w, i32_w]
    rfl
  refine pure_ (i := 4) (N := some 6) (v := ?_) (a' := ?_) #[true, true, false, false, true, false, false, false, false, false, false, false, false, false, false, false, false] rfl rfl (by kernel_rfl) (fun _ _ _ h => h) (Or.inl ⟨by rfl, ?_⟩) ?_ ?_
  rotate_left
  · intro w'
    go_simp
    with_reducible rfl
  rotate_left
  · simp only [Act.put, List.setIfInBounds_toArray, List.set_cons_zero, List.set_cons_succ, i64_w, i32_w]
    rfl
  refine pure_ (i := 5) (N := some 7) (v := ?_) (a' := ?_) #[true, true, false, false, true, true, false, false, false, false, false, false, false, false, false, false, false] rfl rfl (by kernel_rfl) (fun _ _ _ h => h) (Or.inl ⟨by rfl, ?_⟩) ?_ ?_
  rotate_left
  · intro w'
    go_simp
    with_reducible rfl
  rotate_left
  · simp only [Act.put, List.setIfInBounds_toArray, List.set_cons_zero, List.set_cons_succ, i64_w, i32_w]
    rfl
  refine pure_ (i := 6) (N := some 8) (v := ?_) (a' := ?_) #[true, true, false, false, true, true, true, false, false, false, false, false, false, false, false, false, false] rfl rfl (by kernel_rfl) (fun _ _ _ h => h) (Or.inl ⟨by rfl, ?_⟩) ?_ ?_
  rotate_left
  · intro w'
    go_simp
    with_reducible rfl
  rotate_left
  · simp only [Act.put, List.setIfInBounds_toArray, List.set_cons_zero, List.set_cons_succ, i64_w, i32_w]
    rfl
  refine pure_ (i := 9) (N := some 11) (v := ?_) (a' := ?_) #[true, true, false, false, true, true, true, false, false, true, false, false, false, false, false, false, false] rfl rfl (by kernel_rfl) (fun _ _ _ h => h) (Or.inl ⟨by rfl, ?_⟩) ?_ ?_
  rotate_left
  · intro w'
    go_simp
    with_reducible rfl
  rotate_left
  · simp only [Act.put, List.setIfInBounds_toArray, List.set_cons_zero, List.set_cons_succ, i64_w, i32_w]
    rfl
  refine pure_ (i := 10) (N := some 12) (v := ?_) (a' := ?_) #[true, true, false, false, true, true, true, false, false, true, true, false, false, false, false, false, false] rfl rfl (by kernel_rfl) (fun _ _ _ h => h) (Or.inl ⟨by rfl, ?_⟩) ?_ ?_
  rotate_left
  · intro w'
    go_simp
    with_reducible rfl
  rotate_left
  · simp only [Act.put, List.setIfInBounds_toArray, List.set_cons_zero, List.set_cons_succ, i64_w, i32_w]
    rfl
  refine pure_ (i := 11) (N := some 13) (v := ?_) (a' := ?_) #[true, true, false, false, true, true, true, false, false, true, true, true, false, false, false, false, false] rfl rfl (by kernel_rfl) (fun _ _ _ h => h) (Or.inl ⟨by rfl, ?_⟩) ?_ ?_
  rotate_left
  · intro w'
    go_simp
    with_reducible rfl
  rotate_left
  · simp only [Act.put, List.setIfInBounds_toArray, List.set_cons_zero, List.set_cons_succ, i64_w, i32_w]
    rfl
  refine pure_ (i := 12) (N := some 14) (v := ?_) (a' := ?_) #[true, true, false, false, true, true, true, false, false, true, true, true, true, false, false, false, false] rfl rfl (by kernel_rfl) (fun _ _ _ h => h) (Or.inl ⟨by rfl, ?_⟩) ?_ ?_
  rotate_left
  · intro w'
    go_simp
    with_reducible rfl
  rotate_left
  · simp only [Act.put, List.setIfInBounds_toArray, List.set_cons_zero, List.set_cons_succ, i64_w, i32_w]
    rfl
  refine take_ (i := 7) (N := some 9) (v := ?_) (a' := ?_) #[true, true, false, false, true, true, true, true, false, true, true, true, true, false, false, false, false] rfl rfl (by kernel_rfl) (fun _ _ _ h => h) (Or.inl ⟨by rfl, ?_⟩) hHeld ?_ ?_
  rotate_left
  · rintro w' ⟨s0, s1⟩
    go_simp
    with_reducible rfl
  rotate_left
  · simp only [Act.put, List.setIfInBounds_toArray, List.set_cons_zero, List.set_cons_succ, i64_w, i32_w]
    rfl
  refine take_ (i := 13) (N := some 15) (v := ?_) (a' := ?_) #[true, true, false, false, true, true, true, true, false, true, true, true, true, true, false, false, false] rfl rfl (by kernel_rfl) (fun _ _ _ h => h) (Or.inl ⟨by rfl, ?_⟩) hHeld ?_ ?_
  rotate_left
  · rintro w' ⟨s0, s1⟩
    go_simp
    with_reducible rfl
  rotate_left
  · simp only [Act.put, List.setIfInBounds_toArray, List.set_cons_zero, List.set_cons_succ, i64_w, i32_w]
    rfl
  refine one_ (i := 2) (N := some 4) #[true, true, true, false, true, true, true, true, false, true, true, true, true, true, false, false, false] rfl rfl (by kernel_rfl) (by decide) (fun K hK => ?_)
  refine goes_ Tryz.func48 (by kernel_rfl) rfl #[.pointer (some ⟨g, 0, none⟩), .int .i64 (-1)] (by rfl) rfl rfl (by simp only [List.map_toArray, List.map_cons, List.map_nil]; rfl) ?_
  with_reducible refine (HNB.out _ B0.out.drew).mono ?_
  rintro e w2 ⟨rfl, hb2⟩
  have B2 := Lib.hid (B0.out.drew.trans (hb2.mono B0.out.drew.size))
  clear hb2
  refine ⟨_, rfl, ?_⟩
  refine hK.out _ _ ⟨(B2.out.cell (p := ⟨g, 1, none⟩) hgl).trans c1, (B2.out.cell (p := ⟨g, 4, none⟩) hgl).trans c4⟩ (fun hHeld => ?_)
  clear hK K
  refine norm_ (a' := ?_) ?_ ?_
  rotate_left
  · show Act.put _ (some 4) _ = _
    simp only [Act.put, List.setIfInBounds_toArray, List.set_cons_zero, List.set_cons_succ, i64_w, i32_w]
    rfl
  refine one_ (i := 3) (N := some 5) #[true, true, true, true, true, true, true, true, false, true, true, true, true, true, false, false, false] rfl rfl (by kernel_rfl) (by decide) (fun K hK => ?_)
  refine goes_ Tryz.func73 (by kernel_rfl) rfl #[.int .i64 2] (by rfl) rfl rfl (by simp only [List.map_toArray, List.map_cons, List.map_nil]; rfl) ?_
  with_reducible refine (number_calls 2 _).mono ?_
  rintro e w3 ⟨rfl, hb3⟩
  have B3 := Lib.hid (B2.out.trans (hb3.mono B2.out.size))
  clear hb3
  refine ⟨_, rfl, ?_⟩
  refine hK.out _ _ ⟨(B3.out.cell (p := ⟨g, 1, none⟩) hgl).trans c1, (B3.out.cell (p := ⟨g, 4, none⟩) hgl).trans c4⟩ (fun hHeld => ?_)
  clear hK K
  refine norm_ (a' := ?_) ?_ ?_
  rotate_left
  · show Act.put _ (some 5) _ = _
    simp only [Act.put, List.setIfInBounds_toArray, List.set_cons_zero, List.set_cons_succ, i64_w, i32_w]
    rfl
  refine one_ (i := 8) (N := some 10) #[true, true, true, true, true, true, true, true, true, true, true, true, true, true, false, false, false] rfl rfl (by kernel_rfl) (by decide) (fun K hK => ?_)
  refine goes_ Tryz.func73 (by kernel_rfl) rfl #[.int .i64 ep] (by rfl) rfl rfl (by simp only [List.map_toArray, List.map_cons, List.map_nil]; rfl) ?_
  with_reducible refine (number_calls ep _).mono ?_
  rintro e w4 ⟨rfl, hb4⟩
  have B4 := Lib.hid (B3.out.trans (hb4.mono B3.out.size))
  clear hb4
  refine ⟨_, rfl, ?_⟩
  refine hK.out _ _ ⟨(B4.out.cell (p := ⟨g, 1, none⟩) hgl).trans c1, (B4.out.cell (p := ⟨g, 4, none⟩) hgl).trans c4⟩ (fun hHeld => ?_)
  clear hK K
  refine norm_ (a' := ?_) ?_ ?_
  rotate_left
  · show Act.put _ (some 10) _ = _
    simp only [Act.put, List.setIfInBounds_toArray, List.set_cons_zero, List.set_cons_succ, i64_w, i32_w]
    rfl
  refine one_ (i := 14) (N := some 16) #[true, true, true, true, true, true, true, true, true, true, true, true, true, true, true, false, false] rfl rfl (by kernel_rfl) (by decide) (fun K hK => ?_)
  refine goes_ Tryz.func73 (by kernel_rfl) rfl #[.int .i64 bh] (by rfl) rfl rfl (by simp only [List.map_toArray, List.map_cons, List.map_nil]; rfl) ?_
  with_reducible refine (number_calls bh _).mono ?_
  rintro e w5 ⟨rfl, hb5⟩
  have B5 := Lib.hid (B4.out.trans (hb5.mono B4.out.size))
  clear hb5
  refine ⟨_, rfl, ?_⟩
  refine hK.out _ _ ⟨(B5.out.cell (p := ⟨g, 1, none⟩) hgl).trans c1, (B5.out.cell (p := ⟨g, 4, none⟩) hgl).trans c4⟩ (fun hHeld => ?_)
  clear hK K
  refine norm_ (a' := ?_) ?_ ?_
  rotate_left
  · show Act.put _ (some 16) _ = _
    simp only [Act.put, List.setIfInBounds_toArray, List.set_cons_zero, List.set_cons_succ, i64_w, i32_w]
    rfl
  refine one_ (i := 15) (N := some 17) #[true, true, true, true, true, true, true, true, true, true, true, true, true, true, true, true, false] rfl rfl (by kernel_rfl) (by decide) (fun K hK => ?_)
  refine value_ (w1 := ?_) (v := ?_) (by rfl) rfl ?_ ?_
  rotate_left 2
  · go_simp
    constructor
    · rfl
    · rfl
  have HL := Lib.hid (Row.litn FC w5 136 3 (upF ep bh) 3 #[.bool false, .int .i64 2, .string ⟨#[]⟩, .bool false, .int .i64 ep, .string ⟨#[]⟩, .bool false, .int .i64 bh, .string ⟨#[]⟩] rfl rfl rfl (by decide))
  have B6 := Lib.hid (B5.out.alloc B5.out.size (.cells #[.bool false, .int .i64 2, .string ⟨#[]⟩, .bool false, .int .i64 ep, .string ⟨#[]⟩, .bool false, .int .i64 bh, .string ⟨#[]⟩] 136))
  refine hK.out _ _ ⟨(B6.out.cell (p := ⟨g, 1, none⟩) hgl).trans c1, (B6.out.cell (p := ⟨g, 4, none⟩) hgl).trans c4⟩ (fun hHeld => ?_)
  clear hK K
  refine norm_ (a' := ?_) ?_ ?_
  rotate_left
  · show Act.put _ (some 17) _ = _
    simp only [Act.put, List.setIfInBounds_toArray, List.set_cons_zero, List.set_cons_succ, i64_w, i32_w]
    rfl
  refine last_ (i := 16) (N := some 18) #[true, true, true, true, true, true, true, true, true, true, true, true, true, true, true, true, true] rfl rfl (by kernel_rfl) (by decide) (fun K hK => ?_)
  refine goes_ Tryz.func72 (by kernel_rfl) rfl #[.pointer (some ⟨g, 0, none⟩), .int .i64 nbv, .slice (some ⟨w5.heap.size, 0, none⟩) 3 3] (by rfl) rfl rfl (by simp only [List.map_toArray, List.map_cons, List.map_nil]; rfl) ?_
  with_reducible refine (HSD.out _ B6.out _ HL.out).mono ?_
  rintro e w7 ⟨rfl, h7⟩
  have H7 := Lib.hid h7
  clear h7
  refine ⟨_, rfl, ?_⟩
  refine hK.out _ _ ?_
  clear hK K
  refine norm_ (a' := ?_) ?_ ?_
  rotate_left
  · show Act.put _ (some 18) _ = _
    simp only [Act.put, List.setIfInBounds_toArray, List.set_cons_zero, List.set_cons_succ, i64_w, i32_w]
    rfl
  refine done_ (by kernel_rfl) ?_
  go_wp2
  go_end0
  refine ⟨rfl, ?_⟩
  rw [HU.out]
  exact MPost.from_ B6.out H7.out
set_option maxHeartbeats 4000000 in
theorem down_P {tb : Nat} {vo vw vl vt : Value} {rw_ : List UndW} {rt : List RepW} (h : MemP w g m tb vo vw vl vt rw_ rt) (n : Int) (r : ReqT) (v : Value) (hv : SegG w OpT.cells v r.ops) (he : (encR r).1.size ≤ 60000) (ho : m.order.length ≤ 1000) (hE : Num63 m.epoch) (hn : Num63 n) (hl : m.out.length ≤ 1000000) :
    Calls Tryz.prog 51 #[.pointer (some ⟨g, 0, none⟩), .int .i64 n, r.v v] w fun e w' => e = .returned (.tuple #[]) ∧ OPost w g (m.dnd n r) tb vo vw vl vt rw_ rt w' := by
  have hA : MemAt w (Foot g tb vo vw vl vt) g m := ⟨_, _, _, _, _, _, _, h, rfl⟩
  have HNB := Lib.hid (fun W (hb : Below w.heap.size w W) => nb_calls 1 (.inl rfl) (hA.below hb) ho)
  have HSD := Lib.hid (fun W (hb : Below w.heap.size w W) v (hv : Row W 136 3 FC v (dnF m.epoch n (encR r).1)) => send_P (h.below hb) (m.nb 1) v _ hv (dn_sends hE hn he) hl)
  have H := Lib.hid h
  have c1 := h.b.cell 1
  have hgl := h.b.lt
  obtain ⟨A, k, c, rfl⟩ : ∃ A k c, v = .slice A k c := by obtain ⟨A, c, e, _⟩ := hv.shape; exact ⟨A, _, c, e⟩
  have B0 := Lib.hid ((Below.refl w.heap.size w).alloc (Nat.le_refl _) (.cells #[.int .i64 r.client, .int .i64 r.seq, .slice A k c] 39))
  have henc := encode_calls r (.slice A k c) _ (hv.below B0.out)
  have HX := Blk.new w 39 #[.int .i64 r.client, .int .i64 r.seq, .slice A k c]
  have x0 := HX.cell 0
  have x1 := HX.cell 1
  have x2 := HX.cell 2
  obtain ⟨ep, HEP⟩ : ∃ x, Hid (m.epoch = x) := ⟨_, Lib.hid rfl⟩
  obtain ⟨bs, HBS⟩ : ∃ x, Hid ((encR r).1 = x) := ⟨_, Lib.hid rfl⟩
  obtain ⟨be, HBE⟩ : ∃ x, Hid ((encR r).2 = x) := ⟨_, Lib.hid rfl⟩
  obtain ⟨nbv, HNV⟩ : ∃ x, Hid (m.nb 1 = x) := ⟨_, Lib.hid rfl⟩
  have HU := Lib.hid (show m.dnd n r = m.sent nbv (dnF ep n bs) by unfold Mem.dnd; rw [HEP.out, HBS.out, HNV.out])
  rw [HEP.out] at c1 HSD
  rw [HBS.out] at HSD henc
  rw [HBE.out] at henc
  rw [HNV.out] at HNB HSD
  clear h hA ho hE hn hl he hv HX
  unfold ReqT.v at henc ⊢
  go_enter Tryz.func51, Tryz.ntmps51
  go_wp2_with (fail)
  generalize (w.alloc (.cells #[.int .i64 r.client, .int .i64 r.seq, .slice A k c] 39)) = wa at *
  refine henc.mono ?_
  rintro e w1 ⟨rfl, hb1⟩
  have B1 := Lib.hid (B0.out.trans (hb1.mono B0.out.size))
  clear henc hb1 x0 x1 x2
  go_wp2_with (fail)
  refine start_ (n := 15) (S := fun w' => w'.cell? ⟨g, 1, none⟩ = some (.int .i64 ep)) (ds := [14]) #[false, false, false, false, false, false, false, false, false, false, false, false, false, false, false] (by kernel_rfl) rfl rfl ((B1.out.drew.cell (p := ⟨g, 1, none⟩) hgl).trans c1) (fun hHeld => ?_)
  refine pure_ (i := 0) (N := some 13) (v := ?_) (a' := ?_) #[true, false, false, false, false, false, false, false, false, false, false, false, false, false, false] rfl rfl (by kernel_rfl) (fun _ _ _ h => h) (Or.inl ⟨by rfl, ?_⟩) ?_ ?_
  rotate_left
  · intro w'
    go_simp
    with_reducible rfl
  rotate_left
  · simp only [Act.put, List.setIfInBounds_toArray, List.set_cons_zero, List.set_cons_succ, i64_w, i32_w]
    rfl
  refine pure_ (i := 1) (N := some 14) (v := ?_) (a' := ?_) #[true, true, false, false, false, false, false, false, false, false, false, false, false, false, false] rfl rfl (by kernel_rfl) (fun _ _ _ h => h) (Or.inl ⟨by rfl, ?_⟩) ?_ ?_
  rotate_left
  · intro w'
    go_simp
    with_reducible rfl
  rotate_left
  · simp only [Act.put, List.setIfInBounds_toArray, List.set_cons_zero, List.set_cons_succ, i64_w, i32_w]
    rfl
  refine pure_ (i := 4) (N := some 17) (v := ?_) (a' := ?_) #[true, true, false, false, true, false, false, false, false, false, false, false, false, false, false] rfl rfl (by kernel_rfl) (fun _ _ _ h => h) (Or.inl ⟨by rfl, ?_⟩) ?_ ?_
  rotate_left
  · intro w'
    go_simp
    with_reducible rfl
  rotate_left
  · simp only [Act.put, List.setIfInBounds_toArray, List.set_cons_zero, List.set_cons_succ, i64_w, i32_w]
    rfl
  refine pure_ (i := 5) (N := some 18) (v := ?_) (a' := ?_) #[true, true, false, false, true, true, false, false, false, false, false, false, false, false, false] rfl rfl (by kernel_rfl) (fun _ _ _ h => h) (Or.inl ⟨by rfl, ?_⟩) ?_ ?_
  rotate_left
  · intro w'
    go_simp
    with_reducible rfl
  rotate_left
  · simp only [Act.put, List.setIfInBounds_toArray, List.set_cons_zero, List.set_cons_succ, i64_w, i32_w]
    rfl
  refine pure_ (i := 6) (N := some 19) (v := ?_) (a' := ?_) #[true, true, false, false, true, true, true, false, false, false, false, false, false, false, false] rfl rfl (by kernel_rfl) (fun _ _ _ h => h) (Or.inl ⟨by rfl, ?_⟩) ?_ ?_
  rotate_left
  · intro w'
    go_simp
    with_reducible rfl
  rotate_left
  · simp only [Act.put, List.setIfInBounds_toArray, List.set_cons_zero, List.set_cons_succ, i64_w, i32_w]
    rfl
  refine pure_ (i := 9) (N := some 22) (v := ?_) (a' := ?_) #[true, true, false, false, true, true, true, false, false, true, false, false, false, false, false] rfl rfl (by kernel_rfl) (fun _ _ _ h => h) (Or.inl ⟨by rfl, ?_⟩) ?_ ?_
  rotate_left
  · intro w'
    go_simp
    with_reducible rfl
  rotate_left
  · simp only [Act.put, List.setIfInBounds_toArray, List.set_cons_zero, List.set_cons_succ, i64_w, i32_w]
    rfl
  refine pure_ (i := 11) (N := some 24) (v := ?_) (a' := ?_) #[true, true, false, false, true, true, true, false, false, true, false, true, false, false, false] rfl rfl (by kernel_rfl) (fun _ _ _ h => h) (Or.inl ⟨by rfl, ?_⟩) ?_ ?_
  rotate_left
  · intro w'
    go_simp
    with_reducible rfl
  rotate_left
  · simp only [Act.put, List.setIfInBounds_toArray, List.set_cons_zero, List.set_cons_succ, i64_w, i32_w]
    rfl
  refine pure_ (i := 12) (N := some 25) (v := ?_) (a' := ?_) #[true, true, false, false, true, true, true, false, false, true, false, true, true, false, false] rfl rfl (by kernel_rfl) (fun _ _ _ h => h) (Or.inl ⟨by rfl, ?_⟩) ?_ ?_
  rotate_left
  · intro w'
    go_simp
    with_reducible rfl
  rotate_left
  · simp only [Act.put, List.setIfInBounds_toArray, List.set_cons_zero, List.set_cons_succ, i64_w, i32_w]
    rfl
  refine take_ (i := 7) (N := some 20) (v := ?_) (a' := ?_) #[true, true, false, false, true, true, true, true, false, true, false, true, true, false, false] rfl rfl (by kernel_rfl) (fun _ _ _ h => h) (Or.inl ⟨by rfl, ?_⟩) hHeld ?_ ?_
  rotate_left
  · intro w' s0
    go_simp
    with_reducible rfl
  rotate_left
  · simp only [Act.put, List.setIfInBounds_toArray, List.set_cons_zero, List.set_cons_succ, i64_w, i32_w]
    rfl
  refine one_ (i := 2) (N := some 15) #[true, true, true, false, true, true, true, true, false, true, false, true, true, false, false] rfl rfl (by kernel_rfl) (by decide) (fun K hK => ?_)
  refine goes_ Tryz.func48 (by kernel_rfl) rfl #[.pointer (some ⟨g, 0, none⟩), .int .i64 1] (by rfl) rfl rfl (by simp only [List.map_toArray, List.map_cons, List.map_nil]; rfl) ?_
  with_reducible refine (HNB.out _ B1.out.drew).mono ?_
  rintro e w2 ⟨rfl, hb2⟩
  have B2 := Lib.hid (B1.out.drew.trans (hb2.mono B1.out.drew.size))
  clear hb2
  refine ⟨_, rfl, ?_⟩
  refine hK.out _ _ ((B2.out.cell (p := ⟨g, 1, none⟩) hgl).trans c1) (fun hHeld => ?_)
  clear hK K
  refine norm_ (a' := ?_) ?_ ?_
  rotate_left
  · show Act.put _ (some 15) _ = _
    simp only [Act.put, List.setIfInBounds_toArray, List.set_cons_zero, List.set_cons_succ, i64_w, i32_w]
    rfl
  refine one_ (i := 3) (N := some 16) #[true, true, true, true, true, true, true, true, false, true, false, true, true, false, false] rfl rfl (by kernel_rfl) (by decide) (fun K hK => ?_)
  refine goes_ Tryz.func73 (by kernel_rfl) rfl #[.int .i64 1] (by rfl) rfl rfl (by simp only [List.map_toArray, List.map_cons, List.map_nil]; rfl) ?_
  with_reducible refine (number_calls 1 _).mono ?_
  rintro e w3 ⟨rfl, hb3⟩
  have B3 := Lib.hid (B2.out.trans (hb3.mono B2.out.size))
  clear hb3
  refine ⟨_, rfl, ?_⟩
  refine hK.out _ _ ((B3.out.cell (p := ⟨g, 1, none⟩) hgl).trans c1) (fun hHeld => ?_)
  clear hK K
  refine norm_ (a' := ?_) ?_ ?_
  rotate_left
  · show Act.put _ (some 16) _ = _
    simp only [Act.put, List.setIfInBounds_toArray, List.set_cons_zero, List.set_cons_succ, i64_w, i32_w]
    rfl
  refine one_ (i := 8) (N := some 21) #[true, true, true, true, true, true, true, true, true, true, false, true, true, false, false] rfl rfl (by kernel_rfl) (by decide) (fun K hK => ?_)
  refine goes_ Tryz.func73 (by kernel_rfl) rfl #[.int .i64 ep] (by rfl) rfl rfl (by simp only [List.map_toArray, List.map_cons, List.map_nil]; rfl) ?_
  with_reducible refine (number_calls ep _).mono ?_
  rintro e w4 ⟨rfl, hb4⟩
  have B4 := Lib.hid (B3.out.trans (hb4.mono B3.out.size))
  clear hb4
  refine ⟨_, rfl, ?_⟩
  refine hK.out _ _ ((B4.out.cell (p := ⟨g, 1, none⟩) hgl).trans c1) (fun hHeld => ?_)
  clear hK K
  refine norm_ (a' := ?_) ?_ ?_
  rotate_left
  · show Act.put _ (some 21) _ = _
    simp only [Act.put, List.setIfInBounds_toArray, List.set_cons_zero, List.set_cons_succ, i64_w, i32_w]
    rfl
  refine one_ (i := 10) (N := some 23) #[true, true, true, true, true, true, true, true, true, true, true, true, true, false, false] rfl rfl (by kernel_rfl) (by decide) (fun K hK => ?_)
  refine goes_ Tryz.func73 (by kernel_rfl) rfl #[.int .i64 n] (by rfl) rfl rfl (by simp only [List.map_toArray, List.map_cons, List.map_nil]; rfl) ?_
  with_reducible refine (number_calls n _).mono ?_
  rintro e w5 ⟨rfl, hb5⟩
  have B5 := Lib.hid (B4.out.trans (hb5.mono B4.out.size))
  clear hb5
  refine ⟨_, rfl, ?_⟩
  refine hK.out _ _ ((B5.out.cell (p := ⟨g, 1, none⟩) hgl).trans c1) (fun hHeld => ?_)
  clear hK K
  refine norm_ (a' := ?_) ?_ ?_
  rotate_left
  · show Act.put _ (some 23) _ = _
    simp only [Act.put, List.setIfInBounds_toArray, List.set_cons_zero, List.set_cons_succ, i64_w, i32_w]
    rfl
  refine one_ (i := 13) (N := some 26) #[true, true, true, true, true, true, true, true, true, true, true, true, true, true, false] rfl rfl (by kernel_rfl) (by decide) (fun K hK => ?_)
  refine value_ (w1 := ?_) (v := ?_) (by rfl) rfl ?_ ?_
  rotate_left 2
  · go_simp
    constructor
    · rfl
    · rfl
  have HL := Lib.hid (Row.litn FC w5 136 3 (dnF ep n bs) 4 #[.bool false, .int .i64 1, .string ⟨#[]⟩, .bool false, .int .i64 ep, .string ⟨#[]⟩, .bool false, .int .i64 n, .string ⟨#[]⟩, .bool true, .int .i64 0, .string bs] rfl rfl rfl (by decide))
  have B6 := Lib.hid (B5.out.alloc B5.out.size (.cells #[.bool false, .int .i64 1, .string ⟨#[]⟩, .bool false, .int .i64 ep, .string ⟨#[]⟩, .bool false, .int .i64 n, .string ⟨#[]⟩, .bool true, .int .i64 0, .string bs] 136))
  refine hK.out _ _ ((B6.out.cell (p := ⟨g, 1, none⟩) hgl).trans c1) (fun hHeld => ?_)
  clear hK K
  refine norm_ (a' := ?_) ?_ ?_
  rotate_left
  · show Act.put _ (some 26) _ = _
    simp only [Act.put, List.setIfInBounds_toArray, List.set_cons_zero, List.set_cons_succ, i64_w, i32_w]
    rfl
  refine last_ (i := 14) (N := some 27) #[true, true, true, true, true, true, true, true, true, true, true, true, true, true, true] rfl rfl (by kernel_rfl) (by decide) (fun K hK => ?_)
  refine goes_ Tryz.func72 (by kernel_rfl) rfl #[.pointer (some ⟨g, 0, none⟩), .int .i64 nbv, .slice (some ⟨w5.heap.size, 0, none⟩) 4 4] (by rfl) rfl rfl (by simp only [List.map_toArray, List.map_cons, List.map_nil]; rfl) ?_
  with_reducible refine (HSD.out _ B6.out _ HL.out).mono ?_
  rintro e w7 ⟨rfl, h7⟩
  have H7 := Lib.hid h7
  clear h7
  refine ⟨_, rfl, ?_⟩
  refine hK.out _ _ ?_
  clear hK K
  refine norm_ (a' := ?_) ?_ ?_
  rotate_left
  · show Act.put _ (some 27) _ = _
    simp only [Act.put, List.setIfInBounds_toArray, List.set_cons_zero, List.set_cons_succ, i64_w, i32_w]
    rfl
  refine done_ (by kernel_rfl) ?_
  go_wp2
  go_end0
  refine ⟨rfl, ?_⟩
  rw [HU.out]
  exact OPost.from_ B6.out H7.out
theorem down_calls (h : MemAt w F g m) (n : Int) (r : ReqT) (v : Value) (hv : SegG w OpT.cells v r.ops) (he : (encR r).1.size ≤ 60000) (ho : m.order.length ≤ 1000) (hE : Num63 m.epoch) (hn : Num63 n) (hl : m.out.length ≤ 1000000) :
    Calls Tryz.prog 51 #[.pointer (some ⟨g, 0, none⟩), .int .i64 n, r.v v] w fun e w' => e = .returned (.tuple #[]) ∧ MPost w F g (m.dnd n r) w' := by
  obtain ⟨tb, vo, vw, vl, vt, rw_, rt, h, rfl⟩ := h
  exact (down_P h n r v hv he ho hE hn hl).mono fun e w' h => ⟨h.1, h.2.mpost⟩
end
end Go.Proofs.YtdfdlajfjcakaaaGreat
