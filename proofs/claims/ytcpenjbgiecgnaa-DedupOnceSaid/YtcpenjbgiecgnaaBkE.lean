import Derived.Test.YtcpenjbgiecgnaaBkD
namespace Go.Proofs.Ytcpenjbgiecgnaa
open Go Go.RowKit
open Go.Maps (Keyed)
open Go.Proofs.YtcpenjbgiecgnaaW.PrintWords Go.Proofs.YtcpenjbgiecgnaaW.PrintLast Go.Proofs.YtcpenjbgiecgnaaW.PrintMore
set_option linter.unusedVariables false
set_option linter.unusedSimpArgs false
set_option maxRecDepth 100000
attribute [local go_sem] max2_int max_two

/-! Note. -/
theorem IMap.look_run {w : World} {kt b n : Nat} {m : Int → Option Value} (h : IMap w kt b n id m) (t e : TypeId) (K : Keyed Try.prog kt) (ht : Try.prog.underlying t = some (.map kt e)) {z : Value} (hz : ∀ w, (zeroValue e).run Try.prog w = .ok z w) (k : Int) (hk : (Lit.int .i64 k).wf = true) (hkey : keyOf Try.prog kt (.int .i64 k) = some (.int .i64 k)) :
    (Instr.lookup t (.map (some b)) (.int .i64 k) false).run Try.prog w = .ok ((m k).getD z) w := by
  obtain ⟨D, ho, hi, hD⟩ := h
  obtain ⟨v, ps, hrun, hv⟩ := ho.lookup K ht (hz w) (zd := .held z) (zp := []) rfl hkey
  have := IMap.at_ hD hk hv
  rw [hrun, this]
  cases m k <;> rfl
theorem IMap.store_run {w : World} {kt b n : Nat} {m : Int → Option Value} (h : IMap w kt b n id m) (t e : TypeId) (K : Keyed Try.prog kt) (ht : Try.prog.underlying t = some (.map kt e)) (hn : n < maxLen) (k : Int) (y : Value) (hk : (Lit.int .i64 k).wf = true) (hkey : keyOf Try.prog kt (.int .i64 k) = some (.int .i64 k)) :
    ∃ w', (Instr.mapUpdate t (.map (some b)) (.int .i64 k) y).run Try.prog w = .ok () w' ∧ IMap w' kt b (n + 1) id (upd m k y) ∧ Kept w w' (fun j => j = b) := by
  obtain ⟨D, ho, hi, hD⟩ := h
  obtain ⟨w', hrun, r1, r2⟩ := ho.update K ht hn hkey (d := .held y) (ps := []) rfl
  refine ⟨w', hrun, ⟨_, r1, ?_, fun j hj => ?_⟩, ⟨r2.os, r2.tape, r2.output, r2.size, fun k hk hn => r2.block k hk (fun e => hn (by injection e))⟩⟩
  · obtain ⟨es, rfl⟩ := hi
    exact ⟨_, rfl⟩
  · unfold upd
    by_cases hjk : j = k
    · subst hjk
      rw [if_pos rfl]
      refine ⟨Maps.has_put_same hi (by trivial) _, fun x hx z => ?_⟩
      injection hx with hx
      subst hx
      exact Maps.atKey_put_same hi (by trivial) _ z
    · rw [if_neg hjk]
      have hne : (Lit.int .i64 j : Lit) ≠ .int .i64 k := fun e => hjk (by injection e)
      rw [Maps.has_put_other hne]
      exact ⟨(hD j hj).1, fun x hx z => by rw [Maps.atKey_put_other hne]; exact (hD j hj).2 x hx z⟩
theorem IMap.notBlk {w : World} {kt b n t : Nat} {m : Int → Option Value} {cs : Array Value} (h : IMap w kt b n id m) (hb : Blk w b t cs) : False := by
  obtain ⟨D, ⟨es, clock, hh, _⟩, _⟩ := h
  have hb' : w.heap[b]? = some (.cells cs t (0, 0)) := hb
  rw [hh] at hb'
  cases hb'
theorem Blk.type_eq {w : World} {k t t' : Nat} {cs cs' : Array Value} (h : Blk w k t cs) (h' : Blk w k t' cs') : t = t' := by
  have h1 : w.heap[k]? = some (.cells cs t (0, 0)) := h
  have h2 : w.heap[k]? = some (.cells cs' t' (0, 0)) := h'
  rw [h1] at h2
  injection h2 with h2
  injection h2
theorem One.typed {w : World} {v : Value} {n : Int} (h : One w v n) {k : Nat} (hk : v.ownBlock = some k) : ∃ cs, Blk w k 59 cs := by
  obtain ⟨A, c, h⟩ := h
  exact (QRow.of_row h).typed hk
def noteE (l : List Int) (n : Int) : Int := if n ∈ l then 6 else askE l n
def cutN {α : Type} (d : Nat) (l : List α) : List α := l.drop (l.length - d)
def noteS (d : Nat) (S : Int → List Int) (c n : Int) : Int → List Int := if n ∈ S c ∨ n ≤ lastN (S c) then S else fun j => if j = c then cutN d (S c ++ [n]) else S j
structure NS (w0 w : World) (F : Nat → Prop) (g d nb mb : Nat) (m : Int → Option Value) (L : Int → List RX) (B : Nat) (c n : Int) (rv : Value) : Prop where
  b : BkI w F g d nb mb m L
  x : Blk w B 38 #[.int .i64 c, .int .i64 n, rv, .int .i64 0, .int .i64 0]
  o : One w rv n
  h : Below w0.heap.size w0 w
section
variable {w0 w w' : World} {F : Nat → Prop} {g d nb mb : Nat} {m : Int → Option Value} {L : Int → List RX} {B : Nat} {c n : Int} {rv : Value}
theorem NS.below (h : NS w0 w F g d nb mb m L B c n rv) (hb : Below w.heap.size w w') : NS w0 w' F g d nb mb m L B c n rv :=
  ⟨h.b.below hb, h.x.kept (Kept.of_below hb fun _ => False) (fun h => h), h.o.kept (Kept.of_below hb fun _ => False) (fun _ _ h => h), h.h.trans (hb.mono h.h.size)⟩
theorem NS.drew (h : NS w0 w F g d nb mb m L B c n rv) : NS w0 w.drew F g d nb mb m L B c n rv := h.below (Kept.below ((Kept.refl w fun _ => False).drew) (Nat.le_refl _) (fun _ _ h => h))
theorem NS.alloc (h : NS w0 w F g d nb mb m L B c n rv) (o : Obj) : NS w0 (w.alloc o) F g d nb mb m L B c n rv := h.below ((Below.refl _ _).alloc (Nat.le_refl _) o)
theorem NS.look (h : NS w0 w F g d nb mb m L B c n rv) {v : Value} (hv : qv m c = v) (hK : (Lit.int .i64 c).wf = true ∧ keyOf Try.prog 3 (.int .i64 c) = some (.int .i64 c)) : (Instr.lookup 51 (.map (some mb)) (.int .i64 c) false).run Try.prog w = .ok v w := by
  rw [← hv]
  exact h.b.im.look_run 51 54 (Go.Maps.int_keyed Try.underlying3) Try.underlying51 zero_reps c hK.1 hK.2
end
theorem info_reply : (Try.prog.info? 38).map (fun i => (i.zero, i.size, i.bytes)) = some (some (.agg #[.int .i64 0, .int .i64 0, .slice none 0 0, .int .i64 0, .int .i64 0]), 5, 56) := by kernel_rfl
theorem BkI.noted {w6 w8 : World} {F : Nat → Prop} {g d nb mb b0 i : Nat} {m : Int → Option Value} {L : Int → List RX} {c : Int} {V : Value} {x0 : RX} (h : BkI w6 F g d nb mb m L) (hF : ∀ k, F k → k < b0) (hb0 : b0 ≤ w6.heap.size)
    (hK : Kept w6 w8 (fun k => some k = (qv m c).ownBlock ∨ k = mb)) (him : IMap w8 3 mb (nb + 1) id (upd m c V)) (hrow : QRow w8 38 5 (enR c) V ((L c ++ [x0]).drop i))
    (hx : One w6 x0.v x0.2) (hxo : ∀ k, x0.v.ownBlock = some k → b0 ≤ k) (hV : (∀ k, V.ownBlock = some k → (qv m c).ownBlock = some k) ∨ ∀ k, V.ownBlock = some k → b0 ≤ k) (hi9 : i < (L c ++ [x0]).length) :
    BkI w8 (fun k => F k ∨ (b0 ≤ k ∧ k < w8.heap.size)) g d (nb + 1) mb (upd m c V) (fun j => if j = c then (L c ++ [x0]).drop i else L j) := by
  have hqt : ∀ k, (qv m c).ownBlock = some k → ∃ cs, Blk w6 k 38 cs := fun k e => (h.row c).typed e
  have hok : ∀ (x : RX), One w6 x.v x.2 → One w8 x.v x.2 := fun x ho => ho.kept hK (fun k e => by
    obtain ⟨cs, hb⟩ := ho.typed e
    rintro (he | rfl)
    · obtain ⟨cs', hb'⟩ := hqt k he.symm
      exact absurd (hb.type_eq hb') (by decide)
    · exact h.im.notBlk hb)
  have hrl : ∀ k, V.ownBlock = some k → k < w8.heap.size := fun k e => hrow.lt e
  have hol : ∀ (x : RX), One w8 x.v x.2 → ∀ k, x.v.ownBlock = some k → k < w8.heap.size := fun x ho k e => by obtain ⟨cs, hb⟩ := ho.typed e; exact hb.lt
  have hmem : ∀ x, x ∈ (L c ++ [x0]).drop i → x ∈ L c ∨ x = x0 := fun x hx => by
    have := List.mem_of_mem_drop hx
    rcases List.mem_append.1 this with h | h
    · exact .inl h
    · exact .inr (List.mem_singleton.1 h)
  have hgk : ¬ (some g = (qv m c).ownBlock ∨ g = mb) := by
    rintro (he | rfl)
    · obtain ⟨cs', hb'⟩ := hqt g he.symm
      exact absurd (hb'.type_eq h.blk) (by decide)
    · exact h.im.notBlk h.blk
  refine ⟨h.blk.kept hK hgk, him, fun j => ?_, fun j x hj => ?_, .inl h.fg, .inl h.fm, fun j k e => ?_, fun j x hj k e => ?_, fun j j' k e e' => ?_, fun k hk => ?_, fun j => ?_⟩
  · rw [qv_upd]
    by_cases hjc : j = c
    · subst hjc
      rw [if_pos rfl, if_pos rfl]
      exact hrow
    · rw [if_neg hjc, if_neg hjc]
      refine (h.row j).kept hK (fun k e => ?_)
      rintro (he | rfl)
      · exact hjc (h.ap j c k e he.symm)
      · obtain ⟨cs, hb⟩ := (h.row j).typed e
        exact h.im.notBlk hb
  · by_cases hjc : j = c
    · rw [if_pos hjc] at hj
      rcases hmem x hj with hx' | rfl
      · exact hok x (h.one c x hx')
      · exact hok _ hx
    · rw [if_neg hjc] at hj
      exact hok x (h.one j x hj)
  · rw [qv_upd] at e
    by_cases hjc : j = c
    · rw [if_pos hjc] at e
      rcases hV with hV | hV
      · exact .inl (h.fr c k (hV k e))
      · exact .inr ⟨hV k e, hrl k e⟩
    · rw [if_neg hjc] at e
      exact .inl (h.fr j k e)
  · by_cases hjc : j = c
    · rw [if_pos hjc] at hj
      rcases hmem x hj with hx' | rfl
      · exact .inl (h.fo c x hx' k e)
      · exact .inr ⟨hxo k e, hol _ (hok _ hx) k e⟩
    · rw [if_neg hjc] at hj
      exact .inl (h.fo j x hj k e)
  · rw [qv_upd] at e e'
    have key : ∀ j', j' ≠ c → V.ownBlock = some k → (qv m j').ownBlock = some k → False := fun j' hj' e e' => by
      rcases hV with hV | hV
      · exact hj' (h.ap j' c k e' (hV k e))
      · have := hV k e
        have := hF k (h.fr j' k e')
        omega
    by_cases hjc : j = c
    · by_cases hjc' : j' = c
      · rw [hjc, hjc']
      · rw [if_pos hjc] at e
        rw [if_neg hjc'] at e'
        exact (key j' hjc' e e').elim
    · rw [if_neg hjc] at e
      by_cases hjc' : j' = c
      · rw [if_pos hjc'] at e'
        exact (key j hjc e' e).elim
      · rw [if_neg hjc'] at e'
        exact h.ap j j' k e e'
  · rcases hk with hk | hk
    · exact Nat.lt_of_lt_of_le (h.lt k hk) hK.size
    · exact hk.2
  · unfold upd
    by_cases hjc : j = c
    · rw [if_pos hjc, if_pos hjc]
      refine ⟨fun _ e => ?_, fun _ => rfl⟩
      have := congrArg List.length e
      rw [List.length_drop] at this
      simp only [List.length_nil] at this
      omega
    · rw [if_neg hjc, if_neg hjc]
      exact h.sup j
structure QN (w : World) (g d nb mb : Nat) (m : Int → Option Value) (B : Nat) (c n : Int) (rv : Value) : Prop where
  blk : Blk w g 53 #[.int .i64 d, .map (some mb)]
  im : IMap w 3 mb nb id m
  x : Blk w B 38 #[.int .i64 c, .int .i64 n, rv, .int .i64 0, .int .i64 0]
theorem QN.drew {w : World} {g d nb mb : Nat} {m : Int → Option Value} {B : Nat} {c n : Int} {rv : Value} (h : QN w g d nb mb m B c n rv) : QN w.drew g d nb mb m B c n rv :=
  have hk : Kept w w.drew fun _ => False := (Kept.refl w fun _ => False).drew
  ⟨h.blk.kept hk (fun h => h), h.im.kept hk (fun h => h), h.x.kept hk (fun h => h)⟩
theorem news5 {w : World} {g t : Nat} {c n : Int} {g5 c5 : Nat} (h : Blk w g t #[.int .i64 c, .int .i64 n, .slice (some ⟨g5, 0, none⟩) 1 c5, .int .i64 0, .int .i64 0]) : ∀ j u, ([((g5, c5), n)].flatMap (enR c))[j]? = some u → w.cell? ((⟨g, 0, none⟩ : Addr).add j) = some u := by
  intro j u hu
  rw [addr0]
  have := h.cell j
  rw [this, ← hu]
  show _ = ((enR c ((g5, c5), n)) ++ [])[j]?
  rw [List.append_nil]
  show _ = ([_, _, _, _, _] : List Value)[j]?
  rw [← List.getElem?_toArray]
  rfl
set_option maxRecDepth 100000 in
set_option maxHeartbeats 16000000 in
theorem bk_note (F : Nat → Prop) (g d nb : Nat) (S : Int → List Int) (c n : Int) (rv : Value) (w : World) (h : BkAt w F g d nb S) (hr : One w rv n) (hc : 0 ≤ c) (hc2 : c ≤ 1000) (hn : 1 ≤ n) (hn2 : n ≤ 1048576) (hd1 : 1 ≤ d) (hd : d ≤ 64) (hS : (S c).length ≤ 64) (hnb : nb < 1000000) :
    Calls Try.prog 10 #[.pointer (some ⟨g, 0, none⟩), .agg #[.int .i64 c, .int .i64 n, rv, .int .i64 0, .int .i64 0]] w fun e w' => e = .returned (.int .i64 (noteE (S c) n)) ∧ ∃ F' nb', BkAt w' F' g d nb' (noteS d S c n) ∧ Kept w w' F ∧ (∀ k, F' k → F k ∨ w.heap.size ≤ k) ∧ nb' ≤ nb + 1 := by
  obtain ⟨mb, m, L, h, hl⟩ := h
  obtain ⟨gr, cr, rfl, hgr, hcr⟩ := hr.form
  have P1 := Lib.hid (show NS w (w.alloc (.cells #[.int .i64 c, .int .i64 n, .slice (some ⟨gr, 0, none⟩) 1 cr, .int .i64 0, .int .i64 0] 38)) F g d nb mb m L w.heap.size c n (.slice (some ⟨gr, 0, none⟩) 1 cr) from
    ⟨h.below ((Below.refl _ _).alloc (Nat.le_refl _) _), Blk.new .., hr.kept ((Kept.refl w fun _ => False).alloc _) (fun _ _ h => h), (Below.refl _ _).alloc (Nat.le_refl _) _⟩)
  have hw1 : (w.alloc (.cells #[.int .i64 c, .int .i64 n, .slice (some ⟨gr, 0, none⟩) 1 cr, .int .i64 0, .int .i64 0] 38)).heap.size = w.heap.size + 1 := World.size_alloc ..
  have HL := Lib.hid hl
  have HK := Lib.hid (keyI (n := c) ⟨hc, by omega⟩)
  have hF : Hid (∀ k, F k → k < w.heap.size) := Lib.hid h.lt
  have HLEN := Lib.hid (show (L c).length = (S c).length by rw [← hl, List.length_map])
  clear h hl hr
  go_enter Try.func10, Try.ntmps10
  generalize hwa : w.alloc (.cells #[.int .i64 c, .int .i64 n, .slice (some ⟨gr, 0, none⟩) 1 cr, .int .i64 0, .int .i64 0] 38) = wa at *
  have y0 := P1.out.x.cell 0
  have y1 := P1.out.x.cell 1
  have y2 := P1.out.x.cell 2
  have y3 := P1.out.x.cell 3
  have y4 := P1.out.x.cell 4
  have hcall := bk_enc c n _ wa P1.out.o hc hc2 hn hn2
  go_wp2_with (fail)
  refine hcall.mono ?_
  rintro e w2 ⟨r1, r2, rfl, h80, hb2⟩
  have P2 := Lib.hid (P1.out.below hb2)
  have hs2 := hb2.size
  clear hcall hb2 P1 y0 y1 y2 y3 y4 hwa
  have y0 := P2.out.x.cell 0
  have y1 := P2.out.x.cell 1
  have hcall := bk_ask F g d nb S c n w2 ⟨mb, m, L, P2.out.b, HL.out⟩ hc hc2 hn hn2
  go_wp2_with (fail)
  refine hcall.mono ?_
  rintro e w3 ⟨hb3, hq⟩
  have P3 := Lib.hid (P2.out.below hb3)
  have hs3 := hb3.size
  clear hcall hb3 P2 y0 y1
  rcases hq with ⟨hin, v3, rfl, ho3, hf3⟩ | ⟨hni, rfl⟩
  · obtain ⟨g3, c3, rfl, _, _⟩ := One.form ho3
    clear ho3 hf3
    unfold askHit
    have he : noteE (S c) n = 6 := by unfold noteE; rw [if_pos hin]
    have hs' : noteS d S c n = S := by unfold noteS; rw [if_pos (.inl hin)]
    have HE := Lib.hid he
    have HS' := Lib.hid hs'
    clear he hs'
    have P4 := Lib.hid (P3.out.alloc (.cells #[.int .i64 c, .int .i64 n, .slice (some ⟨g3, 0, none⟩) 1 c3, .int .i64 0, .int .i64 0] 38))
    go_wp2
    go_ret
    exact ⟨ret_int HE.out.symm, F, nb, ⟨mb, m, L, P4.out.b, fun j => by rw [HS'.out]; exact HL.out j⟩, Kept.of_below P4.out.h _, fun k h => .inl h, by omega⟩
  · have P4 := Lib.hid (P3.out.alloc (.cells #[.int .i64 0, .int .i64 0, .slice none 0 0, .int .i64 0, .int .i64 0] 38))
    have HNI := Lib.hid hni
    unfold askMiss askE
    by_cases hnl : n ≤ lastN (S c)
    · rw [if_pos hnl]
      have he : noteE (S c) n = 230 := by unfold noteE askE; rw [if_neg hni, if_pos hnl]
      have hs' : noteS d S c n = S := by unfold noteS; rw [if_pos (.inr hnl)]
      have HE := Lib.hid he
      have HS' := Lib.hid hs'
      clear hni he hs'
      go_wp2
      go_ret
      exact ⟨ret_int HE.out.symm, F, nb, ⟨mb, m, L, P4.out.b, fun j => by rw [HS'.out]; exact HL.out j⟩, Kept.of_below P4.out.h _, fun k h => .inl h, by omega⟩
    · rw [if_neg hnl]
      have he : noteE (S c) n = 0 := by unfold noteE askE; rw [if_neg hni, if_neg hnl]
      have hs' : noteS d S c n = fun j => if j = c then cutN d (S c ++ [n]) else S j := by unfold noteS; rw [if_neg (fun h => h.elim hni hnl)]
      have HE := Lib.hid he
      have HS' := Lib.hid hs'
      clear hni hnl he hs'
      have hw4 : (w3.alloc (.cells #[.int .i64 0, .int .i64 0, .slice none 0 0, .int .i64 0, .int .i64 0] 38)).heap.size = w3.heap.size + 1 := World.size_alloc ..
      clear P3
      go_wp2_with (fail)
      generalize w3.alloc (.cells #[.int .i64 0, .int .i64 0, .slice none 0 0, .int .i64 0, .int .i64 0] 38) = w4 at *
      obtain ⟨A, cp, hv, hle, hmx⟩ := (P4.out.b.row c).shape
      have HV := Lib.hid hv
      have hbd := Lib.hid (show ((L c).length + 1) * 56 ≤ 140737488355328 by have := HLEN.out; omega)
      refine start_ (n := 12) (S := fun w' => w'.cell? ⟨g, 1, none⟩ = some (.map (some mb)) ∧ w'.cell? ⟨w.heap.size, 0, none⟩ = some (.int .i64 c) ∧ w'.cell? ⟨w.heap.size, 1, none⟩ = some (.int .i64 n) ∧ w'.cell? ⟨w.heap.size, 2, none⟩ = some (.slice (some ⟨gr, 0, none⟩) 1 cr) ∧ w'.cell? ⟨w.heap.size, 3, none⟩ = some (.int .i64 0) ∧ w'.cell? ⟨w.heap.size, 4, none⟩ = some (.int .i64 0) ∧ (Instr.lookup 51 (.map (some mb)) (.int .i64 c) false).run Try.prog w' = .ok (.slice A (L c).length cp) w') (ds := [10]) #[false, false, false, false, false, false, false, false, false, false, false, false] (by kernel_rfl) rfl rfl ⟨P4.out.drew.b.blk.cell 1, P4.out.drew.x.cell 0, P4.out.drew.x.cell 1, P4.out.drew.x.cell 2, P4.out.drew.x.cell 3, P4.out.drew.x.cell 4, P4.out.drew.look HV.out HK.out⟩ (fun hHeld => ?_)
      refine pure_ (i := 0) (N := some 34) (v := ?_) (a' := ?_) #[true, false, false, false, false, false, false, false, false, false, false, false] rfl rfl (by kernel_rfl) (fun _ _ _ h => h) (Or.inl ⟨by rfl, ?_⟩) ?_ ?_
      rotate_left
      · intro w'
        go_simp
        with_reducible rfl
      rotate_left
      · simp only [Act.put, List.setIfInBounds_toArray, List.set_cons_zero, List.set_cons_succ, i64_w, i32_w]
        rfl
      refine pure_ (i := 1) (N := some 35) (v := ?_) (a' := ?_) #[true, true, false, false, false, false, false, false, false, false, false, false] rfl rfl (by kernel_rfl) (fun _ _ _ h => h) (Or.inl ⟨by rfl, ?_⟩) ?_ ?_
      rotate_left
      · intro w'
        go_simp
        with_reducible rfl
      rotate_left
      · simp only [Act.put, List.setIfInBounds_toArray, List.set_cons_zero, List.set_cons_succ, i64_w, i32_w]
        rfl
      refine pure_ (i := 2) (N := some 36) (v := ?_) (a' := ?_) #[true, true, true, false, false, false, false, false, false, false, false, false] rfl rfl (by kernel_rfl) (fun _ _ _ h => h) (Or.inl ⟨by rfl, ?_⟩) ?_ ?_
      rotate_left
      · intro w'
        go_simp
        with_reducible rfl
      rotate_left
      · simp only [Act.put, List.setIfInBounds_toArray, List.set_cons_zero, List.set_cons_succ, i64_w, i32_w]
        rfl
      refine pure_ (i := 4) (N := some 38) (v := ?_) (a' := ?_) #[true, true, true, false, true, false, false, false, false, false, false, false] rfl rfl (by kernel_rfl) (fun _ _ _ h => h) (Or.inl ⟨by rfl, ?_⟩) ?_ ?_
      rotate_left
      · intro w'
        go_simp
        with_reducible rfl
      rotate_left
      · simp only [Act.put, List.setIfInBounds_toArray, List.set_cons_zero, List.set_cons_succ, i64_w, i32_w]
        rfl
      refine take_ (i := 3) (N := some 37) (v := ?_) (a' := ?_) #[true, true, true, true, true, false, false, false, false, false, false, false] rfl rfl (by kernel_rfl) (fun _ _ _ h => h) (Or.inl ⟨by rfl, ?_⟩) hHeld ?_ ?_
      rotate_left
      · rintro w' ⟨s0, s1, s2, s3, s4, s5, s6⟩
        go_simp
        with_reducible rfl
      rotate_left
      · simp only [Act.put, List.setIfInBounds_toArray, List.set_cons_zero, List.set_cons_succ, i64_w, i32_w]
        rfl
      refine take_ (i := 5) (N := some 39) (v := ?_) (a' := ?_) #[true, true, true, true, true, true, false, false, false, false, false, false] rfl rfl (by kernel_rfl) (fun _ _ _ h => h) (Or.inl ⟨by rfl, ?_⟩) hHeld ?_ ?_
      rotate_left
      · rintro w' ⟨s0, s1, s2, s3, s4, s5, s6⟩
        go_simp
        with_reducible rfl
      rotate_left
      · simp only [Act.put, List.setIfInBounds_toArray, List.set_cons_zero, List.set_cons_succ, i64_w, i32_w]
        rfl
      refine take_ (i := 6) (N := some 40) (v := ?_) (a' := ?_) #[true, true, true, true, true, true, true, false, false, false, false, false] rfl rfl (by kernel_rfl) (fun _ _ _ h => h) (Or.inl ⟨by rfl, ?_⟩) hHeld ?_ ?_
      rotate_left
      · rintro w' ⟨s0, s1, s2, s3, s4, s5, s6⟩
        go_simp
        with_reducible rfl
      rotate_left
      · simp only [Act.put, List.setIfInBounds_toArray, List.set_cons_zero, List.set_cons_succ, i64_w, i32_w]
        rfl
      refine take_ (i := 7) (N := some 41) (v := ?_) (a' := ?_) #[true, true, true, true, true, true, true, true, false, false, false, false] rfl rfl (by kernel_rfl) (fun _ _ _ h => h) (Or.inl ⟨by rfl, ?_⟩) hHeld ?_ ?_
      rotate_left
      · rintro w' ⟨s0, s1, s2, s3, s4, s5, s6⟩
        go_simp
        with_reducible rfl
      rotate_left
      · simp only [Act.put, List.setIfInBounds_toArray, List.set_cons_zero, List.set_cons_succ, i64_w, i32_w]
        rfl
      refine one_ (i := 8) (N := some 42) #[true, true, true, true, true, true, true, true, true, false, false, false] rfl rfl (by kernel_rfl) (by decide) (fun K hK => ?_)
      refine goes_ Try.func17 (by kernel_rfl) rfl #[.agg #[.int .i64 c, .int .i64 n, .slice (some ⟨gr, 0, none⟩) 1 cr, .int .i64 0, .int .i64 0]] (by rfl) rfl rfl (by simp only [List.map_toArray, List.map_cons, List.map_nil]; rfl) ?_
      with_reducible refine (copied_calls c n _ _ P4.out.drew.o).mono ?_
      rintro e w5 ⟨v5, rfl, h5, hb5, hf5⟩
      obtain ⟨g5, c5, rfl, hg5, hc5⟩ := One.form h5
      have P5 := Lib.hid (P4.out.drew.below hb5)
      have O5 := Lib.hid h5
      have F5 := Lib.hid hf5
      clear h5 hb5 hf5
      refine ⟨_, rfl, ?_⟩
      refine hK.out _ _ ⟨P5.out.b.blk.cell 1, P5.out.x.cell 0, P5.out.x.cell 1, P5.out.x.cell 2, P5.out.x.cell 3, P5.out.x.cell 4, P5.out.look HV.out HK.out⟩ (fun hHeld => ?_)
      clear hK K
      refine norm_ (a' := ?_) ?_ ?_
      rotate_left
      · show Act.put _ (some 42) _ = _
        simp only [Act.put, List.setIfInBounds_toArray, List.set_cons_zero, List.set_cons_succ, i64_w, i32_w]
        rfl
      refine one_ (i := 9) (N := some 43) #[true, true, true, true, true, true, true, true, true, true, false, false] rfl rfl (by kernel_rfl) (by decide) (fun K hK => ?_)
      refine value_ (w1 := ?_) (v := ?_) (by rfl) rfl ?_ ?_
      rotate_left 2
      · go_simp
        constructor
        · rfl
        · rfl
      have P6 := Lib.hid (P5.out.alloc (.cells #[.int .i64 c, .int .i64 n, .slice (some ⟨g5, 0, none⟩) 1 c5, .int .i64 0, .int .i64 0] 38))
      have O6 := Lib.hid (O5.out.kept ((Kept.refl w5 fun _ => False).alloc (.cells #[.int .i64 c, .int .i64 n, .slice (some ⟨g5, 0, none⟩) 1 c5, .int .i64 0, .int .i64 0] 38)) (fun _ _ h => h))
      have X6 := Lib.hid (Blk.new w5 38 #[.int .i64 c, .int .i64 n, .slice (some ⟨g5, 0, none⟩) 1 c5, .int .i64 0, .int .i64 0])
      refine hK.out _ _ ⟨P6.out.b.blk.cell 1, P6.out.x.cell 0, P6.out.x.cell 1, P6.out.x.cell 2, P6.out.x.cell 3, P6.out.x.cell 4, P6.out.look HV.out HK.out⟩ (fun hHeld => ?_)
      clear hK K
      refine norm_ (a' := ?_) ?_ ?_
      rotate_left
      · show Act.put _ (some 43) _ = _
        simp only [Act.put, List.setIfInBounds_toArray, List.set_cons_zero, List.set_cons_succ, i64_w, i32_w]
        rfl
      refine last_ (i := 10) (N := some 44) #[true, true, true, true, true, true, true, true, true, true, true, false] rfl rfl (by kernel_rfl) (by decide) (fun K hK => ?_)
      refine QRow.append_step (enc := enR c) (by rfl) (.tmp 40) (.tmp 43) 54 38 (.agg #[.int .i64 0, .int .i64 0, .slice none 0 0, .int .i64 0, .int .i64 0]) 5 56 (by rfl) Try.underlying54 info_reply rfl (by decide) (by decide) (.slice A (L c).length cp) (L c) [((g5, c5), n)] (by rfl) ⟨w5.heap.size, 0, none⟩ 1 1 (by rfl) (HV.out ▸ P6.out.b.row c) rfl (fun _ => rfl) (news5 X6.out) (one_reply c) hbd.out ?_
      intro v7 w7 hR hG hO
      have R7 := Lib.hid hR
      have G7 := Lib.hid hG
      have V7 := Lib.hid hO
      clear hR hG hO
      refine hK.out _ _ ?_
      clear hK K
      refine norm_ (a' := ?_) ?_ ?_
      rotate_left
      · show Act.put _ (some 44) _ = _
        simp only [Act.put, List.setIfInBounds_toArray, List.set_cons_zero, List.set_cons_succ, i64_w, i32_w]
        rfl
      refine pure_ (i := 11) (N := some 10) (v := ?_) (a' := ?_) #[true, true, true, true, true, true, true, true, true, true, true, true] rfl rfl (by kernel_rfl) (fun _ _ _ h => h) (Or.inl ⟨by rfl, ?_⟩) ?_ ?_
      rotate_left
      · intro w'
        go_simp
        with_reducible rfl
      rotate_left
      · simp only [Act.put, List.setIfInBounds_toArray, List.set_cons_zero, List.set_cons_succ, i64_w, i32_w]
        rfl
      refine done_ (by kernel_rfl) ?_
      have hw6 : (w5.alloc (.cells #[.int .i64 c, .int .i64 n, .slice (some ⟨g5, 0, none⟩) 1 c5, .int .i64 0, .int .i64 0] 38)).heap.size = w5.heap.size + 1 := World.size_alloc ..
      clear X6
      generalize w5.alloc (.cells #[.int .i64 c, .int .i64 n, .slice (some ⟨g5, 0, none⟩) 1 c5, .int .i64 0, .int .i64 0] 38) = w6 at *
      have K7 := Lib.hid (show Kept w6 w7 (fun k => some k = (qv m c).ownBlock) from by
        have := G7.out
        rw [HV.out]
        exact ⟨this.os, this.tape, this.output, this.size, fun k hk hn => this.block k hk hn⟩)
      have HQT := Lib.hid (fun k (e : (qv m c).ownBlock = some k) => (P6.out.b.row c).typed e)
      have Q7 := Lib.hid (show QN w7 g d nb mb m w.heap.size c n (.slice (some ⟨gr, 0, none⟩) 1 cr) from
        ⟨P6.out.b.blk.kept K7.out (fun e => by obtain ⟨cs, hb⟩ := HQT.out g e.symm; exact absurd (hb.type_eq P6.out.b.blk) (by decide)),
         P6.out.b.im.kept K7.out (fun e => by obtain ⟨cs, hb⟩ := HQT.out mb e.symm; exact P6.out.b.im.notBlk hb),
         P6.out.x.kept K7.out (fun e => by have := hF.out _ (P6.out.b.fr c _ e.symm); omega)⟩)
      obtain ⟨g7, o7, c7, rfl, hg7, hc7, hm7⟩ := R7.out.form (by rw [List.length_append]; exact Nat.succ_pos _)
      obtain ⟨n7, HN7⟩ : ∃ n7, Hid ((L c ++ [((g5, c5), n)]).length = n7) := ⟨_, Lib.hid rfl⟩
      have HN72 := Lib.hid (show n7 = (S c).length + 1 by rw [← HN7.out, List.length_append, HLEN.out]; rfl)
      have R7 := Lib.hid (show QRow w7 38 5 (enR c) (.slice (some ⟨g7, o7 * 5, none⟩) n7 c7) (L c ++ [((g5, c5), n)]) from HN7.out ▸ R7.out)
      rw [HN7.out] at hc7 V7 ⊢
      obtain ⟨i, HI⟩ : ∃ i, Hid (n7 - d = i) := ⟨_, Lib.hid rfl⟩
      have hi7 : i < n7 := by have := HI.out; have := HN72.out; omega
      have hi7' : i ≤ n7 := by omega
      have hic : i ≤ c7 := by omega
      have hmx7 : o7 + c7 ≤ 9223372036854775807 := hm7
      have gi : (0 : Int) ≤ (i : Int) := by omega
      have q3 : (i : Int) ≤ (n7 : Int) := by omega
      have q4 : (i : Int) ≤ (c7 : Int) := by omega
      obtain ⟨z, hz, hzi⟩ : ∃ z : Int, IntKind.i64.wrap ((n7 : Int) - (d : Int)) = z ∧ (if 0 < z then z else 0) = (i : Int) := by
        refine ⟨(n7 : Int) - d, by have := HN72.out; rw [IntKind.wrap_i64]; omega, ?_⟩
        have := HI.out
        split <;> omega
      obtain ⟨AD, hAD⟩ : ∃ AD : Addr, cutA (some ⟨g7, o7 * 5, none⟩) c7 i 5 = some AD := by unfold cutA; split <;> exact ⟨_, rfl⟩
      have SUF := Lib.hid (R7.out.suffix (fun _ => rfl) i (.inl (by rw [HN7.out]; exact hi7)))
      rw [hAD] at SUF
      have hA : (if c7 = i then some (⟨g7, o7 * 5, none⟩ : Addr) else some ⟨g7, o7 * 5 + i * 5, none⟩) = some AD := by
        rw [← hAD]
        unfold cutA
        split
        · rfl
        · simp [Addr.add]
      clear hAD
      go_wp2_with (fail)
      refine start_ (n := 17) (S := fun w' => w'.cell? ⟨g, 1, none⟩ = some (.map (some mb)) ∧ w'.cell? ⟨w.heap.size, 0, none⟩ = some (.int .i64 c) ∧ w'.cell? ⟨g, 0, none⟩ = some (.int .i64 d)) (ds := [16]) #[false, false, false, false, false, false, false, false, false, false, false, false, false, false, false, false, false] (by kernel_rfl) rfl rfl ⟨Q7.out.drew.blk.cell 1, Q7.out.drew.x.cell 0, Q7.out.drew.blk.cell 0⟩ (fun hHeld => ?_)
      refine pure_ (i := 0) (N := some 45) (v := ?_) (a' := ?_) #[true, false, false, false, false, false, false, false, false, false, false, false, false, false, false, false, false] rfl rfl (by kernel_rfl) (fun _ _ _ h => h) (Or.inl ⟨by rfl, ?_⟩) ?_ ?_
      rotate_left
      · intro w'
        go_simp
        with_reducible rfl
      rotate_left
      · simp only [Act.put, List.setIfInBounds_toArray, List.set_cons_zero, List.set_cons_succ, i64_w, i32_w]
        rfl
      refine pure_ (i := 1) (N := some 46) (v := ?_) (a' := ?_) #[true, true, false, false, false, false, false, false, false, false, false, false, false, false, false, false, false] rfl rfl (by kernel_rfl) (fun _ _ _ h => h) (Or.inl ⟨by rfl, ?_⟩) ?_ ?_
      rotate_left
      · intro w'
        go_simp
        with_reducible rfl
      rotate_left
      · simp only [Act.put, List.setIfInBounds_toArray, List.set_cons_zero, List.set_cons_succ, i64_w, i32_w]
        rfl
      refine pure_ (i := 2) (N := some 47) (v := ?_) (a' := ?_) #[true, true, true, false, false, false, false, false, false, false, false, false, false, false, false, false, false] rfl rfl (by kernel_rfl) (fun _ _ _ h => h) (Or.inl ⟨by rfl, ?_⟩) ?_ ?_
      rotate_left
      · intro w'
        go_simp
        with_reducible rfl
      rotate_left
      · simp only [Act.put, List.setIfInBounds_toArray, List.set_cons_zero, List.set_cons_succ, i64_w, i32_w]
        rfl
      refine pure_ (i := 4) (N := some 49) (v := ?_) (a' := ?_) #[true, true, true, false, true, false, false, false, false, false, false, false, false, false, false, false, false] rfl rfl (by kernel_rfl) (fun _ _ _ h => h) (Or.inl ⟨by rfl, ?_⟩) ?_ ?_
      rotate_left
      · intro w'
        go_simp
        with_reducible rfl
      rotate_left
      · simp only [Act.put, List.setIfInBounds_toArray, List.set_cons_zero, List.set_cons_succ, i64_w, i32_w]
        rfl
      refine pure_ (i := 6) (N := some 51) (v := ?_) (a' := ?_) #[true, true, true, false, true, false, true, false, false, false, false, false, false, false, false, false, false] rfl rfl (by kernel_rfl) (fun _ _ _ h => h) (Or.inl ⟨by rfl, ?_⟩) ?_ ?_
      rotate_left
      · intro w'
        go_simp
        with_reducible rfl
      rotate_left
      · simp only [Act.put, List.setIfInBounds_toArray, List.set_cons_zero, List.set_cons_succ, i64_w, i32_w]
        rfl
      refine pure_ (i := 7) (N := some 52) (v := ?_) (a' := ?_) #[true, true, true, false, true, false, true, true, false, false, false, false, false, false, false, false, false] rfl rfl (by kernel_rfl) (fun _ _ _ h => h) (Or.inl ⟨by rfl, ?_⟩) ?_ ?_
      rotate_left
      · intro w'
        go_simp
        with_reducible rfl
      rotate_left
      · simp only [Act.put, List.setIfInBounds_toArray, List.set_cons_zero, List.set_cons_succ, i64_w, i32_w]
        rfl
      refine pure_ (i := 8) (N := some 53) (v := ?_) (a' := ?_) #[true, true, true, false, true, false, true, true, true, false, false, false, false, false, false, false, false] rfl rfl (by kernel_rfl) (fun _ _ _ h => h) (Or.inl ⟨by rfl, ?_⟩) ?_ ?_
      rotate_left
      · intro w'
        go_simp
        with_reducible rfl
      rotate_left
      · simp only [Act.put, List.setIfInBounds_toArray, List.set_cons_zero, List.set_cons_succ, i64_w, i32_w]
        rfl
      refine pure_ (i := 9) (N := some 54) (v := ?_) (a' := ?_) #[true, true, true, false, true, false, true, true, true, true, false, false, false, false, false, false, false] rfl rfl (by kernel_rfl) (fun _ _ _ h => h) (Or.inl ⟨by rfl, ?_⟩) ?_ ?_
      rotate_left
      · intro w'
        go_simp
        with_reducible rfl
      rotate_left
      · simp only [Act.put, List.setIfInBounds_toArray, List.set_cons_zero, List.set_cons_succ, i64_w, i32_w]
        rfl
      refine pure_ (i := 10) (N := some 55) (v := ?_) (a' := ?_) #[true, true, true, false, true, false, true, true, true, true, true, false, false, false, false, false, false] rfl rfl (by kernel_rfl) (fun _ _ _ h => h) (Or.inl ⟨by rfl, ?_⟩) ?_ ?_
      rotate_left
      · intro w'
        go_simp
        with_reducible rfl
      rotate_left
      · simp only [Act.put, List.setIfInBounds_toArray, List.set_cons_zero, List.set_cons_succ, i64_w, i32_w]
        rfl
      refine pure_ (i := 11) (N := some 56) (v := ?_) (a' := ?_) #[true, true, true, false, true, false, true, true, true, true, true, true, false, false, false, false, false] rfl rfl (by kernel_rfl) (fun _ _ _ h => h) (Or.inl ⟨by rfl, ?_⟩) ?_ ?_
      rotate_left
      · intro w'
        go_simp
        with_reducible rfl
      rotate_left
      · simp only [Act.put, List.setIfInBounds_toArray, List.set_cons_zero, List.set_cons_succ, i64_w, i32_w]
        rfl
      refine take_ (i := 3) (N := some 48) (v := ?_) (a' := ?_) #[true, true, true, true, true, false, true, true, true, true, true, true, false, false, false, false, false] rfl rfl (by kernel_rfl) (fun _ _ _ h => h) (Or.inl ⟨by rfl, ?_⟩) hHeld ?_ ?_
      rotate_left
      · rintro w' ⟨s0, s1, s2⟩
        go_simp
        with_reducible rfl
      rotate_left
      · simp only [Act.put, List.setIfInBounds_toArray, List.set_cons_zero, List.set_cons_succ, i64_w, i32_w]
        rfl
      refine take_ (i := 5) (N := some 50) (v := ?_) (a' := ?_) #[true, true, true, true, true, true, true, true, true, true, true, true, false, false, false, false, false] rfl rfl (by kernel_rfl) (fun _ _ _ h => h) (Or.inl ⟨by rfl, ?_⟩) hHeld ?_ ?_
      rotate_left
      · rintro w' ⟨s0, s1, s2⟩
        go_simp
        with_reducible rfl
      rotate_left
      · simp only [Act.put, List.setIfInBounds_toArray, List.set_cons_zero, List.set_cons_succ, i64_w, i32_w]
        rfl
      refine take_ (i := 12) (N := some 57) (v := ?_) (a' := ?_) #[true, true, true, true, true, true, true, true, true, true, true, true, true, false, false, false, false] rfl rfl (by kernel_rfl) (fun _ _ _ h => h) (Or.inl ⟨by rfl, ?_⟩) hHeld ?_ ?_
      rotate_left
      · rintro w' ⟨s0, s1, s2⟩
        go_simp
        with_reducible rfl
      rotate_left
      · simp only [Act.put, List.setIfInBounds_toArray, List.set_cons_zero, List.set_cons_succ, i64_w, i32_w]
        rfl
      refine pure_ (i := 13) (N := some 58) (v := ?_) (a' := ?_) #[true, true, true, true, true, true, true, true, true, true, true, true, true, true, false, false, false] rfl rfl (by kernel_rfl) (fun _ _ _ h => h) (Or.inl ⟨by rfl, ?_⟩) ?_ ?_
      rotate_left
      · intro w'
        go_simp
        with_reducible rfl
      rotate_left
      · simp only [Act.put, List.setIfInBounds_toArray, List.set_cons_zero, List.set_cons_succ, i64_w, i32_w]
        rfl
      refine pure_ (i := 14) (N := some 59) (v := ?_) (a' := ?_) #[true, true, true, true, true, true, true, true, true, true, true, true, true, true, true, false, false] rfl rfl (by kernel_rfl) (fun _ _ _ h => h) (Or.inl ⟨by rfl, ?_⟩) ?_ ?_
      rotate_left
      · intro w'
        go_simp
        with_reducible rfl
      rotate_left
      · simp only [Act.put, List.setIfInBounds_toArray, List.set_cons_zero, List.set_cons_succ, i64_w, i32_w]
        rfl
      refine pure_ (i := 15) (N := some 60) (v := ?_) (a' := ?_) #[true, true, true, true, true, true, true, true, true, true, true, true, true, true, true, true, false] rfl rfl (by kernel_rfl) (fun _ _ _ h => h) (Or.inl ⟨by rfl, ?_⟩) ?_ ?_
      rotate_left
      · intro w'
        go_simp
        with_reducible rfl
      rotate_left
      · simp only [Act.put, List.setIfInBounds_toArray, List.set_cons_zero, List.set_cons_succ, i64_w, i32_w]
        rfl
      refine last_ (i := 16) (N := none) #[true, true, true, true, true, true, true, true, true, true, true, true, true, true, true, true, true] rfl rfl (by kernel_rfl) (by decide) (fun K hK => ?_)
      obtain ⟨w8, hrun, hm8, hk8⟩ := Q7.out.drew.im.store_run 51 54 (Go.Maps.int_keyed Try.underlying3) Try.underlying51 (by unfold maxLen; omega) c (.slice (some AD) (n7 - i) (c7 - i)) HK.out.1 HK.out.2
      refine skip_ (w1 := ?_) (by rfl) rfl ?_ ?_
      rotate_left
      · go_simp
        rfl
      refine hK.out _ _ ?_
      clear hK K
      refine done_ (by kernel_rfl) ?_
      go_wp2
      go_ret
      have hADb : AD.block = g7 := by split at hA <;> (injection hA with e; rw [← e])
      have hK : Kept w6 w8 (fun k => some k = (qv m c).ownBlock ∨ k = mb) := ((K7.out.mono (fun k _ h => .inl h)).drew).then_ hk8 (fun i h => .inl (.inr h))
      have hrow : QRow w8 38 5 (enR c) (.slice (some AD) (n7 - i) (c7 - i)) ((L c ++ [((g5, c5), n)]).drop i) := by
        refine SUF.out.kept (Kept.trans ((Kept.refl w7 fun j => j = mb).drew) hk8) (fun k e hk => ?_)
        subst hk
        obtain ⟨cs, hb⟩ := SUF.out.typed e
        exact Q7.out.im.notBlk hb
      have hb6 := P6.out.h.size
      have hb4 := P4.out.h.size
      refine ⟨ret_int HE.out.symm, _, nb + 1, ⟨mb, _, _, P6.out.b.noted (b0 := w.heap.size) hF.out hb6 hK hm8 hrow O6.out (fun k e => ?_) ?_ (by rw [HN7.out]; exact hi7), fun j => ?_⟩, ?_, fun k h => h.imp id (·.1), Nat.le_refl _⟩
      · have := F5.out k e
        have : w4.drew.heap.size = w4.heap.size := rfl
        omega
      · rcases V7.out with e7 | e7
        · left
          intro k e
          rw [HV.out, ← e7, ← e]
          show some g7 = some AD.block
          rw [hADb]
        · right
          intro k e
          have := e7 k (by rw [← e]; show some g7 = some AD.block; rw [hADb])
          omega
      · rw [HS'.out]
        by_cases hjc : j = c
        · simp only [hjc, if_pos]
          unfold cutN
          rw [← List.map_drop.symm, List.map_append, HL.out, List.length_append, ← HI.out, HN72.out]
          rfl
        · simp only [if_neg hjc]
          exact HL.out j
      · exact (Kept.of_below P6.out.h F).trans (hK.mono (fun k _ h => by
          rcases h with h | rfl
          · exact P6.out.b.fr c k h.symm
          · exact P6.out.b.fm))
end Go.Proofs.Ytcpenjbgiecgnaa
