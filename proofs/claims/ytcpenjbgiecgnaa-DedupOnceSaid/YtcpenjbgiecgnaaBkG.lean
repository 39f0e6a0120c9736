import Derived.Test.YtcpenjbgiecgnaaBkF
import Derived.Test.YtcpenjbgiecgnaaOArgs
import Derived.Test.YtcpenjbgiecgnaaORows
namespace Go.Proofs.Ytcpenjbgiecgnaa
open Go Go.RowKit
set_option linter.unusedVariables false
set_option linter.unusedSimpArgs false
set_option maxRecDepth 100000

/-! DedupKeeps: the plain law, and the call's own map of rows beside a book. -/
section plain
theorem rise_last {l : List Int} (h : l.Pairwise (· < ·)) {x : Int} (hx : x ∈ l) : x ≤ lastN l := by
  unfold lastN
  rcases List.eq_nil_or_concat l with rfl | ⟨a, b, rfl⟩
  · simp at hx
  · rw [List.concat_eq_append] at hx h ⊢
    simp only [List.getLast?_append, List.getLast?_singleton, Option.some_or, Option.getD_some]
    rcases List.mem_append.1 hx with h1 | h1
    · have := (List.pairwise_append.1 h).2.2 x h1 b (by simp)
      omega
    · rw [List.mem_singleton.1 h1]; omega
theorem lastN_cut {d : Nat} (hd : 1 ≤ d) (l : List Int) : lastN (cutN d l) = lastN l := by
  unfold lastN cutN
  rcases List.eq_nil_or_concat l with rfl | ⟨a, b, rfl⟩
  · simp
  · rw [List.concat_eq_append, List.drop_append_of_le_length (by simp; omega)]
    simp
theorem cut_cut {d : Nat} (hd : 1 ≤ d) (l : List Int) (n : Int) : cutN d (cutN d l ++ [n]) = cutN d (l ++ [n]) := by
  unfold cutN
  by_cases h : l.length ≤ d
  · rw [show l.length - d = 0 by omega, List.drop_zero]
  · rw [← List.drop_append_of_le_length (by omega), List.drop_drop]
    congr 1
    simp
    omega
theorem cut_len (d : Nat) (l : List Int) : (cutN d l).length ≤ d := by
  unfold cutN
  simp
  omega
/-- Which of a client's numbers are noted. -/
theorem cut_mem {d : Nat} {l : List Int} (h : l.Pairwise (· < ·)) (i : Nat) (hi : i < l.length) : l[i] ∈ cutN d l ↔ l.length - d ≤ i := by
  unfold cutN
  constructor
  · intro hm
    obtain ⟨j, hj, he⟩ := List.getElem_of_mem hm
    rw [List.getElem_drop] at he
    rcases Nat.lt_trichotomy (l.length - d + j) i with h1 | h1 | h1
    · have := List.pairwise_iff_getElem.1 h _ _ (by omega) hi h1
      omega
    · omega
    · have := List.pairwise_iff_getElem.1 h _ _ hi (by rw [List.length_drop] at hj; omega) h1
      omega
  · intro h1
    refine List.mem_iff_getElem.2 ⟨i - (l.length - d), by rw [List.length_drop]; omega, ?_⟩
    rw [List.getElem_drop]
    congr 1
    omega
structure KP (d k : Nat) (S Q : Int → List Int) : Prop where
  cut : ∀ c, S c = cutN d (Q c)
  rise : ∀ c, (Q c).Pairwise (· < ·)
  bound : ∀ c x, x ∈ Q c → 1 ≤ x ∧ x ≤ 3 * k
  len : ∀ c, (Q c).length ≤ k
theorem KP.last {d k : Nat} {S Q : Int → List Int} (h : KP d k S Q) (hd : 1 ≤ d) (c : Int) : 0 ≤ lastN (S c) ∧ lastN (S c) ≤ 3 * k := by
  rw [h.cut, lastN_cut hd]
  rcases List.eq_nil_or_concat (Q c) with he | ⟨a, b, he⟩
  · rw [he]
    show 0 ≤ (0 : Int) ∧ (0 : Int) ≤ _
    omega
  · have := h.bound c b (by rw [he]; simp)
    rw [he]
    unfold lastN
    simp
    omega
def addQ (Q : Int → List Int) (c n : Int) : Int → List Int := fun j => if j = c then Q c ++ [n] else Q j
theorem KP.nin {d k : Nat} {S Q : Int → List Int} (h : KP d k S Q) (hd : 1 ≤ d) (c n : Int) (hn : lastN (S c) < n) : n ∉ S c := by
  rw [h.cut, lastN_cut hd] at hn
  rw [h.cut]
  intro hm
  have := rise_last (h.rise c) (List.mem_of_mem_drop hm)
  omega
theorem KP.noteE {d k : Nat} {S Q : Int → List Int} (h : KP d k S Q) (hd : 1 ≤ d) (c n : Int) (hn : lastN (S c) < n) : noteE (S c) n = 0 := by
  unfold Go.Proofs.Ytcpenjbgiecgnaa.noteE askE
  rw [if_neg (h.nin hd c n hn), if_neg (by omega)]
theorem KP.step {d k : Nat} {S Q : Int → List Int} (h : KP d k S Q) (hd : 1 ≤ d) (c n : Int) (hn : lastN (S c) < n) (hn2 : n ≤ lastN (S c) + 3) : KP d (k + 1) (noteS d S c n) (addQ Q c n) := by
  have hl := h.last hd c
  have hns : noteS d S c n = fun j => if j = c then cutN d (S c ++ [n]) else S j := by
    unfold noteS
    rw [if_neg (fun e => e.elim (h.nin hd c n hn) (by omega))]
  rw [hns]
  refine ⟨fun j => ?_, fun j => ?_, fun j x hx => ?_, fun j => ?_⟩
  · unfold addQ
    by_cases hj : j = c
    · simp only [hj, if_pos]
      rw [h.cut c, cut_cut hd]
    · simp only [if_neg hj]
      exact h.cut j
  · unfold addQ
    by_cases hj : j = c
    · simp only [hj, if_pos]
      refine List.pairwise_append.2 ⟨h.rise c, by simp, fun a ha b hb => ?_⟩
      rw [List.mem_singleton.1 hb]
      have := rise_last (h.rise c) ha
      rw [h.cut, lastN_cut hd] at hn
      omega
    · simp only [if_neg hj]
      exact h.rise j
  · unfold addQ at hx
    by_cases hj : j = c
    · simp only [hj, if_pos] at hx
      rcases List.mem_append.1 hx with hx | hx
      · have := h.bound c x hx
        omega
      · rw [List.mem_singleton.1 hx]
        omega
    · simp only [if_neg hj] at hx
      have := h.bound j x hx
      omega
  · unfold addQ
    by_cases hj : j = c
    · simp only [hj, if_pos]
      have := h.len c
      simp
      omega
    · simp only [if_neg hj]
      have := h.len j
      omega
theorem KP.keeps {d k : Nat} {S Q : Int → List Int} (h : KP d k S Q) (hd : 1 ≤ d) (c : Int) (i : Nat) (hi : i < (Q c).length) : ((Q c)[i] ∈ S c ↔ (Q c).length - d ≤ i) ∧ askE (S c) (Q c)[i] = 230 := by
  refine ⟨by rw [h.cut]; exact cut_mem (h.rise c) i hi, ?_⟩
  unfold askE
  rw [if_pos (by rw [h.cut, lastN_cut hd]; exact rise_last (h.rise c) (List.getElem_mem hi))]
end plain
def icl (n : Int) : List Value := [.int .i64 n]
theorem one_icl : ∀ x, ∀ u ∈ icl x, u.oneCell' = true := by
  intro x u hu
  rw [List.mem_singleton.1 hu]
  rfl
/-- A map of rows of numbers. -/
structure SqI (w : World) (G : Nat → Prop) (mb nb : Nat) (m : Int → Option Value) (Q : Int → List Int) : Prop where
  im : IMap w 3 mb nb id m
  row : ∀ c, Row w 3 1 icl (qv m c) (Q c)
  gm : G mb
  fr : ∀ c k, (qv m c).ownBlock = some k → G k
  ap : ∀ c c' k, (qv m c).ownBlock = some k → (qv m c').ownBlock = some k → c = c'
  lt : ∀ k, G k → k < w.heap.size
section
variable {w w' : World} {G : Nat → Prop} {mb nb : Nat} {m : Int → Option Value} {Q : Int → List Int}
theorem SqI.kept {S : Nat → Prop} (h : SqI w G mb nb m Q) (hk : Kept w w' S) (hS : ∀ k, G k → ¬ S k) : SqI w' G mb nb m Q :=
  ⟨h.im.kept hk (hS mb h.gm), fun c => (h.row c).kept hk (fun k e => hS k (h.fr c k e)), h.gm, h.fr, h.ap, fun k hG => Nat.lt_of_lt_of_le (h.lt k hG) hk.size⟩
theorem SqI.made (w : World) : SqI (w.alloc (.map #[] 0)) (fun k => k = w.heap.size) w.heap.size 0 (fun _ => none) (fun _ => []) :=
  ⟨IMap.made w _ _, fun c => Row.nil_ .., rfl, fun c k e => (by simp [qv, Value.ownBlock] at e), fun c c' k e => (by simp [qv, Value.ownBlock] at e), fun k h => by simp; omega⟩
/-- A number appended to a client's row, and the row stored. -/
theorem SqI.added {w6 w7 w8 : World} {c n : Int} {V : Value} (h : SqI w6 G mb nb m Q) (hg : Kept w6 w7 (fun k => some k = (qv m c).ownBlock)) (hrow : Row w7 3 1 icl V (Q c ++ [n]))
    (hV : V.ownBlock = (qv m c).ownBlock ∨ V.ownBlock = some w6.heap.size) (hk8 : Kept w7 w8 (fun j => j = mb)) (him : IMap w8 3 mb (nb + 1) id (upd m c V)) :
    SqI w8 (fun k => G k ∨ (w6.heap.size ≤ k ∧ k < w8.heap.size)) mb (nb + 1) (upd m c V) (addQ Q c n) ∧ Kept w6 w8 G := by
  have hqt : ∀ j k, (qv m j).ownBlock = some k → k ≠ mb := fun j k e he => by
    subst he
    obtain ⟨cs, hb⟩ := (h.row j).typed e
    exact h.im.notBlk hb
  have him7 : IMap w7 3 mb nb id m := h.im.kept hg (fun e => hqt c mb e.symm rfl)
  have hVm : ∀ k, V.ownBlock = some k → k ≠ mb := fun k e he => by
    subst he
    obtain ⟨cs, hb⟩ := hrow.typed e
    exact him7.notBlk hb
  have hV' : ∀ k, V.ownBlock = some k → (qv m c).ownBlock = some k ∨ w6.heap.size ≤ k := fun k e => by
    rcases hV with hV | hV
    · exact .inl (hV ▸ e)
    · rw [hV] at e
      injection e with e
      exact .inr (by omega)
  have hK : Kept w6 w8 G := (hg.mono (fun k _ e => h.fr c k e.symm)).trans (hk8.mono (fun k _ e => e ▸ h.gm))
  refine ⟨⟨him, fun j => ?_, .inl h.gm, fun j k e => ?_, fun j j' k e e' => ?_, fun k hk => ?_⟩, hK⟩
  · rw [qv_upd]
    unfold addQ
    by_cases hjc : j = c
    · subst hjc
      rw [if_pos rfl, if_pos rfl]
      exact hrow.kept hk8 hVm
    · rw [if_neg hjc, if_neg hjc]
      exact ((h.row j).kept hg (fun k e he => hjc (h.ap j c k e he.symm))).kept hk8 (hqt j)
  · rw [qv_upd] at e
    by_cases hjc : j = c
    · rw [if_pos hjc] at e
      refine (hV' k e).imp (h.fr c k) (fun hk => ⟨hk, ?_⟩)
      have := hrow.lt e
      have := hk8.size
      omega
    · rw [if_neg hjc] at e
      exact .inl (h.fr j k e)
  · rw [qv_upd] at e e'
    have key : ∀ j', j' ≠ c → V.ownBlock = some k → (qv m j').ownBlock = some k → False := fun j' hj' e e' => by
      rcases hV' k e with hV | hV
      · exact hj' (h.ap j' c k e' hV)
      · have := h.lt k (h.fr j' k e')
        omega
    by_cases hjc : j = c
    · by_cases hjc' : j' = c
      · rw [hjc, hjc']
      · rw [if_pos hjc] at e
        rw [if_neg hjc'] at e'
        exact (key j' hjc' e e').elim
    · rw [if_neg hjc] at e
      by_cases hjc' : j' = c
      · rw [if_pos hjc'] at e'
        exact (key j hjc e' e).elim
      · rw [if_neg hjc'] at e'
        exact h.ap j j' k e e'
  · rcases hk with hk | hk
    · exact Nat.lt_of_lt_of_le (h.lt k hk) hK.size
    · exact hk.2
end
/-- A book and the call's own map. -/
structure KB (w0 w : World) (F G : Nat → Prop) (g d nb : Nat) (S : Int → List Int) (mb nb2 : Nat) (m : Int → Option Value) (Q : Int → List Int) : Prop where
  lb : LB w0 w F g d nb S
  sq : SqI w G mb nb2 m Q
  dis : ∀ k, F k → ¬ G k
  ownG : ∀ k, G k → w0.heap.size ≤ k
section
variable {w0 w w' : World} {F G : Nat → Prop} {g d nb mb nb2 : Nat} {m : Int → Option Value} {S Q : Int → List Int}
theorem KB.below (h : KB w0 w F G g d nb S mb nb2 m Q) (hb : Below w.heap.size w w') : KB w0 w' F G g d nb S mb nb2 m Q :=
  ⟨h.lb.below hb, h.sq.kept (Kept.of_below hb fun _ => False) (fun _ _ h => h), h.dis, h.ownG⟩
theorem KB.alloc (h : KB w0 w F G g d nb S mb nb2 m Q) (o : Obj) : KB w0 (w.alloc o) F G g d nb S mb nb2 m Q := h.below ((Below.refl _ _).alloc (Nat.le_refl _) o)
theorem KB.drewN (h : KB w0 w F G g d nb S mb nb2 m Q) (n : Nat) : KB w0 (w.drewN n) F G g d nb S mb nb2 m Q := h.below (Kept.below ((Kept.refl w fun _ => False).drewN n) (Nat.le_refl _) (fun _ _ h => h))
theorem KB.note (h : KB w0 w F G g d nb S mb nb2 m Q) {c n : Int} {rv : Value} (hr : One w rv n) (hc : 0 ≤ c) (hc2 : c ≤ 1000) (hn : 1 ≤ n) (hn2 : n ≤ 1048576) (hd1 : 1 ≤ d) (hd : d ≤ 64) (hS : (S c).length ≤ 64) (hnb : nb < 1000000) :
    Calls Try.prog 10 #[.pointer (some ⟨g, 0, none⟩), .agg #[.int .i64 c, .int .i64 n, rv, .int .i64 0, .int .i64 0]] w fun e w' => e = .returned (.int .i64 (noteE (S c) n)) ∧ ∃ F' nb', KB w0 w' F' G g d nb' (noteS d S c n) mb nb2 m Q ∧ nb' ≤ nb + 1 :=
  (bk_note F g d nb S c n rv w h.lb.bk hr hc hc2 hn hn2 hd1 hd hS hnb).mono fun e w' ⟨he, F', nb', h1, h2, h3, h4⟩ =>
    ⟨he, F', nb', ⟨h.lb.noted h1 h2 h3, h.sq.kept h2 (fun k hg hf => h.dis k hf hg), fun k hf hg => (h3 k hf).elim (fun hf => h.dis k hf hg) (fun hs => absurd (h.sq.lt k hg) (by omega)), h.ownG⟩, h4⟩
theorem KB.ask_in (h : KB w0 w F G g d nb S mb nb2 m Q) {c n : Int} (hc : 0 ≤ c) (hc2 : c ≤ 1000) (hn : 1 ≤ n) (hn2 : n ≤ 1048576) (hin : n ∈ S c) :
    Calls Try.prog 12 #[.pointer (some ⟨g, 0, none⟩), .int .i64 c, .int .i64 n] w fun e w' => ∃ g5 c5, e = askHit c n (.slice (some ⟨g5, 0, none⟩) 1 c5) ∧ KB w0 w' F G g d nb S mb nb2 m Q :=
  (bk_ask F g d nb S c n w h.lb.bk hc hc2 hn hn2).mono fun e w' ⟨hb, hq⟩ => hq.elim (fun ⟨_, rv, h2, h3, _⟩ => by
    obtain ⟨g5, c5, rfl, _⟩ := h3.form
    exact ⟨g5, c5, h2, h.below hb⟩) (fun h => absurd hin h.1)
theorem KB.ask_out (h : KB w0 w F G g d nb S mb nb2 m Q) {c n : Int} (hc : 0 ≤ c) (hc2 : c ≤ 1000) (hn : 1 ≤ n) (hn2 : n ≤ 1048576) (hin : n ∉ S c) :
    Calls Try.prog 12 #[.pointer (some ⟨g, 0, none⟩), .int .i64 c, .int .i64 n] w fun e w' => e = askMiss (S c) n ∧ KB w0 w' F G g d nb S mb nb2 m Q :=
  (bk_ask F g d nb S c n w h.lb.bk hc hc2 hn hn2).mono fun e w' ⟨hb, hq⟩ => hq.elim (fun h => absurd h.1 hin) (fun ⟨_, h1⟩ => ⟨h1, h.below hb⟩)
theorem KB.added {w6 w7 w8 : World} {c n : Int} {V : Value} (h : KB w0 w6 F G g d nb S mb nb2 m Q) (hg : Kept w6 w7 (fun k => some k = (qv m c).ownBlock)) (hrow : Row w7 3 1 icl V (Q c ++ [n]))
    (hV : V.ownBlock = (qv m c).ownBlock ∨ V.ownBlock = some w6.heap.size) (hk8 : Kept w7 w8 (fun j => j = mb)) (him : IMap w8 3 mb (nb2 + 1) id (upd m c V)) :
    KB w0 w8 F (fun k => G k ∨ (w6.heap.size ≤ k ∧ k < w8.heap.size)) g d nb S mb (nb2 + 1) (upd m c V) (addQ Q c n) := by
  obtain ⟨h1, h2⟩ := h.sq.added hg hrow hV hk8 him
  have hs := h.lb.h.size
  refine ⟨⟨h.lb.bk.kept h2 h.dis, h.lb.own, h.lb.h.trans (h2.below hs (fun k hk e => absurd (h.ownG k e) (by omega)))⟩, h1, fun k hf hg => ?_, fun k hg => ?_⟩
  · rcases hg with hg | hg
    · exact h.dis k hf hg
    · have := h.lb.bk.lt k hf
      omega
  · rcases hg with hg | hg
    · exact h.ownG k hg
    · omega
end
/-- A client and a number. -/
structure KeyK where (client seq : Int)
deriving instance Inhabited for KeyK
def KeyK.cells (x : KeyK) : List Value := [.int .i64 x.client, .int .i64 x.seq]
theorem keyK_of (r : List Value) (h : Open.RowK [.int .i64, .int .i64] r) : ∃ x : KeyK, r = x.cells ∧ True := by
  obtain ⟨h1, h2⟩ := h
  match r, h1 with
  | [v0, v1], _ =>
    obtain ⟨x0, rfl, _⟩ := h2 0 _ v0 rfl rfl
    obtain ⟨x1, rfl, _⟩ := h2 1 _ v1 rfl rfl
    exact ⟨⟨x0, x1⟩, rfl, trivial⟩
end Go.Proofs.Ytcpenjbgiecgnaa
