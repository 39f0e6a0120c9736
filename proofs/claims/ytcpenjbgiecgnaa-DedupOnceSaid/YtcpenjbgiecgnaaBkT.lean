import Derived.Test.YtcpenjbgiecgnaaBkS
namespace Go.Proofs.Ytcpenjbgiecgnaa
open Go Go.RowKit
set_option linter.unusedVariables false
set_option linter.unusedSimpArgs false
set_option maxRecDepth 100000

/-! DedupOnce: the plain law, and what the loop carries. -/
structure OP (d : Nat) (S Q : Int → List Int) (f : Int × Int → Option Int) : Prop where
  cut : ∀ c, S c = cutN d (Q c)
  rise : ∀ c, (Q c).Pairwise (· < ·)
  bound : ∀ c x, x ∈ Q c → 1 ≤ x ∧ x ≤ 100 ∧ 0 ≤ c ∧ c ≤ 3
  done : ∀ c x, f (c, x) = if x ∈ Q c then some 1 else none
section
variable {d : Nat} {S Q : Int → List Int} {f : Int × Int → Option Int}
theorem OP.start (d : Nat) : OP d (fun _ => []) (fun _ => []) (fun _ => none) := ⟨fun c => (by unfold cutN; simp), fun c => List.Pairwise.nil, fun c x h => by simp at h, fun c x => by simp⟩
theorem OP.mem (h : OP d S Q f) {c x : Int} (hx : x ∈ S c) : x ∈ Q c := by
  rw [h.cut] at hx
  exact List.mem_of_mem_drop hx
theorem OP.lend (h : OP d S Q f) (c : Int) : (S c).length ≤ d := by rw [h.cut]; exact cut_len _ _
theorem OP.rises (h : OP d S Q f) (c : Int) : (S c).Pairwise (· < ·) := by rw [h.cut]; exact (h.rise c).sublist (List.drop_sublist ..)
theorem OP.small (h : OP d S Q f) (hd : d ≤ 64) : Small S :=
  ⟨fun c x hx => by have := h.bound c x (h.mem hx); omega, fun c => Nat.le_trans (h.lend c) hd, fun c hc => by
    obtain ⟨x, l, hl⟩ := List.exists_cons_of_ne_nil hc
    have := h.bound c x (h.mem (by rw [hl]; simp))
    omega⟩
theorem OP.hit (h : OP d S Q f) {c x : Int} (hx : x ∈ S c) : (f (c, x)).getD 0 = 1 := by
  rw [h.done, if_pos (h.mem hx)]
  rfl
theorem OP.last (h : OP d S Q f) (hd1 : 1 ≤ d) (c : Int) : lastN (S c) = lastN (Q c) := by rw [h.cut, lastN_cut hd1]
theorem OP.nin (h : OP d S Q f) (hd1 : 1 ≤ d) {c x : Int} (hx : ¬ x ≤ lastN (S c)) : x ∉ Q c := fun hm => by
  have := rise_last (h.rise c) hm
  rw [h.last hd1] at hx
  omega
theorem OP.none_ (h : OP d S Q f) (hd1 : 1 ≤ d) {c x : Int} (hx : ¬ x ≤ lastN (S c)) : (f (c, x)).getD 0 = 0 := by
  rw [h.done, if_neg (h.nin hd1 hx)]
  rfl
theorem OP.note (h : OP d S Q f) (hd1 : 1 ≤ d) {c x : Int} (hx : ¬ x ≤ lastN (S c)) : noteE (S c) x = 0 := by
  unfold noteE askE
  rw [if_neg (fun hm => h.nin hd1 hx (h.mem hm)), if_neg hx]
theorem OP.step (h : OP d S Q f) (hd1 : 1 ≤ d) {c x : Int} (hx : ¬ x ≤ lastN (S c)) (h1 : 1 ≤ x) (h2 : x ≤ 100) (h3 : 0 ≤ c) (h4 : c ≤ 3) : OP d (noteS d S c x) (addQ Q c x) (updK f (c, x) 1) ∧ lastN (noteS d S c x c) = x := by
  have hns : noteS d S c x = fun j => if j = c then cutN d (S c ++ [x]) else S j := by
    unfold noteS
    rw [if_neg (fun e => e.elim (fun hm => h.nin hd1 hx (h.mem hm)) hx)]
  rw [hns]
  refine ⟨⟨fun j => ?_, fun j => ?_, fun j y hy => ?_, fun j y => ?_⟩, ?_⟩
  · unfold addQ
    by_cases hj : j = c
    · simp only [hj, if_pos]
      rw [h.cut c, cut_cut hd1]
    · simp only [if_neg hj]
      exact h.cut j
  · unfold addQ
    by_cases hj : j = c
    · simp only [hj, if_pos]
      refine List.pairwise_append.2 ⟨h.rise c, by simp, fun a ha b hb => ?_⟩
      rw [List.mem_singleton.1 hb]
      have := rise_last (h.rise c) ha
      rw [h.last hd1] at hx
      omega
    · simp only [if_neg hj]
      exact h.rise j
  · unfold addQ at hy
    by_cases hj : j = c
    · simp only [hj, if_pos] at hy
      rcases List.mem_append.1 hy with hy | hy
      · rw [hj]; exact h.bound c y hy
      · rw [List.mem_singleton.1 hy, hj]
        exact ⟨h1, h2, h3, h4⟩
    · simp only [if_neg hj] at hy
      exact h.bound j y hy
  · unfold addQ updK
    by_cases hj : j = c
    · subst hj
      by_cases hy : y = x
      · subst hy
        rw [if_pos rfl, if_pos rfl, if_pos (by simp)]
      · rw [if_neg (fun e => hy (by injection e)), if_pos rfl, h.done]
        by_cases hm : y ∈ Q j
        · rw [if_pos hm, if_pos (List.mem_append_left _ hm)]
        · rw [if_neg hm, if_neg (by simp [hm, hy])]
    · rw [if_neg (fun e => hj (by injection e)), if_neg hj]
      exact h.done j y
  · show lastN (if c = c then cutN d (S c ++ [x]) else S c) = x
    rw [if_pos rfl, lastN_cut hd1]
    unfold lastN
    simp
end
/-- A book of the call's own and the call's map. -/
structure KO (w0 w : World) (F : Nat → Prop) (g d nb : Nat) (S : Int → List Int) (b n : Nat) (f : Int × Int → Option Int) : Prop where
  lb : LB w0 w F g d nb S
  km : KMap w b n f
  fb : ¬ F b
  ob : w0.heap.size ≤ b
section
variable {w0 w w' : World} {F : Nat → Prop} {g d nb b n : Nat} {S : Int → List Int} {f : Int × Int → Option Int} {c x : Int} {rv : Value}
theorem KO.below (h : KO w0 w F g d nb S b n f) (hb : Below w.heap.size w w') : KO w0 w' F g d nb S b n f := ⟨h.lb.below hb, h.km.kept (Kept.of_below hb fun _ => False) (fun h => h), h.fb, h.ob⟩
theorem KO.alloc (h : KO w0 w F g d nb S b n f) (o : Obj) : KO w0 (w.alloc o) F g d nb S b n f := h.below ((Below.refl _ _).alloc (Nat.le_refl _) o)
theorem KO.drew (h : KO w0 w F g d nb S b n f) : KO w0 w.drew F g d nb S b n f := h.below (Kept.below ((Kept.refl w fun _ => False).drew) (Nat.le_refl _) (fun _ _ h => h))
theorem KO.drewN (h : KO w0 w F g d nb S b n f) (q : Nat) : KO w0 (w.drewN q) F g d nb S b n f := h.below (Kept.below ((Kept.refl w fun _ => False).drewN q) (Nat.le_refl _) (fun _ _ h => h))
theorem KO.note (h : KO w0 w F g d nb S b n f) (hr : One w rv x) (hc : 0 ≤ c) (hc2 : c ≤ 1000) (hn : 1 ≤ x) (hn2 : x ≤ 1048576) (hd1 : 1 ≤ d) (hd : d ≤ 64) (hS : (S c).length ≤ 64) (hnb : nb < 1000000) :
    Calls Try.prog 10 #[.pointer (some ⟨g, 0, none⟩), .agg #[.int .i64 c, .int .i64 x, rv, .int .i64 0, .int .i64 0]] w fun e w' => e = .returned (.int .i64 (noteE (S c) x)) ∧ ∃ F' nb', KO w0 w' F' g d nb' (noteS d S c x) b n f ∧ nb' ≤ nb + 1 ∧ Kept w w' F :=
  (bk_note F g d nb S c x rv w h.lb.bk hr hc hc2 hn hn2 hd1 hd hS hnb).mono fun e w' ⟨he, F', nb', h1, h2, h3, h4⟩ =>
    ⟨he, F', nb', ⟨h.lb.noted h1 h2 h3, h.km.kept h2 h.fb, fun hb => (h3 b hb).elim h.fb (fun hs => absurd h.km.lt (by omega)), h.ob⟩, h4, h2⟩
/-- Only the map's block has turned. -/
theorem KO.turned (h : KO w0 w F g d nb S b n f) {n' : Nat} {f' : Int × Int → Option Int} (hm : KMap w' b n' f') (hk : Kept w w' (fun j => j = b)) : KO w0 w' F g d nb S b n' f' :=
  ⟨⟨h.lb.bk.kept hk (fun k hF e => h.fb (e ▸ hF)), h.lb.own, h.lb.h.trans (hk.below h.lb.h.size (fun k hk e => by have := h.ob; omega))⟩, hm, h.fb, h.ob⟩
/-- Another book in its place. -/
theorem KO.loaded (h : KO w0 w F g d nb S b n f) {F' : Nat → Prop} {g' nb' : Nat} (hb : BkAt w' F' g' d nb' S) (hl : Below w.heap.size w w') (hF : ∀ k, F' k → w.heap.size ≤ k) : KO w0 w' F' g' d nb' S b n f := by
  have h2 := h.below hl
  have hs := h.lb.h.size
  exact ⟨⟨hb, fun k hk => Nat.le_trans hs (hF k hk), h2.lb.h⟩, h2.km, fun hk => by have := hF b hk; have := h.km.lt; omega, h2.ob⟩
end
theorem KMap.lookE {w : World} {b n : Nat} {f : Int × Int → Option Int} (h : KMap w b n f) {c x y : Int} (hk : kwf (c, x)) (hy : (f (c, x)).getD 0 = y) : (Instr.lookup 45 (.map (some b)) (.agg #[.int .i64 c, .int .i64 x]) false).run Try.prog w = .ok (.int .i64 y) w := hy ▸ h.look hk
theorem KMap.entryE {w : World} {b n : Nat} {f : Int × Int → Option Int} (h : KMap w b n f) (hn : n < maxLen) {c x y : Int} (hk : kwf (c, x)) (hy : (f (c, x)).getD 0 = y) : ∃ (st : Nat) (w1 : World), (Instr.mapEntry 45 (.map (some b)) (.agg #[.int .i64 c, .int .i64 x])).run Try.prog w = .ok (.tuple #[.int .i64 y, .int .i64 st]) w1 ∧ KMap w1 b (n + 1) (updK f (c, x) y) ∧ Kept w w1 (fun j => j = b) ∧
    ∀ (w2 : World) (y : Int), w2.heap[b]? = w1.heap[b]? → ∃ w3, (Instr.entryStore 45 (.map (some b)) (.int .i64 st) (.int .i64 y)).run Try.prog w2 = .ok () w3 ∧ KMap w3 b (n + 1) (updK f (c, x) y) ∧ Kept w2 w3 (fun j => j = b) := hy ▸ h.entry hn hk
theorem updK_same (f : Int × Int → Option Int) (k : Int × Int) (y : Int) : (updK f k y k).getD 0 = y := by unfold updK; rw [if_pos rfl]; rfl
theorem int_args {A : Option Addr} {len cap : Nat} {rows : List (List Value)} {w : World} (h : Open.Rows w [.int .i64] A len cap rows) : ∃ f, Args w A len 1 icl (fun _ => True) f :=
  args_of h icl (fun _ => True) 1 rfl (fun r hr => by
    obtain ⟨h1, h2⟩ := hr
    match r, h1 with
    | [v], _ =>
      obtain ⟨x, rfl, _⟩ := h2 0 _ v rfl rfl
      exact ⟨x, rfl, trivial⟩)
end Go.Proofs.Ytcpenjbgiecgnaa
