import Derived.Test.YtaghdopickgpgaaDoorDkM
import Derived.Test.YtaghdopickgpgaaDoorDkN
import Derived.Test.YtaghdopickgpgaaDoorDkI
import Derived.Test.YtaghdopickgpgaaDoorOSeg
namespace Go.Proofs.YtaghdopickgpgaaDoor
open Go Go.RowKit
set_option linter.unusedVariables false
set_option linter.unusedSimpArgs false

theorem flat_ints (l : List Int) : l.flatMap icell = l.map (Value.int .i64 ·) := by
  induction l with
  | nil => rfl
  | cons y l ih => rw [List.flatMap_cons, List.map_cons, ih]; rfl
/-- A disk of the call's own. -/
structure LoneK (w0 w : World) (F : Nat → Prop) (g : Nat) (s : DkS) : Prop where
  at_ : DkAt w F g s
  ok : s.Ok
  back : Below w0.heap.size w0 w
  fresh : ∀ k, F k → w0.heap.size ≤ k
section
variable {w0 w w' : World} {F : Nat → Prop} {g : Nat} {s s' : DkS}
theorem LoneK.below (h : LoneK w0 w F g s) (hb : Below w.heap.size w w') : LoneK w0 w' F g s := ⟨h.at_.below hb, h.ok, h.back.trans (hb.mono h.back.size), h.fresh⟩
theorem LoneK.post (h : LoneK w0 w F g s) (hp : DkPost w F g s' w') (ho : s'.Ok) : LoneK w0 w' F g s' :=
  ⟨hp.2, ho, h.back.trans (hp.1.below h.back.size fun k hk hF => by have := h.fresh k hF; omega), h.fresh⟩
theorem LoneK.append (h : LoneK w0 w F g s) (k d : ByteArray) (hk : k.size ≤ maxLen) (hd : d.size ≤ 140737488351232) :
    Calls Tryd.prog 12 #[.pointer (some ⟨g, 0, none⟩), .string k, .string d] w fun e w' => e = .returned (.int .i64 (s.append k d).2) ∧ LoneK w0 w' F g (s.append k d).1 ∧ Kept w w' F :=
  (disk_append F g s k d w h.at_ h.ok hk hd).mono fun e w' ⟨he, hp⟩ => ⟨he, h.post hp (h.ok.append k d), hp.1⟩
theorem LoneK.cut (h : LoneK w0 w F g s) (k : ByteArray) (n : Int) (hk : k.size ≤ maxLen) :
    Calls Tryd.prog 21 #[.pointer (some ⟨g, 0, none⟩), .string k, .int .i64 n] w fun e w' => e = .returned (.int .i64 (s.cut k n).2) ∧ LoneK w0 w' F g (s.cut k n).1 ∧ Kept w w' F :=
  (disk_cut F g s k n w h.at_ h.ok hk).mono fun e w' ⟨he, hp⟩ => ⟨he, h.post hp (h.ok.cut k n), hp.1⟩
theorem LoneK.sync (h : LoneK w0 w F g s) :
    Calls Tryd.prog 14 #[.pointer (some ⟨g, 0, none⟩)] w fun e w' => e = .returned (.int .i64 s.sync.2) ∧ LoneK w0 w' F g s.sync.1 ∧ Kept w w' F :=
  (disk_sync F g s w h.at_ h.ok).mono fun e w' ⟨he, hp⟩ => ⟨he, h.post hp h.ok.sync, hp.1⟩
theorem LoneK.rename (h : LoneK w0 w F g s) (a b : ByteArray) (ha : a.size ≤ maxLen) (hb : b.size ≤ maxLen) :
    Calls Tryd.prog 17 #[.pointer (some ⟨g, 0, none⟩), .string a, .string b] w fun e w' => e = .returned (.int .i64 (s.rename a b).2) ∧ LoneK w0 w' F g (s.rename a b).1 ∧ Kept w w' F :=
  (disk_rename F g s a b w h.at_ h.ok ha hb).mono fun e w' ⟨he, hp⟩ => ⟨he, h.post hp (h.ok.rename a b), hp.1⟩
theorem LoneK.remove (h : LoneK w0 w F g s) (k : ByteArray) (hk : k.size ≤ maxLen) :
    Calls Tryd.prog 22 #[.pointer (some ⟨g, 0, none⟩), .string k] w fun e w' => e = .returned (.int .i64 (s.remove k).2) ∧ LoneK w0 w' F g (s.remove k).1 ∧ Kept w w' F :=
  (disk_remove F g s k w h.at_ h.ok hk).mono fun e w' ⟨he, hp⟩ => ⟨he, h.post hp (h.ok.remove k), hp.1⟩
theorem LoneK.read (h : LoneK w0 w F g s) (k : ByteArray) (hk : k.size ≤ maxLen) :
    Calls Tryd.prog 16 #[.pointer (some ⟨g, 0, none⟩), .string k] w fun e w' => e = .returned (.tuple #[.string (fileAt s.fs k).has, .int .i64 (knownE s.fs k)]) ∧ LoneK w0 w' F g s ∧ Below w.heap.size w w' :=
  (disk_read F g s k w h.at_ hk).mono fun e w' ⟨he, hb⟩ => ⟨he, h.below hb, hb⟩
theorem LoneK.fuse (h : LoneK w0 w F g s) (n : Int) (h0 : 0 ≤ n) (h1 : n ≤ 9223372036854775807) :
    Calls Tryd.prog 20 #[.pointer (some ⟨g, 0, none⟩), .int .i64 n] w fun e w' => e = .returned (.int .i64 0) ∧ LoneK w0 w' F g { s with fused := true, left := n } ∧ Kept w w' F :=
  (disk_fuse F g s n w h.at_ h0).mono fun e w' ⟨he, hp⟩ => ⟨he, h.post hp (h.ok.fuse n h0 h1), hp.1⟩
theorem LoneK.crash (h : LoneK w0 w F g s) (A : Option Addr) (ds : List Int) (c : Nat) (hd : Draws w F A ds) (hn : ds.length ≤ 4096) (hc : ds.length ≤ c) :
    Calls Tryd.prog 15 #[.pointer (some ⟨g, 0, none⟩), .slice A ds.length c] w fun e w' => e = .returned (.int .i64 0) ∧ LoneK w0 w' F g (s.crashed ds) ∧ Kept w w' F :=
  (disk_crash F g s A ds c w h.at_ h.ok hd hn hc).mono fun e w' ⟨he, hp⟩ => ⟨he, h.post hp (h.ok.crashed ds), hp.1⟩
theorem LoneK.names (h : LoneK w0 w F g s) :
    Calls Tryd.prog 19 #[.pointer (some ⟨g, 0, none⟩)] w fun e w' => ∃ v, e = .returned v ∧ Row w' 9 1 scells v (namesOf s.fs) ∧ LoneK w0 w' F g s ∧ Below w.heap.size w w' ∧ ∀ k, v.ownBlock = some k → w.heap.size ≤ k :=
  (disk_names F g s w h.at_ h.ok).mono fun e w' ⟨v, he, hr, hb, hf⟩ => ⟨v, he, hr, h.below hb, hb, hf⟩
theorem LoneK.used (h : LoneK w0 w F g s) : Calls Tryd.prog 18 #[.pointer (some ⟨g, 0, none⟩)] w fun e w' => e = .returned (.int .i64 s.used) ∧ w' = w := disk_used F g s w h.at_
theorem LoneK.new (n : Int) (hb : Below w0.heap.size w0 w) (h0 : 0 ≤ n) (h1 : n ≤ 262144) : Calls Tryd.prog 10 #[.int .i64 n] w fun e w' => ∃ g F, e = .returned (.tuple #[.pointer (some ⟨g, 0, none⟩), .int .i64 0]) ∧ LoneK w0 w' F g ⟨n, 0, [], false, false, 0⟩ ∧ Below w.heap.size w w' :=
  (disk_new n w h0 h1).mono fun e w' ⟨g, he, hb', hg, ha⟩ => ⟨g, _, he, ⟨ha, .new n h0 h1, hb.trans (hb'.mono hb.size), fun k hk => Nat.le_trans hb.size hk.1⟩, hb'⟩
/-- Draws of the caller's. -/
theorem LoneK.draws (h : LoneK w0 w F g s) {A : Option Addr} {c : Nat} {l : List Int} (hs : SegG w0 icell (.slice A l.length c) l) : Draws w F A l := by
  intro hl
  obtain ⟨A', c', hv, hc, hm, hx⟩ := hs
  injection hv with hA _ _
  subst hA
  obtain ⟨ad, rfl, hcell⟩ := hx (List.length_pos_iff.2 hl)
  have hcell' : ∀ (i : Nat) (x : Int), l[i]? = some x → w0.cell? (ad.add i) = some (.int .i64 x) := fun i x hi => hcell i _ (by rw [flat_ints, List.getElem?_map, hi]; rfl)
  obtain ⟨x, hx0⟩ : ∃ x, l[0]? = some x := ⟨l[0]'(List.length_pos_iff.2 hl), List.getElem?_eq_getElem _⟩
  have h0 := hcell' 0 x hx0
  have hb0 := World.block_lt_of_cell? w0 _ h0
  rw [show ad.add 0 = ad by unfold Addr.add; simp] at hb0
  refine ⟨ad, rfl, Nat.lt_of_lt_of_le hb0 h.back.size, fun hF => by have := h.fresh _ hF; omega, fun i y hi => ?_⟩
  have h1 := hcell' i y hi
  rw [h.back.cell (World.block_lt_of_cell? w0 _ h1)]
  exact h1
end
theorem among_calls (x n : Int) (w : World) (h0 : 0 < n) (h1 : n ≤ 4611686018427387904) : Calls Tryd.prog 13 #[.int .i64 x, .int .i64 n] w fun e w' => e = .returned (.int .i64 (amg x n)) ∧ w' = w := by
  have hn : ¬ n = 0 := by omega
  unfold amg
  go_enter Tryd.func13, Tryd.ntmps13
  go_wp2
  go_ret
  exact ⟨rfl, rfl⟩
end Go.Proofs.YtaghdopickgpgaaDoor
