import Derived.Test.YtaghdopickgpgaaDoorRdF
import Derived.Test.YtaghdopickgpgaaDoorRdJ
namespace Go.Proofs.YtaghdopickgpgaaDoor
open Go Go.RowKit
set_option linter.unusedVariables false
set_option linter.unusedSimpArgs false

/-- The disk and the document's one, side by side. -/
structure DuoK (w0 w : World) (F : Nat → Prop) (g : Nat) (G : Nat → Prop) (h : Nat) (s r : DkS) : Prop where
  da : DkAt w F g s
  ra : RkAt w G h r
  ok : s.Ok
  rok : r.Ok
  back : Below w0.heap.size w0 w
  ff : ∀ k, F k → w0.heap.size ≤ k
  gg : ∀ k, G k → w0.heap.size ≤ k
  fg : ∀ k, F k → ¬ G k
  up : ∀ k, w.heap.size ≤ k → G k
def FG (F G : Nat → Prop) (k : Nat) : Prop := F k ∨ G k
section
variable {w0 w w' : World} {F G : Nat → Prop} {g h : Nat} {s s' r r' : DkS}
theorem DuoK.drew (H : DuoK w0 w F g G h s r) : DuoK w0 w.drew F g G h s r := ⟨H.da.kept ((Kept.refl _ fun _ => False).drew) (fun _ _ _ h => h), H.ra.kept ((Kept.refl _ fun _ => False).drew) (fun _ _ _ h => h), H.ok, H.rok, H.back.drew, H.ff, H.gg, H.fg, H.up⟩
theorem DuoK.below (H : DuoK w0 w F g G h s r) (hb : Below w.heap.size w w') : DuoK w0 w' F g G h s r := ⟨H.da.below hb, H.ra.below hb, H.ok, H.rok, H.back.trans (hb.mono H.back.size), H.ff, H.gg, H.fg, fun k hk => H.up k (Nat.le_trans hb.size hk)⟩
theorem DuoK.disk (H : DuoK w0 w F g G h s r) (hp : DkPost w F g s' w') (ho : s'.Ok) : DuoK w0 w' F g G h s' r ∧ Kept w w' (FG F G) :=
  ⟨⟨hp.2, H.ra.kept hp.1 (fun k _ hk hF => H.fg k hF hk), ho, H.rok, H.back.trans (hp.1.below H.back.size fun k hk hF => by have := H.ff k hF; omega), H.ff, H.gg, H.fg, fun k hk => H.up k (Nat.le_trans hp.1.size hk)⟩, hp.1.mono fun _ _ h => .inl h⟩
theorem DuoK.refG (H : DuoK w0 w F g G h s r) (hp : RkPostG w G h r' w') (ho : r'.Ok) : DuoK w0 w' F g G h s r' ∧ Kept w w' (FG F G) :=
  ⟨⟨H.da.kept hp.1 (fun k _ hk hG => H.fg k hk hG), hp.2, H.ok, ho, H.back.trans (hp.1.below H.back.size fun k hk hG => by have := H.gg k hG; omega), H.ff, H.gg, H.fg, fun k hk => H.up k (Nat.le_trans hp.1.size hk)⟩, hp.1.mono fun _ _ h => .inr h⟩
theorem DuoK.ref (H : DuoK w0 w F g G h s r) (hp : RkPost w G h r' w') (ho : r'.Ok) : DuoK w0 w' F g G h s r' ∧ Kept w w' (FG F G) := H.refG hp.wide ho
variable (H : DuoK w0 w F g G h s r)
include H
theorem DuoK.append1 (k d : ByteArray) (hk : k.size ≤ maxLen) (hd : d.size ≤ 140737488351232) :
    Calls Tryd.prog 12 #[.pointer (some ⟨g, 0, none⟩), .string k, .string d] w fun e w' => e = .returned (.int .i64 (s.append k d).2) ∧ DuoK w0 w' F g G h (s.append k d).1 r ∧ Kept w w' (FG F G) :=
  (disk_append F g s k d w H.da H.ok hk hd).mono fun e w' ⟨he, hp⟩ => ⟨he, H.disk hp (H.ok.append k d)⟩
theorem DuoK.append2 (k d : ByteArray) (hk : k.size ≤ maxLen) (hd : d.size ≤ 140737488351232) :
    Calls Tryd.prog 36 #[.pointer (some ⟨h, 0, none⟩), .string k, .string d] w fun e w' => e = .returned (.int .i64 (r.append k d).2) ∧ DuoK w0 w' F g G h s (r.append k d).1 ∧ Kept w w' (FG F G) :=
  (refd_append G h r k d w H.ra H.rok H.up hk hd).mono fun e w' ⟨he, hp⟩ => ⟨he, H.ref hp (H.rok.append k d)⟩
theorem DuoK.cut1 (k : ByteArray) (n : Int) (hk : k.size ≤ maxLen) :
    Calls Tryd.prog 21 #[.pointer (some ⟨g, 0, none⟩), .string k, .int .i64 n] w fun e w' => e = .returned (.int .i64 (s.cut k n).2) ∧ DuoK w0 w' F g G h (s.cut k n).1 r ∧ Kept w w' (FG F G) :=
  (disk_cut F g s k n w H.da H.ok hk).mono fun e w' ⟨he, hp⟩ => ⟨he, H.disk hp (H.ok.cut k n)⟩
theorem DuoK.cut2 (k : ByteArray) (n : Int) (hk : k.size ≤ maxLen) :
    Calls Tryd.prog 37 #[.pointer (some ⟨h, 0, none⟩), .string k, .int .i64 n] w fun e w' => e = .returned (.int .i64 (r.cut k n).2) ∧ DuoK w0 w' F g G h s (r.cut k n).1 ∧ Kept w w' (FG F G) :=
  (refd_cut G h r k n w H.ra H.rok H.up hk).mono fun e w' ⟨he, hp⟩ => ⟨he, H.ref hp (H.rok.cut k n)⟩
theorem DuoK.sync1 :
    Calls Tryd.prog 14 #[.pointer (some ⟨g, 0, none⟩)] w fun e w' => e = .returned (.int .i64 s.sync.2) ∧ DuoK w0 w' F g G h s.sync.1 r ∧ Kept w w' (FG F G) :=
  (disk_sync F g s w H.da H.ok).mono fun e w' ⟨he, hp⟩ => ⟨he, H.disk hp H.ok.sync⟩
theorem DuoK.sync2 :
    Calls Tryd.prog 38 #[.pointer (some ⟨h, 0, none⟩)] w fun e w' => e = .returned (.int .i64 r.sync.2) ∧ DuoK w0 w' F g G h s r.sync.1 ∧ Kept w w' (FG F G) :=
  (refd_sync G h r w H.ra H.rok).mono fun e w' ⟨he, hp⟩ => ⟨he, H.refG hp H.rok.sync⟩
theorem DuoK.rename1 (a b : ByteArray) (ha : a.size ≤ maxLen) (hb : b.size ≤ maxLen) :
    Calls Tryd.prog 17 #[.pointer (some ⟨g, 0, none⟩), .string a, .string b] w fun e w' => e = .returned (.int .i64 (s.rename a b).2) ∧ DuoK w0 w' F g G h (s.rename a b).1 r ∧ Kept w w' (FG F G) :=
  (disk_rename F g s a b w H.da H.ok ha hb).mono fun e w' ⟨he, hp⟩ => ⟨he, H.disk hp (H.ok.rename a b)⟩
theorem DuoK.rename2 (a b : ByteArray) (ha : a.size ≤ maxLen) (hb : b.size ≤ maxLen) :
    Calls Tryd.prog 39 #[.pointer (some ⟨h, 0, none⟩), .string a, .string b] w fun e w' => e = .returned (.int .i64 (r.rename a b).2) ∧ DuoK w0 w' F g G h s (r.rename a b).1 ∧ Kept w w' (FG F G) :=
  (refd_rename G h r a b w H.ra H.rok H.up ha hb).mono fun e w' ⟨he, hp⟩ => ⟨he, H.ref hp (H.rok.rename a b)⟩
theorem DuoK.remove1 (k : ByteArray) (hk : k.size ≤ maxLen) :
    Calls Tryd.prog 22 #[.pointer (some ⟨g, 0, none⟩), .string k] w fun e w' => e = .returned (.int .i64 (s.remove k).2) ∧ DuoK w0 w' F g G h (s.remove k).1 r ∧ Kept w w' (FG F G) :=
  (disk_remove F g s k w H.da H.ok hk).mono fun e w' ⟨he, hp⟩ => ⟨he, H.disk hp (H.ok.remove k)⟩
theorem DuoK.remove2 (k : ByteArray) (hk : k.size ≤ maxLen) :
    Calls Tryd.prog 40 #[.pointer (some ⟨h, 0, none⟩), .string k] w fun e w' => e = .returned (.int .i64 (r.remove k).2) ∧ DuoK w0 w' F g G h s (r.remove k).1 ∧ Kept w w' (FG F G) :=
  (refd_remove G h r k w H.ra H.rok H.up hk).mono fun e w' ⟨he, hp⟩ => ⟨he, H.ref hp (H.rok.remove k)⟩
theorem DuoK.read1 (k : ByteArray) (hk : k.size ≤ maxLen) :
    Calls Tryd.prog 16 #[.pointer (some ⟨g, 0, none⟩), .string k] w fun e w' => e = .returned (.tuple #[.string (fileAt s.fs k).has, .int .i64 (knownE s.fs k)]) ∧ DuoK w0 w' F g G h s r ∧ Below w.heap.size w w' :=
  (disk_read F g s k w H.da hk).mono fun e w' ⟨he, hb⟩ => ⟨he, H.below hb, hb⟩
theorem DuoK.read2 (k : ByteArray) (hk : k.size ≤ maxLen) :
    Calls Tryd.prog 41 #[.pointer (some ⟨h, 0, none⟩), .string k] w fun e w' => e = .returned (.tuple #[.string (fileAt r.fs k).has, .int .i64 (knownE r.fs k)]) ∧ DuoK w0 w' F g G h s r ∧ Below w.heap.size w w' :=
  (refd_read G h r k w H.ra H.rok hk).mono fun e w' ⟨he, hb⟩ => ⟨he, H.below hb, hb⟩
/-- Fuse, whatever the number. -/
def DkS.fuse (s : DkS) (n : Int) : DkS × Int := if n < 0 then (s, 1) else ({ s with fused := true, left := n }, 0)
omit H in
theorem DkS.Ok.fuse' (hs : s.Ok) (n : Int) (h1 : n ≤ 9223372036854775807) : (s.fuse n).1.Ok := by
  unfold DkS.fuse
  split
  · exact hs
  · exact hs.fuse n (by omega) h1
theorem DuoK.fuse1 (n : Int) (h1 : n ≤ 9223372036854775807) :
    Calls Tryd.prog 20 #[.pointer (some ⟨g, 0, none⟩), .int .i64 n] w fun e w' => e = .returned (.int .i64 (s.fuse n).2) ∧ DuoK w0 w' F g G h (s.fuse n).1 r ∧ Kept w w' (FG F G) := by
  have ho := H.ok.fuse' n h1
  unfold DkS.fuse at ho ⊢
  split
  · rename_i hn
    exact (disk_fuse_bad F g s n w H.da hn).mono fun e w' ⟨he, hw⟩ => ⟨he, by subst hw; exact ⟨H, Kept.refl _ _⟩⟩
  · rename_i hn
    rw [if_neg hn] at ho
    exact (disk_fuse F g s n w H.da (by omega)).mono fun e w' ⟨he, hp⟩ => ⟨he, H.disk hp ho⟩
theorem DuoK.fuse2 (n : Int) (h1 : n ≤ 9223372036854775807) :
    Calls Tryd.prog 42 #[.pointer (some ⟨h, 0, none⟩), .int .i64 n] w fun e w' => e = .returned (.int .i64 (r.fuse n).2) ∧ DuoK w0 w' F g G h s (r.fuse n).1 ∧ Kept w w' (FG F G) := by
  have ho := H.rok.fuse' n h1
  unfold DkS.fuse at ho ⊢
  split
  · rename_i hn
    exact (refd_fuse_bad G h r n w H.ra hn).mono fun e w' ⟨he, hw⟩ => ⟨he, by subst hw; exact ⟨H, Kept.refl _ _⟩⟩
  · rename_i hn
    rw [if_neg hn] at ho
    exact (refd_fuse G h r n w H.ra (by omega)).mono fun e w' ⟨he, hp⟩ => ⟨he, H.ref hp ho⟩
/-- Crash, whatever the draws. -/
def DkS.crashD (s : DkS) (ds : List Int) : DkS × Int := if 4096 < ds.length then (s, 2) else (s.crashed ds, 0)
omit H in
theorem DkS.Ok.crashD (hs : s.Ok) (ds : List Int) : (s.crashD ds).1.Ok := by
  unfold DkS.crashD
  split
  · exact hs
  · exact hs.crashed ds
omit H in
theorem draws_seg {S : Nat → Prop} {A : Option Addr} {c : Nat} {l : List Int} (hs : SegG w0 icell (.slice A l.length c) l) (hb : Below w0.heap.size w0 w) (hS : ∀ k, S k → w0.heap.size ≤ k) : Draws w S A l := by
  intro hl
  obtain ⟨A', c', hv, hc, hm, hx⟩ := hs
  injection hv with hA _ _
  subst hA
  obtain ⟨ad, rfl, hcell⟩ := hx (List.length_pos_iff.2 hl)
  have hcell' : ∀ (i : Nat) (x : Int), l[i]? = some x → w0.cell? (ad.add i) = some (.int .i64 x) := fun i x hi => hcell i _ (by rw [flat_ints, List.getElem?_map, hi]; rfl)
  obtain ⟨x, hx0⟩ : ∃ x, l[0]? = some x := ⟨l[0]'(List.length_pos_iff.2 hl), List.getElem?_eq_getElem _⟩
  have h0 := hcell' 0 x hx0
  have hb0 := World.block_lt_of_cell? w0 _ h0
  rw [show ad.add 0 = ad by unfold Addr.add; simp] at hb0
  refine ⟨ad, rfl, Nat.lt_of_lt_of_le hb0 hb.size, fun hF => by have := hS _ hF; omega, fun i y hi => ?_⟩
  have h1 := hcell' i y hi
  rw [hb.cell (World.block_lt_of_cell? w0 _ h1)]
  exact h1
theorem DuoK.crash1 (A : Option Addr) (ds : List Int) (c : Nat) (hs : SegG w0 icell (.slice A ds.length c) ds) (hm : ds.length ≤ 140737488351232) :
    Calls Tryd.prog 15 #[.pointer (some ⟨g, 0, none⟩), .slice A ds.length c] w fun e w' => e = .returned (.int .i64 (s.crashD ds).2) ∧ DuoK w0 w' F g G h (s.crashD ds).1 r ∧ Kept w w' (FG F G) := by
  have hc : ds.length ≤ c := by obtain ⟨A', c', hv, hc, _⟩ := hs; injection hv with _ _ hc2; omega
  unfold DkS.crashD
  split
  · rename_i hn
    exact (disk_crash_long F g s A ds.length c w hn (by omega)).mono fun e w' ⟨he, hw⟩ => ⟨he, by subst hw; exact ⟨H, Kept.refl _ _⟩⟩
  · rename_i hn
    exact (disk_crash F g s A ds c w H.da H.ok (draws_seg hs H.back H.ff) (by omega) hc).mono fun e w' ⟨he, hp⟩ => ⟨he, H.disk hp (H.ok.crashed ds)⟩
theorem DuoK.crash2 (A : Option Addr) (ds : List Int) (c : Nat) (hs : SegG w0 icell (.slice A ds.length c) ds) (hm : ds.length ≤ 140737488351232) :
    Calls Tryd.prog 43 #[.pointer (some ⟨h, 0, none⟩), .slice A ds.length c] w fun e w' => e = .returned (.int .i64 (r.crashD ds).2) ∧ DuoK w0 w' F g G h s (r.crashD ds).1 ∧ Kept w w' (FG F G) := by
  unfold DkS.crashD
  split
  · rename_i hn
    exact (refd_crash_long h A ds.length c w hn (by omega)).mono fun e w' ⟨he, hw⟩ => ⟨he, by subst hw; exact ⟨H, Kept.refl _ _⟩⟩
  · rename_i hn
    exact (refd_crash G h r A ds c w H.ra H.rok (draws_seg hs H.back H.gg) (by omega)).mono fun e w' ⟨he, hp⟩ => ⟨he, H.refG hp (H.rok.crashed ds)⟩
end
end Go.Proofs.YtaghdopickgpgaaDoor
