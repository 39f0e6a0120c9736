import Derived.Test.YtodplpjoonkniaaW9
import Derived.Deep.RegionLaw
namespace Go.Proofs.Ytodplpjoonkniaa
open Go Go.RowKit
set_option linter.unusedVariables false
set_option linter.unusedSimpArgs false

theorem hiL_snoc (x : Int) (l : List Int) (k : Nat) (hk : k < l.length) : maxL x (l.take (k + 1)) = if maxL x (l.take k) < l[k] then l[k] else maxL x (l.take k) := by
  rw [List.take_succ_eq_append_getElem hk]; exact maxL_append _ _ _
theorem loL_snoc (x : Int) (l : List Int) (k : Nat) (hk : k < l.length) : minL x (l.take (k + 1)) = if l[k] < minL x (l.take k) then l[k] else minL x (l.take k) := by
  rw [List.take_succ_eq_append_getElem hk]; exact minL_append _ _ _

set_option maxHeartbeats 1000000 in
theorem rapart_any (g b : Nat) (ts : List Int) (wd : Int) (w : World) (h : Rlk w g b ts wd) (hg : Good ts) :
    Calls Try.prog 22 #[.pointer (some ⟨g, 0, none⟩)] w fun e w' => e = .returned (.int .i64 (wrap64 (hiL ts - loL ts))) ∧ ∃ n, w' = w.drewN n := by
  obtain ⟨⟨c, hb⟩, hi⟩ := h
  have hc : w.cell? ⟨g, 0, none⟩ = some (.slice (some ⟨b, 0, none⟩) ts.length c) := hb.cell 0
  cases ts with
  | nil => have := hg.pos; simp at this
  | cons x l =>
    have hx : w.cell? ⟨b, 0, none⟩ = some (.int .i64 x) := hi.cell rfl
    have hl : l.length ≤ 15 := by have := hg.len; simp at this; omega
    simp only [List.length_cons] at hc
    have HI := Lib.hid hi
    have h0 : 0 < l.length + 1 := by omega
    clear hb hi hg
    go_enter Try.func22, Try.ntmps22
    go_wp2
    go_quiet (fail)
    go_wp2
    have hlx : l.length + 1 ≤ 16 := by omega
    go_loop [5, 3, 4] (fun i lo hi => ∃ k : Nat, k ≤ l.length + 1 ∧ i = .int .i64 k ∧ lo = .int .i64 (minL x ((x :: l).take k)) ∧ hi = .int .i64 (maxL x ((x :: l).take k))) (fun i _ _ => l.length + 1 - (intOf i).toNat)
    case atStart => exact ⟨0, by omega, rfl, rfl, rfl⟩
    case round =>
      obtain ⟨k, hk, rfl, rfl, rfl⟩ := hrel
      by_cases hlt : k < l.length + 1
      · have hkl : k < (x :: l).length := by simpa using hlt
        have hcx : w.cell? ⟨b, k, none⟩ = some (.int .i64 (x :: l)[k]) := HI.out.cell (List.getElem?_eq_getElem hkl)
        have HM := Lib.hid (hiL_snoc x (x :: l) k hkl)
        have HN := Lib.hid (loL_snoc x (x :: l) k hkl)
        obtain ⟨y, hy⟩ : ∃ y, (x :: l)[k] = y := ⟨_, rfl⟩
        rw [hy] at hcx HM HN
        obtain ⟨m1, hm1⟩ : ∃ m, minL x ((x :: l).take k) = m := ⟨_, rfl⟩
        obtain ⟨m2, hm2⟩ : ∃ m, maxL x ((x :: l).take k) = m := ⟨_, rfl⟩
        rw [hm2] at HM
        rw [hm1] at HN
        rw [hm1, hm2]
        clear hy hm1 hm2 hkl
        go_wp2
        go_round
        case rel => exact ⟨k + 1, by omega, by go_num, by rw [HN.out], by rw [HM.out]⟩
        case measure => simp [intOf]; omega
      · have hke : k = l.length + 1 := by omega
        have e1 : (x :: l).take k = x :: l := List.take_of_length_le (by simp; omega)
        rw [e1]
        clear e1 hke
        go_wp2
        go_ret
        refine ⟨ret_int ?_, ⟨_, rfl⟩⟩
        simp [hiL, loL, maxL, minL]

theorem rall_any (g b : Nat) (ts : List Int) (wd n : Int) (w : World) (h : Rlk w g b ts wd) (hg : Good ts) :
    Calls Try.prog 18 #[.pointer (some ⟨g, 0, none⟩), .int .i64 n] w fun e w' => e = .returned (.int .i64 (alE ts n)) ∧ Rlk w' g b (alT ts n) wd ∧ Kept w w' (fun j => j = b) := by
  by_cases hn : n < 0
  · simp only [alE, alT, if_pos hn]
    have H := Lib.hid h
    clear h
    go_enter Try.func18, Try.ntmps18
    go_wp2
    go_ret
    exact ⟨rfl, H.out, Kept.refl _ _⟩
  have hn0 : 0 ≤ n := by omega
  have hsp := hiL_spec hg.pos
  have H := Lib.hid h
  have hne := h.ne
  obtain ⟨⟨c, hb⟩, hi⟩ := h
  have hc : w.cell? ⟨g, 0, none⟩ = some (.slice (some ⟨b, 0, none⟩) ts.length c) := hb.cell 0
  have HB := Lib.hid hb
  have HI := Lib.hid hi
  have HG := Lib.hid hg
  have HS := Lib.hid hsp
  have HN := Lib.hid hne
  have hl := hg.len
  clear hb hi hg hsp hne hn
  go_enter Try.func18, Try.ntmps18
  go_wp2
  go_loop [5] (fun i => ∃ k : Nat, k ≤ ts.length ∧ i = .int .i64 k ∧ Hid (∀ (j : Nat) (y : Int), j < k → ts[j]? = some y → n ≤ 1073741824 - y)) (fun i => ts.length - (intOf i).toNat)
  case atStart => exact ⟨0, by omega, rfl, fun j y hj => absurd hj (by omega)⟩
  case round =>
    obtain ⟨k, hk, rfl, HK⟩ := hrel
    by_cases hlt : k < ts.length
    · have hx := List.getElem?_eq_getElem hlt
      obtain ⟨y, hy⟩ : ∃ y, ts[k] = y := ⟨_, rfl⟩
      rw [hy] at hx
      have hcx := HI.out.cell hx
      have hym := List.mem_of_getElem? hx
      have hy0 := HG.out.lo _ hym
      have hy1 := HG.out.hi _ hym
      have HX := Lib.hid hx
      have HYM := Lib.hid hym
      clear hx hy hym
      by_cases hbig : 1073741824 - y < n
      · go_wp2
        go_ret
        have hm := HS.out.2 y HYM.out
        have h1 : n > 1073741824 - hiL ts := by omega
        simp only [alE, alT, if_neg (Int.not_lt.2 hn0), if_pos h1]
        exact ⟨rfl, H.out, Kept.refl _ _⟩
      · have hbig' : n ≤ 1073741824 - y := by omega
        clear hbig
        go_wp2
        go_round
        case rel =>
          refine ⟨k + 1, by omega, by go_num, fun j z hj hz => ?_⟩
          by_cases e : j = k
          · subst e; rw [HX.out] at hz; injection hz with hz; omega
          · exact HK.out j z (by omega) hz
        case measure => simp [intOf]; omega
    · have hmax : Hid (n ≤ 1073741824 - hiL ts) := by
        obtain ⟨j, hj⟩ := List.mem_iff_getElem?.1 HS.out.1
        have hjl := (List.getElem?_eq_some_iff.1 hj).1
        have := HK.out j _ (by omega) hj
        unfold Hid; omega
      have hn2 : n ≤ 1073741824 := by have h1 := hmax.out; have := HG.out.hiL; omega
      go_wp2
      go_loopw [6] (fun i wr => ∃ k : Nat, k ≤ ts.length ∧ i = .int .i64 k ∧ Hid (Ints wr b (addK n k ts)) ∧ Hid (Kept w wr (fun j => j = b))) (fun i _ => ts.length - (intOf i).toNat)
      case atStart => exact ⟨0, by omega, rfl, HI.out, Kept.refl _ _⟩
      case round =>
        obtain ⟨k2, hk2, rfl, HI2, HK2⟩ := hrel
        have hcr : wr.cell? ⟨g, 0, none⟩ = some (.slice (some ⟨b, 0, none⟩) ts.length c) := by rw [HK2.out.cell (HB.out.lt) HN.out]; exact hc
        by_cases hlt2 : k2 < ts.length
        · have hx := List.getElem?_eq_getElem hlt2
          obtain ⟨y, hy⟩ : ∃ y, ts[k2] = y := ⟨_, rfl⟩
          rw [hy] at hx
          have hym := List.mem_of_getElem? hx
          have hy0 := HG.out.lo _ hym
          have hy2 : y + n ≤ 1073741824 := by have := HS.out.2 y hym; have := hmax.out; omega
          have hcx : wr.cell? ⟨b, k2, none⟩ = some (.int .i64 y) := HI2.out.cell (addK_get n k2 _ y hx)
          have hfx : wr.frozen? ⟨b, k2, none⟩ = false := HI2.out.frozen k2
          have HX := Lib.hid hx
          clear hx hy hym
          go_wp2
          go_roundw
          case rel =>
            refine ⟨k2 + 1, by omega, by go_num, ?_, ?_⟩
            · have := HI2.out.set_ k2 (by rw [addK_length]; exact hlt2) (y + n)
              rw [addK_set n k2 _ y HX.out] at this
              exact this
            · exact HK2.out.setCell (.inl rfl) _
          case measure => simp [intOf]; omega
        · have e : k2 = ts.length := by omega
          have hI := HI2.out
          rw [e, addK_all] at hI
          have HII := Lib.hid hI
          clear hI e
          go_wp2
          go_ret
          simp only [alE, alT, if_neg (Int.not_lt.2 hn0), if_neg (Int.not_lt.2 hmax.out)]
          exact ⟨rfl, ⟨⟨c, by simpa using HB.out.kept HK2.out HN.out⟩, HII.out⟩, HK2.out⟩

theorem step_append_own {P : Program} {ops : Array Oper} {o : Oper} {a : Act} {w : World} {K : Act → World → Prop} {Q : Exit → Act → World → Prop} {E : Prop}
    (hg : o.guard = none) (s x : Operand) (t : TypeId) (ho : o.op = .call { callee := .builtin .append, args := #[s, x], argTypes := #[t, t] })
    (base : Nat) (e : TypeId) (i : TypeInfo) (z : Value) (size bytes : Nat) (ht : P.underlying t = some (.slice e)) (hi : P.info? e = some i) (hz : i.zero = some z)
    (hsize : i.size = size) (hby : i.bytes = bytes) (hzs : z.cells.size = size) (hsz : 0 < size)
    (v : Value) (n : Nat) (xs : List Value) (hs : a.eval s = v) (hown : w.ownsRow base e size v n xs)
    (ad : Addr) (m c : Nat) (news : List Value) (hx : a.eval x = .slice (some ad) m c) (hl : news.length = m * size) (hnews : ∀ j u, news[j]? = some u → w.cell? (ad.add j) = some u) (h1 : ∀ u ∈ news, u.oneCell' = true)
    (h63 : n + m ≤ maxLen) (hbytes : (n + m) * bytes ≤ 140737488355328) (hbase : base ≤ w.heap.size)
    (h : ∀ v' w', w'.ownsRow base e size v' (n + m) (xs ++ news) → w.grownBy w' v.ownBlock → K (a.put o.dst v') w') :
    if Region.wanted o (yielded ops a.tmps) = true then Oper.wp P o a w K Q else E := by
  have hw : Region.wanted o (yielded ops a.tmps) = true := by simp [Region.wanted, hg]
  rw [if_pos hw]
  exact wp_append_own w s x t ho base e i z size bytes ht hi hz hsize hby hzs hsz v n xs hs hown ad m c news hx hl hnews h1 h63 hbytes hbase (fun v' w' h2 h3 _ => h v' w' h2 h3)

set_option maxHeartbeats 1000000 in
theorem rfork_any (g b : Nat) (ts : List Int) (wd : Int) (w : World) (h : Rlk w g b ts wd) (hg : Good ts) :
    Calls Try.prog 21 #[.pointer (some ⟨g, 0, none⟩)] w fun e w' => ∃ g' b', e = .returned (.pointer (some ⟨g', 0, none⟩)) ∧ Rlk w' g' b' ts wd ∧ w.heap.size ≤ g' ∧ w.heap.size ≤ b' ∧ Below w.heap.size w w' := by
  obtain ⟨i0, hi0, hz0, hz1, hz2⟩ := info_parts info3
  obtain ⟨⟨c, h1⟩, h2⟩ := h
  have hc0 : w.cell? ⟨g, 0, none⟩ = some (.slice (some ⟨b, 0, none⟩) ts.length c) := h1.cell 0
  have hc1 : w.cell? ⟨g, 1, none⟩ = some (.int .u64 wd) := h1.cell 1
  have hlt := h1.lt
  have hltb := h2.lt
  have HC1 := Lib.hid hc1
  have hcells : ∀ j u, (ts.map (Value.int .i64))[j]? = some u → w.cell? ((⟨b, 0, none⟩ : Addr).add j) = some u := by
    intro j u hu
    rw [List.getElem?_map] at hu
    obtain ⟨x, hx, rfl⟩ := Option.map_eq_some_iff.1 hu
    have : (⟨b, 0, none⟩ : Addr).add j = ⟨b, j, none⟩ := by unfold Addr.add; split <;> simp_all
    rw [this]
    exact h2.cell hx
  have HCC := Lib.hid hcells
  have HG := Lib.hid hg
  have hl16 := hg.len
  have hl0 := hg.pos
  clear h1 h2 hcells hg
  go_enter Try.func21, Try.ntmps21
  go_wp2
  go_region_law (refine step_append_own rfl (.tmp 3) (.tmp 7) 31 rfl w.heap.size 3 i0 (.int .i64 0) 1 8 Try.underlying31 hi0 hz0 hz1 hz2 rfl (by decide) (.slice (some ⟨w.heap.size, 0, none⟩) 0 0) 0 [] (by simp [Act.eval, Act.put]) (World.ownsRow_made w.drew #[] 0 (Nat.le_refl _) (by decide) rfl) ⟨b, 0, none⟩ ts.length c (ts.map (Value.int .i64)) (by simp [Act.eval, Act.put]) (by simp) (fun j u hu => (World.cell?_alloc_lt w.drew _ _ (by unfold Addr.add; split <;> exact hltb)).trans (HCC.out j u hu)) (fun u hu => by obtain ⟨x, _, rfl⟩ := List.mem_map.1 hu; rfl) (by simp only [maxLen]; omega) (by omega) (by simp) ?_; intro v' w1 hown hgr; have hc1w : w1.cell? ⟨g, 1, none⟩ = some (.int .u64 wd) := hgr.cell ((World.cell?_alloc_lt w.drew _ ⟨g, 1, none⟩ hlt).trans HC1.out) (by simp [Value.ownBlock]; omega); have hO : w1.ownsRow w.heap.size 3 1 v' ts.length (ts.map (Value.int .i64)) := (by simpa using hown); obtain ⟨g1, cap, hv, hb, hI⟩ := ints_of_own hO hl0; subst hv; have HI := Lib.hid hI; have HGR := Lib.hid hgr; clear hown hgr hO hI)
  all_goals
    go_wp2
    go_ret
    have hB : Below w.heap.size w w1 := ((Below.refl w.heap.size w).drew.alloc (Nat.le_refl _) _).grown HGR.out (by simp) (fun k hk => by simp [Value.ownBlock] at hk; omega)
    refine ⟨_, g1, rfl, ⟨⟨cap, by simpa using Blk.new w1 59 _⟩, HI.out.alloc _⟩, hB.size, hb, hB.alloc hB.size _⟩
end Go.Proofs.Ytodplpjoonkniaa
