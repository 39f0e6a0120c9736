import Derived.Test.YtaghdopickgpgaaDoorDkG
namespace Go.Proofs.YtaghdopickgpgaaDoor
open Go Go.RowKit
set_option linter.unusedVariables false
set_option linter.unusedSimpArgs false

/-- Append: the disk behind it, what it answers. -/
def DkS.tight (s : DkS) (k d : ByteArray) : Prop := s.room - s.used < (d.size : Int) ∨ ((look s.fs k).isSome = false ∧ 64 ≤ s.fs.length)
instance (s : DkS) (k d : ByteArray) : Decidable (s.tight k d) := by unfold DkS.tight; infer_instance
def DkS.append (s : DkS) (k d : ByteArray) : DkS × Int :=
  if okName k = false then (s, 20) else if s.tight k d then (s, 22) else if s.tick.down = true then (s.tick, 21) else (s.tick.set k ⟨(fileAt s.fs k).has ++ d, (fileAt s.fs k).safe⟩, 0)
set_option maxRecDepth 100000 in
set_option maxHeartbeats 1000000 in
theorem disk_append (F : Nat → Prop) (g : Nat) (s : DkS) (k d : ByteArray) (w : World) (h : DkAt w F g s) (hs : s.Ok) (hk : k.size ≤ maxLen) (hd : d.size ≤ 140737488351232) :
    Calls Tryd.prog 12 #[.pointer (some ⟨g, 0, none⟩), .string k, .string d] w fun e w' => e = .returned (.int .i64 (s.append k d).2) ∧ DkPost w F g (s.append k d).1 w' := by
  have H := Lib.hid h
  have hnx : ¬ F w.heap.size := fun hF => absurd (h.foot hF) (Nat.lt_irrefl _)
  have HNX := Lib.hid hnx
  have HREADY := Lib.hid (fun W (hW : DkAt W F g s) => disk_ready F g s W hW hs.l0 hs.l1)
  have HSET := Lib.hid (fun (hu : (d.size : Int) ≤ 262144) W (hW : DkAt W F g s.tick) => disk_set F g s.tick k ⟨(fileAt s.fs k).has ++ d, (fileAt s.fs k).safe⟩ W hW hk hs.tick.u0 (by have := hs.tick.u1; have := hs.tick.r1; omega) (by have := hs.file_le' k; simp only [ByteArray.size_append]; omega) (by have := hs.tick.file_le' k; omega) hs.tick.n)
  have hfo := hs.file_le k
  have hu0 := hs.u0
  have hu1 := hs.u1
  have hr1 := hs.r1
  have hr0 := hs.r0
  have hn64 := hs.n
  obtain ⟨R, hR⟩ : ∃ R, s.append k d = R := ⟨_, rfl⟩
  rw [hR]
  unfold DkS.append at hR
  obtain ⟨b, hb, hm, hg, f1, fz⟩ := h
  have hne := blk_map hb hm
  have hlt := hb.lt
  have c2 := hb.cell 2
  have hl := fileOk_run hm k hk
  have MAY := Lib.hid (fun W n hn => may_one k W n hn hk)
  have HB := Lib.hid hb
  have HM := Lib.hid hm
  have HT := Lib.hid (show (s.tight k d) ↔ (s.room - s.used < (d.size : Int) ∨ ((look s.fs k).isSome = false ∧ 64 ≤ s.fs.length)) from Iff.rfl)
  generalize fileAt s.fs k = fo at *
  generalize (look s.fs k).isSome = q at *
  generalize okName k = p at *
  generalize hs3 : s.tick.set k ⟨fo.has ++ d, fo.safe⟩ = s3 at *
  clear hs3
  generalize s.tick = s2 at *
  have HR := Lib.hid hR
  clear hR hs hb hm fz hnx
  go_enter Tryd.func12, Tryd.ntmps12
  go_wp2_with (fail)
  have hmay := MAY.out (w.alloc (.cells #[.string fo.has, .int .i64 fo.safe] 64)) _ (by simp; rfl)
  refine hmay.mono ?_
  rintro e w1 ⟨rfl, hb1⟩
  have hbw := ((Below.refl w.heap.size w).alloc (Nat.le_refl _) (.cells #[.string fo.has, .int .i64 fo.safe] 64)).trans (hb1.mono (by simp))
  have hX1 := Lib.hid ((Blk.new w 64 #[.string fo.has, .int .i64 fo.safe]).kept (Kept.of_below hb1 fun _ => False) (fun h => h))
  have HP1 := Lib.hid (DkPost.of_below H.out hbw)
  have hB1 := HB.out.kept (Kept.of_below hbw fun _ => False) (fun h => h)
  have hM1 := HM.out.kept (Kept.of_below hbw fun _ => False) (fun h => h)
  have d0 := hB1.cell 0
  have d1 := hB1.cell 1
  have d2 := hB1.cell 2
  have hlt1 := hB1.lt
  have hlen : ∀ n, (Builtin.len_ #[60] 3 #[.map (some b)]).run Tryd.prog (w1.drewN n) = .ok (.int .i64 s.fs.length) (w1.drewN n) := fun n => (hM1.drewN n).len_run Tryd.underlying60
  clear hmay hl c2 hb1 hbw hB1 hM1
  have hw1 : IntKind.i64.wrap (s.room - s.used) = s.room - s.used := by rw [IntKind.wrap_i64]; omega
  cases p with
  | false =>
    obtain rfl : (s, (20 : Int)) = R := HR.out
    go_wp2
    go_ret
    exact ⟨rfl, HP1.out⟩
  | true =>
    by_cases h1 : s.room - s.used < (d.size : Int)
    · have hq := HR.out
      rw [if_neg (show ¬ true = false by simp), if_pos (HT.out.2 (.inl h1))] at hq
      obtain rfl : (s, (22 : Int)) = R := hq
      go_wp2_with (fail)
      go_quiet (fail)
      go_wp2
      go_ret
      exact ⟨rfl, HP1.out.1.drewN _, HP1.out.2.kept ((Kept.refl w1 fun _ => False).drewN _) (fun _ _ _ h => h)⟩
    · have h2 : (d.size : Int) ≤ s.room - s.used := by omega
      cases q with
      | false =>
        by_cases h3 : 64 ≤ s.fs.length
        · have hq := HR.out
          rw [if_neg (show ¬ true = false by simp), if_pos (HT.out.2 (.inr ⟨rfl, h3⟩))] at hq
          obtain rfl : (s, (22 : Int)) = R := hq
          have h4 : (64 : Int) ≤ (s.fs.length : Int) := by omega
          go_wp2_with (fail)
          go_quiet (fail)
          go_wp2
          go_ret
          exact ⟨rfl, HP1.out.1.drewN _, HP1.out.2.kept ((Kept.refl w1 fun _ => False).drewN _) (fun _ _ _ h => h)⟩
        · have h4 : (s.fs.length : Int) < (64 : Int) := by omega
          have HR2 := Lib.hid (show (if s2.down = true then (s2, 21) else (s3, (0 : Int))) = R from by have e := HR.out; rw [if_neg (show ¬ true = false by simp), if_neg (fun e => by rcases HT.out.1 e with e | e <;> omega)] at e; exact e)
          go_wp2_with (fail)
          go_quiet (fail)
          have HP2 := Lib.hid (show DkPost w F g s (w1.drewN nq) from ⟨HP1.out.1.drewN _, HP1.out.2.kept ((Kept.refl w1 fun _ => False).drewN _) (fun _ _ _ h => h)⟩)
          have HX2 := Lib.hid (hX1.out.drewN nq)
          have hr := HREADY.out _ HP2.out.2
          cases hd2 : s2.down with
          | true =>
            have hq := HR2.out
            rw [hd2] at hq
            obtain rfl : (s2, (21 : Int)) = R := hq
            rw [hd2] at hr
            go_wp2_with (fail)
            refine hr.mono ?_
            rintro e w2 ⟨rfl, hp⟩
            have HP3 := Lib.hid hp
            clear hp hr
            go_wp2
            go_ret
            exact ⟨rfl, HP2.out.then_ HP3.out⟩
          | false =>
            have hq := HR2.out
            rw [hd2] at hq
            obtain rfl : (s3, (0 : Int)) = R := hq
            rw [hd2] at hr
            go_wp2_with (fail)
            refine hr.mono ?_
            rintro e w2 ⟨rfl, hp⟩
            have hX3 := HX2.out.kept hp.1 HNX.out
            have y0 := hX3.cell 0
            have y1 := hX3.cell 1
            have yz0 := hX3.frozen 0
            have HP3 := Lib.hid (HP2.out.then_ hp)
            have HX4 := Lib.hid (hX3.set_ 0 (.string (fo.has ++ d)))
            have HK4 := Lib.hid ((Kept.refl w2 fun k => k = w.heap.size).setCell (p := ⟨w.heap.size, 0, none⟩) (.inl rfl) (.string (fo.has ++ d)))
            have hxl := hX3.lt
            have hcat : fo.has.size + d.size ≤ 140737488351232 := by omega
            clear hp hr hX3 HX2 hlen
            have hset := HSET.out (by omega) (w2.setCell ⟨w.heap.size, 0, none⟩ (.string (fo.has ++ d))) (HP3.out.2.kept HK4.out (fun k _ hk e => HNX.out (e ▸ hk)))
            have z0 := HX4.out.cell 0
            have z1 := HX4.out.cell 1
            go_wp2_with (fail)
            refine hset.mono ?_
            rintro e w4 ⟨rfl, hp⟩
            have HP4 := Lib.hid hp
            clear hp hset
            go_wp2
            go_ret
            exact ⟨rfl, (HP3.out.1.setCell (.inr (Nat.le_refl _)) _).trans HP4.out.1, HP4.out.2⟩
      | true =>
        have HR2 := Lib.hid (show (if s2.down = true then (s2, 21) else (s3, (0 : Int))) = R from by have e := HR.out; rw [if_neg (show ¬ true = false by simp), if_neg (fun e => by rcases HT.out.1 e with e | e <;> first | omega | exact absurd e.1 (by simp))] at e; exact e)
        go_wp2_with (fail)
        go_quiet (fail)
        have HP2 := Lib.hid (show DkPost w F g s (w1.drewN nq) from ⟨HP1.out.1.drewN _, HP1.out.2.kept ((Kept.refl w1 fun _ => False).drewN _) (fun _ _ _ h => h)⟩)
        have HX2 := Lib.hid (hX1.out.drewN nq)
        have hr := HREADY.out _ HP2.out.2
        cases hd2 : s2.down with
        | true =>
          have hq := HR2.out
          rw [hd2] at hq
          obtain rfl : (s2, (21 : Int)) = R := hq
          rw [hd2] at hr
          go_wp2_with (fail)
          refine hr.mono ?_
          rintro e w2 ⟨rfl, hp⟩
          have HP3 := Lib.hid hp
          clear hp hr
          go_wp2
          go_ret
          exact ⟨rfl, HP2.out.then_ HP3.out⟩
        | false =>
          have hq := HR2.out
          rw [hd2] at hq
          obtain rfl : (s3, (0 : Int)) = R := hq
          rw [hd2] at hr
          go_wp2_with (fail)
          refine hr.mono ?_
          rintro e w2 ⟨rfl, hp⟩
          have hX3 := HX2.out.kept hp.1 HNX.out
          have y0 := hX3.cell 0
          have y1 := hX3.cell 1
          have yz0 := hX3.frozen 0
          have HP3 := Lib.hid (HP2.out.then_ hp)
          have HX4 := Lib.hid (hX3.set_ 0 (.string (fo.has ++ d)))
          have HK4 := Lib.hid ((Kept.refl w2 fun k => k = w.heap.size).setCell (p := ⟨w.heap.size, 0, none⟩) (.inl rfl) (.string (fo.has ++ d)))
          have hxl := hX3.lt
          have hcat : fo.has.size + d.size ≤ 140737488351232 := by omega
          clear hp hr hX3 HX2 hlen
          have hset := HSET.out (by omega) (w2.setCell ⟨w.heap.size, 0, none⟩ (.string (fo.has ++ d))) (HP3.out.2.kept HK4.out (fun k _ hk e => HNX.out (e ▸ hk)))
          have z0 := HX4.out.cell 0
          have z1 := HX4.out.cell 1
          go_wp2_with (fail)
          refine hset.mono ?_
          rintro e w4 ⟨rfl, hp⟩
          have HP4 := Lib.hid hp
          clear hp hset
          go_wp2
          go_ret
          exact ⟨rfl, (HP3.out.1.setCell (.inr (Nat.le_refl _)) _).trans HP4.out.1, HP4.out.2⟩
end Go.Proofs.YtaghdopickgpgaaDoor
