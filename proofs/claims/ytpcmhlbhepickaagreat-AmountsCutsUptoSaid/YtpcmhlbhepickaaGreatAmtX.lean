import Derived.Test.YtpcmhlbhepickaaGreatAmtV
/- amounts.awards of lexpriorlaw24.one's statute and ground: two amounts of one atom -/
namespace Go.Proofs.YtpcmhlbhepickaaGreat
open Go.Shelf Go.RowKit Go.Lib
set_option linter.unusedVariables false
set_option linter.unusedSimpArgs false
set_option maxHeartbeats 8000000 in
set_option maxRecDepth 100000 in
theorem awards_two (B mb : Nat) (w : World) (h : Am.Gr w B) (k0 : w.cell? ⟨mb, 0, none⟩ = some (.int .u8 4)) (k1 : w.cell? ⟨mb, 1, none⟩ = some (.int .u8 4)) :
    Calls Tryz.prog 30 #[.agg (Am.stat B), .agg (Am.ground B), .slice (some ⟨mb, 0, none⟩) 2 2] w fun e w' => e = .returned (.tuple #[.slice none 0 0, .int .i64 241]) ∧ Below w.heap.size w w' := by
  obtain ⟨W1, hW1⟩ : ∃ W1, w.alloc (Obj.cells (Am.stat B) 63) = W1 := ⟨_, rfl⟩
  obtain ⟨W, hW⟩ : ∃ W, W1.alloc (Obj.cells (Am.ground B) 72) = W := ⟨_, rfl⟩
  have s1 : W1.heap.size = w.heap.size + 1 := by rw [← hW1]; exact size_new _ _
  have b1 : Below w.heap.size w W1 := by rw [← hW1]; exact (Below.refl _ w).alloc (Nat.le_refl _) _
  have b2 : Below W1.heap.size W1 W := by rw [← hW]; exact (Below.refl _ W1).alloc (Nat.le_refl _) _
  have HB := Lib.hid (below_next b1 b2)
  have HS := Lib.hid (show Am.St W B w.heap.size (w.heap.size + 1) mb 4 from ⟨h.below HB.out, (b2.block _ (by omega)).trans (by rw [← hW1]; exact heap_alloc_new w _), by rw [← hW, ← s1]; exact heap_alloc_new W1 _, keep_cell k0 HB.out, keep_cell k1 HB.out⟩)
  have HRC := Lib.hid (rcheck_ok B W HS.out.gr.one)
  obtain ⟨s0, s1', s2, s3, s4, s5, s6, s7, s8⟩ := HS.out.sc
  have HMB := Lib.hid (And.intro h.one.lt (World.block_lt_of_cell? w _ k0))
  unfold Am.stat at hW1
  unfold Am.ground at hW
  unfold Am.stat at HRC
  unfold Am.stat Am.ground
  have S1 := Lib.hid s1
  clear h k0 k1 b1 b2 s1
  go_enter Tryz.func30, Tryz.ntmps30
  go_upto_region 1 with (fail)
  rw [S1.out]
  clear hW1 hW S1
  go_upto_region 4 with (first | (go_at_call 36; refine HRC.out.mono ?_; rintro e w1 ⟨rfl, hb⟩))
  have HB1 := Lib.hid (below_next HB.out hb)
  have HS1 := Lib.hid (HS.out.below hb)
  clear hb HRC HS HB s0 s1' s2 s3 s4 s5 s6 s7 s8
  have g0 := HS1.out.gc
  go_upto_region 7 with (fail)
  clear g0
  go_loopw [36] (fun v wr => ∃ k : Nat, k ≤ 2 ∧ v = .int .i64 k ∧ Am.St wr B w.heap.size (w.heap.size + 1) mb 4 ∧ Below w.heap.size w wr) (fun v _ => 2 - (intOf v).toNat)
  case atStart => exact ⟨0, Nat.zero_le _, rfl, HS1.out, HB1.out⟩
  case round =>
    obtain ⟨k, hk, rfl, hS, hb⟩ := hrel
    have HS := Lib.hid hS
    have HB := Lib.hid hb
    have gr := HS.out.gr.row
    clear hS hb HS1 HB1
    rcases (show k = 0 ∨ k = 1 ∨ k = 2 by omega) with rfl | rfl | rfl
    · have c0 : wr.cell? ⟨B + 12, 0, none⟩ = some (.bool false) := gr 0 _ rfl
      have c1 : wr.cell? ⟨B + 12, 1, none⟩ = some (.int .i64 0) := gr 1 _ rfl
      have c2 : wr.cell? ⟨B + 12, 2, none⟩ = some (.slice (some ⟨B + 10, 0, none⟩) 1 1) := gr 2 _ rfl
      have c3 : wr.cell? ⟨B + 12, 3, none⟩ = some (.int .i64 1000) := gr 3 _ rfl
      have c4 : wr.cell? ⟨B + 12, 4, none⟩ = some (.int .i64 0) := gr 4 _ rfl
      clear gr
      go_upto_region 9 with (fail)
      obtain ⟨X, hX⟩ : ∃ X, wr.alloc (Obj.cells #[.bool false, .int .i64 0, .slice (some ⟨B + 10, 0, none⟩) 1 1, .int .i64 1000, .int .i64 0] 99) = X := ⟨_, rfl⟩
      have bX : Below wr.heap.size wr X := by rw [← hX]; exact (Below.refl _ wr).alloc (Nat.le_refl _) _
      have HSX := Lib.hid (HS.out.below bX)
      have HBX := Lib.hid (below_next HB.out bX)
      have HL := Lib.hid (lcheck_ok B (B + 10) 1000 X HSX.out.gr.one (by decide) HSX.out.gr.one.a0)
      unfold Am.lit at HL
      have x0 : X.cell? ⟨wr.heap.size, 0, none⟩ = some (.bool false) := by rw [← hX]; exact blk_cell (heap_alloc_new wr _) 0 rfl
      have x1 : X.cell? ⟨wr.heap.size, 1, none⟩ = some (.int .i64 0) := by rw [← hX]; exact blk_cell (heap_alloc_new wr _) 1 rfl
      have x2 : X.cell? ⟨wr.heap.size, 2, none⟩ = some (.slice (some ⟨B + 10, 0, none⟩) 1 1) := by rw [← hX]; exact blk_cell (heap_alloc_new wr _) 2 rfl
      have x3 : X.cell? ⟨wr.heap.size, 3, none⟩ = some (.int .i64 1000) := by rw [← hX]; exact blk_cell (heap_alloc_new wr _) 3 rfl
      have x4 : X.cell? ⟨wr.heap.size, 4, none⟩ = some (.int .i64 0) := by rw [← hX]; exact blk_cell (heap_alloc_new wr _) 4 rfl
      obtain ⟨_, _, s2, s3, _, _, _, _, _⟩ := HSX.out.sc
      rw [hX]
      clear hX bX
      go_wp2_with (first | (go_at_call 37; refine HL.out.mono ?_; rintro e w2 ⟨rfl, hb⟩))
      go_roundw
      case rel => exact ⟨1, by decide, by first | rfl | go_num, HSX.out.below hb, below_next HBX.out hb⟩
      case measure => simp [intOf]

    · have c0 : wr.cell? ⟨B + 12, 5, none⟩ = some (.bool false) := gr 5 _ rfl
      have c1 : wr.cell? ⟨B + 12, 6, none⟩ = some (.int .i64 0) := gr 6 _ rfl
      have c2 : wr.cell? ⟨B + 12, 7, none⟩ = some (.slice (some ⟨B + 11, 0, none⟩) 1 1) := gr 7 _ rfl
      have c3 : wr.cell? ⟨B + 12, 8, none⟩ = some (.int .i64 2000) := gr 8 _ rfl
      have c4 : wr.cell? ⟨B + 12, 9, none⟩ = some (.int .i64 0) := gr 9 _ rfl
      clear gr
      go_upto_region 9 with (fail)
      obtain ⟨X, hX⟩ : ∃ X, wr.alloc (Obj.cells #[.bool false, .int .i64 0, .slice (some ⟨B + 11, 0, none⟩) 1 1, .int .i64 2000, .int .i64 0] 99) = X := ⟨_, rfl⟩
      have bX : Below wr.heap.size wr X := by rw [← hX]; exact (Below.refl _ wr).alloc (Nat.le_refl _) _
      have HSX := Lib.hid (HS.out.below bX)
      have HBX := Lib.hid (below_next HB.out bX)
      have HL := Lib.hid (lcheck_ok B (B + 11) 2000 X HSX.out.gr.one (by decide) HSX.out.gr.one.a1)
      unfold Am.lit at HL
      have x0 : X.cell? ⟨wr.heap.size, 0, none⟩ = some (.bool false) := by rw [← hX]; exact blk_cell (heap_alloc_new wr _) 0 rfl
      have x1 : X.cell? ⟨wr.heap.size, 1, none⟩ = some (.int .i64 0) := by rw [← hX]; exact blk_cell (heap_alloc_new wr _) 1 rfl
      have x2 : X.cell? ⟨wr.heap.size, 2, none⟩ = some (.slice (some ⟨B + 11, 0, none⟩) 1 1) := by rw [← hX]; exact blk_cell (heap_alloc_new wr _) 2 rfl
      have x3 : X.cell? ⟨wr.heap.size, 3, none⟩ = some (.int .i64 2000) := by rw [← hX]; exact blk_cell (heap_alloc_new wr _) 3 rfl
      have x4 : X.cell? ⟨wr.heap.size, 4, none⟩ = some (.int .i64 0) := by rw [← hX]; exact blk_cell (heap_alloc_new wr _) 4 rfl
      obtain ⟨_, _, s2, s3, _, _, _, _, _⟩ := HSX.out.sc
      rw [hX]
      clear hX bX
      go_wp2_with (first | (go_at_call 37; refine HL.out.mono ?_; rintro e w2 ⟨rfl, hb⟩))
      go_roundw
      case rel => exact ⟨2, by decide, by first | rfl | go_num, HSX.out.below hb, below_next HBX.out hb⟩
      case measure => simp [intOf]

    · clear gr
      have g0 := HS.out.gc
      go_upto_region 13 with (first | (go_at_call 38; refine (clone_lit ⟨B + 12, 0, none⟩ 2 2 (Am.litCells B).toList wr (by decide) (by decide) rfl (fun j u hj => by rw [addr_add]; exact HS.out.gr.row j u hj) (lit_one B)).mono ?_; rintro e w2 ⟨v, rfl, hown, hb⟩))
      obtain ⟨g, cap, rfl, hg, hcap, hlt, hrow⟩ := own_split hown (by decide)
      have HR := Lib.hid (show Am.LitRow w2 g B from hrow)
      have HS2 := Lib.hid (HS.out.below hb)
      have HB2 := Lib.hid (below_next HB.out hb)
      clear hown hrow hb HS HB g0
      go_upto_region 14 with (first | (go_at_call 39; refine (sort_lit2 g cap B w2 HR.out HS2.out.gr.one.a0 HS2.out.gr.one.a1).mono ?_; rintro e w3 ⟨rfl, hb⟩))
      have HR3 := Lib.hid (HR.out.below hb)
      have HS3 := Lib.hid (HS2.out.below hb)
      have HB3 := Lib.hid (below_next HB2.out hb)
      clear hb HR HS2 HB2
      go_upto_region 15 with (fail)
      go_loopw [13] (fun v wr => ∃ k : Nat, 1 ≤ k ∧ k ≤ 2 ∧ v = .int .i64 k ∧ (k = 1 → wr = w3) ∧ Am.St wr B w.heap.size (w.heap.size + 1) mb 4 ∧ Below w.heap.size w wr) (fun v _ => 2 - (intOf v).toNat)
      case atStart => exact ⟨1, Nat.le_refl _, by decide, rfl, fun _ => rfl, HS3.out, HB3.out⟩
      case round =>
        obtain ⟨k, hk1, hk, rfl, hw, hS, hb⟩ := hrel
        have HS := Lib.hid hS
        have HB := Lib.hid hb
        clear hS hb HS3 HB3
        by_cases hlt2 : k < 2
        · obtain rfl : k = 1 := by omega
          obtain rfl := hw rfl
          have r0 := HR3.out 0 _ rfl
          have r1 := HR3.out 1 _ rfl
          have r2 := HR3.out 2 _ rfl
          have r3 := HR3.out 3 _ rfl
          have r4 := HR3.out 4 _ rfl
          have r5 := HR3.out 5 _ rfl
          have r6 := HR3.out 6 _ rfl
          have r7 := HR3.out 7 _ rfl
          have r8 := HR3.out 8 _ rfl
          have r9 := HR3.out 9 _ rfl
          have HC := Lib.hid (fun w1 (b : Below wr.heap.size wr w1) => cmp12 B w1 (keep_cell HS.out.gr.one.a0 b) (keep_cell HS.out.gr.one.a1 b))
          clear hw
          go_upto_region 17 with (fail)
          go_region_held (fun w' => w'.cell? ⟨g, 0, none⟩ = some (.bool false) ∧ w'.cell? ⟨g, 1, none⟩ = some (.int .i64 0) ∧ w'.cell? ⟨g, 2, none⟩ = some (.slice (some ⟨B + 10, 0, none⟩) 1 1) ∧ w'.cell? ⟨g, 3, none⟩ = some (.int .i64 1000) ∧ w'.cell? ⟨g, 4, none⟩ = some (.int .i64 0) ∧ w'.cell? ⟨g, 5, none⟩ = some (.bool false) ∧ w'.cell? ⟨g, 6, none⟩ = some (.int .i64 0) ∧ w'.cell? ⟨g, 7, none⟩ = some (.slice (some ⟨B + 11, 0, none⟩) 1 1) ∧ w'.cell? ⟨g, 8, none⟩ = some (.int .i64 2000) ∧ w'.cell? ⟨g, 9, none⟩ = some (.int .i64 0))
            (first | go_keep | (go_split_ands; refine ⟨?_, ?_, ?_, ?_, ?_, ?_, ?_, ?_, ?_, ?_⟩ <;> exact keep_cell (by assumption) hb))
            (first | (go_at_call 40; refine (HC.out _ (by first | exact Below.refl _ _ | exact (Below.refl _ _).drew)).mono ?_; rintro e w4 ⟨rfl, hb⟩; have B1 := Lib.hid (show Below wr.heap.size wr w4 by first | exact hb | exact below_next (Below.refl _ _).drew hb)))
          go_wp2_with fail
          go_roundw
          case rel => exact ⟨2, by decide, Nat.le_refl _, by first | rfl | go_num, fun h => absurd h (by decide), HS.out.below B1.out, below_next HB.out B1.out⟩
          case measure => simp [intOf]
        · obtain rfl : k = 2 := by omega
          clear hw HR3
          have e2 : ((2 : Nat) : Int) = 2 := rfl
          rw [e2]
          clear e2
          have g0 := HS.out.gc
          go_upto_region 21 with (fail)
          clear g0
          go_loopw [14, 74] (fun v u wr => ∃ k : Nat, k ≤ 2 ∧ u = .int .i64 k ∧ ((k = 0 → v = .slice none 0 0) ∧ (k = 1 → ∃ q c, Am.Aw1 wr (w.heap.size + 2) v q c 1000 0) ∧ (k = 2 → ∃ q c q2 c2, Am.Aw2 wr (w.heap.size + 2) v q c 1000 0 q2 c2 2000 1)) ∧ Am.St wr B w.heap.size (w.heap.size + 1) mb 4 ∧ Below w.heap.size w wr) (fun _ u _ => 2 - (intOf u).toNat)
          case atStart => exact ⟨0, Nat.zero_le _, rfl, ⟨fun _ => rfl, fun h => absurd h (by decide), fun h => absurd h (by decide)⟩, HS.out, HB.out⟩
          case round =>
            obtain ⟨k, hk, rfl, hv, hS, hb⟩ := hrel
            clear HS HB
            have HS := Lib.hid hS
            have HB := Lib.hid hb
            have gr := HS.out.gr.row
            clear hS hb
            rcases (show k = 0 ∨ k = 1 ∨ k = 2 by omega) with rfl | rfl | rfl
            · obtain rfl := hv.1 (by decide)
              clear hv
              have c0 : wr.cell? ⟨B + 12, 0, none⟩ = some (.bool false) := gr 0 _ rfl
              have c1 : wr.cell? ⟨B + 12, 1, none⟩ = some (.int .i64 0) := gr 1 _ rfl
              have c2 : wr.cell? ⟨B + 12, 2, none⟩ = some (.slice (some ⟨B + 10, 0, none⟩) 1 1) := gr 2 _ rfl
              have c3 : wr.cell? ⟨B + 12, 3, none⟩ = some (.int .i64 1000) := gr 3 _ rfl
              have c4 : wr.cell? ⟨B + 12, 4, none⟩ = some (.int .i64 0) := gr 4 _ rfl
              clear gr
              go_upto_region 23 with (fail)
              obtain ⟨X, hX⟩ : ∃ X, wr.alloc (Obj.cells #[.bool false, .int .i64 0, .slice (some ⟨B + 10, 0, none⟩) 1 1, .int .i64 1000, .int .i64 0] 99) = X := ⟨_, rfl⟩
              have bX : Below wr.heap.size wr X := by rw [← hX]; exact (Below.refl _ wr).alloc (Nat.le_refl _) _
              have HSX := Lib.hid (HS.out.below bX)
              have HBX := Lib.hid (below_next HB.out bX)
              have x0 : X.cell? ⟨wr.heap.size, 0, none⟩ = some (.bool false) := by rw [← hX]; exact blk_cell (heap_alloc_new wr _) 0 rfl
              have x1 : X.cell? ⟨wr.heap.size, 1, none⟩ = some (.int .i64 0) := by rw [← hX]; exact blk_cell (heap_alloc_new wr _) 1 rfl
              have x2 : X.cell? ⟨wr.heap.size, 2, none⟩ = some (.slice (some ⟨B + 10, 0, none⟩) 1 1) := by rw [← hX]; exact blk_cell (heap_alloc_new wr _) 2 rfl
              have x3 : X.cell? ⟨wr.heap.size, 3, none⟩ = some (.int .i64 1000) := by rw [← hX]; exact blk_cell (heap_alloc_new wr _) 3 rfl
              have x4 : X.cell? ⟨wr.heap.size, 4, none⟩ = some (.int .i64 0) := by rw [← hX]; exact blk_cell (heap_alloc_new wr _) 4 rfl
              obtain ⟨_, _, _, s3, _, _, _, _, _⟩ := HSX.out.sc
              have p1 := HSX.out.gr.one.p1
              have k0 := HSX.out.k0
              have k1 := HSX.out.k1
              rw [hX]
              clear hX bX c0 c1 c2 c3 c4
              have HCl := Lib.hid (fun w1 (b : Below X.heap.size X w1) => clone_int ⟨B + 10, 0, none⟩ 1 1 [.int .i64 0] w1 (by decide) (by decide) rfl (fun j u hj => by match j, hj with | 0, hj => (obtain rfl : Value.int .i64 0 = u := by simpa using hj); exact keep_cell HSX.out.gr.one.a0 b) (by simp [Value.oneCell']))
              obtain ⟨i0, z0, hinfo, hz0, hz1, hz2, hz3⟩ := info_award
              go_upto_region 24 with (fail)
              go_region_held_law (fun w' => w'.cell? ⟨wr.heap.size, 1, none⟩ = some (.int .i64 0) ∧ w'.cell? ⟨wr.heap.size, 2, none⟩ = some (.slice (some ⟨B + 10, 0, none⟩) 1 1) ∧ w'.cell? ⟨wr.heap.size, 3, none⟩ = some (.int .i64 1000))
                (first | go_keep | (go_split_ands; refine ⟨?_, ?_, ?_⟩ <;> exact keep_cell (by assumption) hb) | (go_split_ands; refine ⟨?_, ?_, ?_⟩ <;> (refine hgrow.cell ?_ (by intro h; cases h); first | assumption | exact keep_cell (by assumption) (((Below.refl _ _).alloc (Nat.le_refl _) _).drew))))
                (first
                  | (go_at_call 41; refine (HCl.out _ (by first | exact Below.refl _ _ | exact (Below.refl _ _).drew)).mono ?_; rintro e w5 ⟨vq, rfl, hown, hb⟩; obtain ⟨q, c, rfl, hq1, hq2, hq3, hqr⟩ := own_split hown (by decide); have B5 := Lib.hid (show Below X.heap.size X w5 by first | exact hb | exact below_next (Below.refl _ _).drew hb); have HQ := Lib.hid (And.intro (hqr 0 _ rfl) (And.intro hq2 hq3)); clear hown hqr)
                  | (refine step_append_lies _ (by rfl) _ _ _ (by rfl) (w.heap.size + 2) 108 i0 z0 4 48 Tryz.underlying100 hinfo hz0 hz1 hz2 hz3 (by decide) (.slice none 0 0) 0 [] (by rfl) (World.ownsRow_nil _ _ _ _) ⟨w5.heap.size, 0, none⟩ 1 1 (Am.rowA q c 1000 0) (by rfl) (by rfl) (World.news_of_block (cs := #[.int .i64 0, .slice (some ⟨q, 0, none⟩) 1 c, .int .i64 1000, .int .i64 0]) (t := 108) (fr := (0, 0)) (heap_alloc_new w5 _)) (by simp [Am.rowA, Value.oneCell']) (by decide) (by decide) (by decide) (by have h1 := blk_lt HSX.out.g; have h2 := B5.out.size; simp; omega) (w5.heap.size + 1) (by simp) ?_; intro gg cap2 w6 hown6 hgrow hat hlt6))
              simp only [List.getElem_toArray, List.getElem_cons_succ, List.getElem_cons_zero, List.set_cons_succ, List.set_cons_zero, List.setIfInBounds_toArray]
              have b56 : Below w5.heap.size w5 w6 := ((Below.refl _ w5).alloc (Nat.le_refl _) _).grown hgrow (by simp) (fun k h => by cases h)
              have HA := Lib.hid (show Am.Aw1 w6 (w.heap.size + 2) (.slice (some ⟨gg, 0, none⟩) (0 + 1) cap2) q c 1000 0 from ⟨hown6, keep_cell HQ.out.1 b56, HQ.out.2.1, aw_ne HQ.out.2.2 (by intro h; cases h) hat⟩)
              have HS6 := Lib.hid ((HSX.out.below B5.out).below b56)
              have HB6 := Lib.hid (below_next (below_next HBX.out B5.out) b56)
              clear hown6 hgrow hat hlt6 b56 hb
              go_wp2_with fail
              go_roundw
              case rel => exact ⟨1, by decide, by first | rfl | go_num, ⟨fun h => absurd h (by decide), fun _ => ⟨q, c, HA.out⟩, fun h => absurd h (by decide)⟩, HS6.out, HB6.out⟩
              case measure => simp [intOf]

            · obtain ⟨q0, c0, hA⟩ := hv.2.1 rfl
              have HA0 := Lib.hid hA
              have hne : some wr.heap.size ≠ u14.ownBlock := fun e => by have := (hA.own.lt _ e.symm).2; omega
              clear hv hA
              have c0 : wr.cell? ⟨B + 12, 5, none⟩ = some (.bool false) := gr 5 _ rfl
              have c1 : wr.cell? ⟨B + 12, 6, none⟩ = some (.int .i64 0) := gr 6 _ rfl
              have c2 : wr.cell? ⟨B + 12, 7, none⟩ = some (.slice (some ⟨B + 11, 0, none⟩) 1 1) := gr 7 _ rfl
              have c3 : wr.cell? ⟨B + 12, 8, none⟩ = some (.int .i64 2000) := gr 8 _ rfl
              have c4 : wr.cell? ⟨B + 12, 9, none⟩ = some (.int .i64 0) := gr 9 _ rfl
              clear gr
              go_upto_region 23 with (fail)
              obtain ⟨X, hX⟩ : ∃ X, wr.alloc (Obj.cells #[.bool false, .int .i64 0, .slice (some ⟨B + 11, 0, none⟩) 1 1, .int .i64 2000, .int .i64 0] 99) = X := ⟨_, rfl⟩
              have bX : Below wr.heap.size wr X := by rw [← hX]; exact (Below.refl _ wr).alloc (Nat.le_refl _) _
              have BX := Lib.hid bX
              have HSX := Lib.hid (HS.out.below bX)
              have HBX := Lib.hid (below_next HB.out bX)
              have x0 : X.cell? ⟨wr.heap.size, 0, none⟩ = some (.bool false) := by rw [← hX]; exact blk_cell (heap_alloc_new wr _) 0 rfl
              have x1 : X.cell? ⟨wr.heap.size, 1, none⟩ = some (.int .i64 0) := by rw [← hX]; exact blk_cell (heap_alloc_new wr _) 1 rfl
              have x2 : X.cell? ⟨wr.heap.size, 2, none⟩ = some (.slice (some ⟨B + 11, 0, none⟩) 1 1) := by rw [← hX]; exact blk_cell (heap_alloc_new wr _) 2 rfl
              have x3 : X.cell? ⟨wr.heap.size, 3, none⟩ = some (.int .i64 2000) := by rw [← hX]; exact blk_cell (heap_alloc_new wr _) 3 rfl
              have x4 : X.cell? ⟨wr.heap.size, 4, none⟩ = some (.int .i64 0) := by rw [← hX]; exact blk_cell (heap_alloc_new wr _) 4 rfl
              obtain ⟨_, _, _, s3, _, _, _, _, _⟩ := HSX.out.sc
              have p1 := HSX.out.gr.one.p1
              have k0 := HSX.out.k0
              have k1 := HSX.out.k1
              rw [hX]
              clear hX bX c0 c1 c2 c3 c4
              have bX2 : Below wr.heap.size wr X := BX.out
              have HCl := Lib.hid (fun w1 (b : Below X.heap.size X w1) => clone_int ⟨B + 11, 0, none⟩ 1 1 [.int .i64 0] w1 (by decide) (by decide) rfl (fun j u hj => by match j, hj with | 0, hj => (obtain rfl : Value.int .i64 0 = u := by simpa using hj); exact keep_cell HSX.out.gr.one.a1 b) (by simp [Value.oneCell']))
              obtain ⟨i0, z0, hinfo, hz0, hz1, hz2, hz3⟩ := info_award
              go_upto_region 24 with (fail)
              go_region_held_law (fun w' => w'.cell? ⟨wr.heap.size, 1, none⟩ = some (.int .i64 0) ∧ w'.cell? ⟨wr.heap.size, 2, none⟩ = some (.slice (some ⟨B + 11, 0, none⟩) 1 1) ∧ w'.cell? ⟨wr.heap.size, 3, none⟩ = some (.int .i64 2000))
                (first | go_keep | (go_split_ands; refine ⟨?_, ?_, ?_⟩ <;> exact keep_cell (by assumption) hb) | (go_split_ands; refine ⟨?_, ?_, ?_⟩ <;> (refine hgrow.cell ?_ hne; first | assumption | exact keep_cell (by assumption) (((Below.refl _ _).alloc (Nat.le_refl _) _).drew))))
                (first
                  | (go_at_call 41; refine (HCl.out _ (by first | exact Below.refl _ _ | exact (Below.refl _ _).drew)).mono ?_; rintro e w5 ⟨vq, rfl, hown, hb⟩; obtain ⟨q, c, rfl, hq1, hq2, hq3, hqr⟩ := own_split hown (by decide); have B5 := Lib.hid (show Below X.heap.size X w5 by first | exact hb | exact below_next (Below.refl _ _).drew hb); have OW5 := Lib.hid (own_below (own_below HA0.out.own bX2) B5.out); have HQ := Lib.hid (And.intro (hqr 0 _ rfl) (And.intro hq2 hq3)); clear hown hqr)
                  | (refine step_append_lies _ (by rfl) _ _ _ (by rfl) (w.heap.size + 2) 108 i0 z0 4 48 Tryz.underlying100 hinfo hz0 hz1 hz2 hz3 (by decide) u14 1 (Am.rowA q0 c0 1000 0) (by rfl) (by first | exact OW5.out.alloc _ | exact (OW5.out.alloc _).drew) ⟨w5.heap.size, 0, none⟩ 1 1 (Am.rowA q c 2000 1) (by rfl) (by rfl) (World.news_of_block (cs := #[.int .i64 0, .slice (some ⟨q, 0, none⟩) 1 c, .int .i64 2000, .int .i64 1]) (t := 108) (fr := (0, 0)) (heap_alloc_new w5 _)) (by simp [Am.rowA, Value.oneCell']) (by decide) (by decide) (by decide) (by have h1 := blk_lt HSX.out.g; have h2 := B5.out.size; simp; omega) (w5.heap.size + 1) (by simp) ?_; intro gg cap2 w6 hown6 hgrow hat hlt6))
              simp only [List.getElem_toArray, List.getElem_cons_succ, List.getElem_cons_zero, List.set_cons_succ, List.set_cons_zero, List.setIfInBounds_toArray]
              have hb0 := blk_lt HSX.out.g
              have hs5 := B5.out.size
              have b56 : Below (w.heap.size + 2) w5 w6 := ((Below.refl (w.heap.size + 2) w5).alloc (by omega) _).grown hgrow (by simp; omega) (fun k h => (HA0.out.own.lt _ h).1)
              have hq0 : q0 < wr.heap.size := World.block_lt_of_cell? wr _ HA0.out.cell
              have hqn : some q ≠ u14.ownBlock := fun e => by have h1 := (HA0.out.own.lt _ e.symm).2; have h2 := bX2.size; have h3 : X.heap.size ≤ q := hq1; omega
              have HA := Lib.hid (show Am.Aw2 w6 (w.heap.size + 2) (.slice (some ⟨gg, 0, none⟩) (1 + 1) cap2) q0 c0 1000 0 q c 2000 1 from ⟨hown6, hgrow.cell (keep_cell (keep_cell (keep_cell HA0.out.cell bX2) B5.out) ((Below.refl _ w5).alloc (Nat.le_refl _) _)) HA0.out.ne, hgrow.cell (keep_cell HQ.out.1 ((Below.refl _ w5).alloc (Nat.le_refl _) _)) hqn, HA0.out.le, HQ.out.2.1⟩)
              have HS6 := Lib.hid ((HSX.out.below B5.out).low (by have := HMB.out.1; omega) (by omega) (by omega) (by have h9 : mb < w.heap.size := HMB.out.2; omega) b56)
              have HB6 := Lib.hid ((below_next HBX.out B5.out).trans (b56.mono (by omega)))
              clear hb0 hs5 hq0 hqn
              clear hown6 hgrow hat hlt6 b56 hb
              go_wp2_with fail
              go_roundw
              case rel => exact ⟨2, by decide, by first | rfl | go_num, ⟨fun h => absurd h (by decide), fun h => absurd h (by decide), fun _ => ⟨q0, c0, q, c, HA.out⟩⟩, HS6.out, HB6.out⟩
              case measure => simp [intOf]

            · clear gr
              obtain ⟨q, c, q2, c2, hA⟩ := hv.2.2 rfl
              obtain ⟨g2, cap2, rfl, q1, q12, q3, q4⟩ := own_split hA.own (by decide)
              have HR := Lib.hid (show Am.AwRow2 wr g2 q c 1000 0 q2 c2 2000 1 from q4)
              have HA := Lib.hid hA
              clear hv hA q4 q1 q12
              go_upto_region 28 with (first | (go_at_call 46; refine (sort_aw2 g2 cap2 q c q2 c2 1000 0 2000 1 wr HR.out HA.out.cell HA.out.cell2 HA.out.le HA.out.le2).mono ?_; rintro e w2 ⟨rfl, hb⟩))
              have HB2 := Lib.hid (below_next HB.out hb)
              have HR2 := Lib.hid (HR.out.below hb)
              have HC := Lib.hid (fun w1 (b : Below w2.heap.size w2 w1) => by_calls q q2 c c2 1000 0 2000 1 w1 (keep_cell (keep_cell HA.out.cell hb) b) (keep_cell (keep_cell HA.out.cell2 hb) b) HA.out.le HA.out.le2)
              unfold Am.aw at HC
              clear hb HR HA HB HS
              go_upto_region 29 with (fail)
              go_loopw [18] (fun v w3 => v = .int .i64 1 ∧ w3 = w2) (fun _ _ => 0)
              case atStart => exact ⟨rfl, rfl⟩
              case round =>
                obtain ⟨rfl, rfl⟩ := hrel
                have r0 := HR2.out 0 _ rfl
                have r1 := HR2.out 1 _ rfl
                have r2 := HR2.out 2 _ rfl
                have r3 := HR2.out 3 _ rfl
                have r4 := HR2.out 4 _ rfl
                have r5 := HR2.out 5 _ rfl
                have r6 := HR2.out 6 _ rfl
                have r7 := HR2.out 7 _ rfl
                go_upto_region 31 with (fail)
                go_region_held (fun w' => w'.cell? ⟨g2, 0, none⟩ = some (.int .i64 0) ∧ w'.cell? ⟨g2, 1, none⟩ = some (.slice (some ⟨q, 0, none⟩) 1 c) ∧ w'.cell? ⟨g2, 2, none⟩ = some (.int .i64 1000) ∧ w'.cell? ⟨g2, 3, none⟩ = some (.int .i64 0) ∧ w'.cell? ⟨g2, 4, none⟩ = some (.int .i64 0) ∧ w'.cell? ⟨g2, 5, none⟩ = some (.slice (some ⟨q2, 0, none⟩) 1 c2) ∧ w'.cell? ⟨g2, 6, none⟩ = some (.int .i64 2000) ∧ w'.cell? ⟨g2, 7, none⟩ = some (.int .i64 1)) (first | go_keep | (go_split_ands; refine ⟨?_, ?_, ?_, ?_, ?_, ?_, ?_, ?_⟩ <;> exact keep_cell (by assumption) hb))
                  (first | (go_at_call 42; refine (HC.out _ (by first | exact Below.refl _ _ | exact (Below.refl _ _).drew)).mono ?_; rintro e w4 ⟨rfl, hb⟩; have B1 := Lib.hid (show Below wr.heap.size wr w4 by first | exact hb | exact below_next (Below.refl _ _).drew hb)))
                go_wp2_with fail
                go_ret2
                exact ⟨rfl, below_next HB2.out B1.out⟩

end Go.Proofs.YtpcmhlbhepickaaGreat
