import Derived.Test.YtpcmhlbhepickaaGreatAmtLa
import Derived.Test.YtpcmhlbhepickaaGreatMonE
import Derived.Maps.AppendAt
/- amounts.Lines of lexpriorlaw24.one's statute and ground: one award -/
namespace Go.Proofs.YtpcmhlbhepickaaGreat
open Go.Shelf Go.RowKit Go.Lib
open Go.Proofs.YtpcmhlbhepickaaGreat.PAmountsCuts
open Go.Proofs.YtpcmhlbhepickaaGreatW.PrintWords
set_option linter.unusedVariables false
set_option linter.unusedSimpArgs false
attribute [local go_sem] Oper.semAt_some
theorem keep_ownFrom {β : Type} (F : Nat → Prop) (W0 : World) {B : Nat} (hB : W0.heap.size ≤ B) : OwnFrom B (fun (_ : β) W => Keep F W0 W) := fun s W W' row hk hg hr =>
  ⟨hg.os.trans hk.os, hg.tape.trans hk.tape, hg.output.trans hk.output, Nat.le_trans hk.size hg.size, fun i hi hn => (hg.block i (Nat.lt_of_lt_of_le hi hk.size) (fun e => by have := (hr i e.symm).1; omega)).trans (hk.block i hi hn)⟩
theorem keepsOthers_below {W W' : World} (b : Below W.heap.size W W') : KeepsOthers W W' := ⟨b.size, fun i o h _ => (b.block i (blk_lt h)).trans h⟩
theorem keep_putObj {F : Nat → Prop} {w w1 : World} (h : Keep F w w1) (D : Nat) (hD : w.heap.size ≤ D) (o : Obj) : Keep F w (w1.putObj D o) :=
  ⟨h.os, h.tape, h.output, Nat.le_trans h.size (by simp), fun i hi hn => (World.putObj_heap_other (by omega)).trans (h.block i hi hn)⟩
/-- what the loop over 'places' leaves in the box of the lines -/
def Am.Out (n1 bo : Nat) (pre : List Unit) (W : World) : Prop := W.frozen? ⟨bo, 0, none⟩ = false ∧ ((pre = [] ∧ W.cell? ⟨bo, 0, none⟩ = some (.slice none 0 0)) ∨
  (pre = [()] ∧ ∃ g4 cap4, W.cell? ⟨bo, 0, none⟩ = some (.slice (some ⟨g4, 0, none⟩) 1 cap4) ∧ (1 ≤ cap4 ∧ n1 ≤ g4) ∧ W.cell? ⟨g4, 0, none⟩ = some (.int .i64 0) ∧ W.cell? ⟨g4, 1, none⟩ = some (.int .i64 0) ∧ W.cell? ⟨g4, 2, none⟩ = some (.int .i64 2000) ∧ W.cell? ⟨g4, 3, none⟩ = some (.int .i64 1500)))
theorem Am.out_own (n1 bo : Nat) : Own (Am.Out n1 bo) := fun s A B row hs hg hr => by
  obtain ⟨hf, h⟩ := hs
  rcases h with ⟨rfl, h⟩ | ⟨rfl, g4, cap4, h, hc, h0, h1, h2, h3⟩
  · exact ⟨(frozen_kept h hg hr).trans hf, .inl ⟨rfl, cell_kept h hg hr⟩⟩
  · exact ⟨(frozen_kept h hg hr).trans hf, .inr ⟨rfl, g4, cap4, cell_kept h hg hr, hc, cell_kept h0 hg hr, cell_kept h1 hg hr, cell_kept h2 hg hr, cell_kept h3 hg hr⟩⟩
set_option maxHeartbeats 8000000 in
set_option maxRecDepth 100000 in
theorem lines_one (B mb : Nat) (w : World) (h : Am.Gr w B) (k0 : w.cell? ⟨mb, 0, none⟩ = some (.int .u8 8)) (k1 : w.cell? ⟨mb, 1, none⟩ = some (.int .u8 4)) :
    Calls Tryz.prog 22 #[.agg (Am.stat B), .agg (Am.ground B), .slice (some ⟨mb, 0, none⟩) 2 2] w fun e w' => (∃ g4 cap4, e = .returned (.tuple #[.slice (some ⟨g4, 0, none⟩) 1 cap4, .int .i64 0]) ∧ 1 ≤ cap4 ∧ w'.cell? ⟨g4, 0, none⟩ = some (.int .i64 0) ∧ w'.cell? ⟨g4, 1, none⟩ = some (.int .i64 0) ∧ w'.cell? ⟨g4, 2, none⟩ = some (.int .i64 2000) ∧ w'.cell? ⟨g4, 3, none⟩ = some (.int .i64 1500)) ∧ Below w.heap.size w w' := by
  obtain ⟨W, hW⟩ : ∃ W, (((w.alloc (.cells (Am.stat B) 63)).alloc (.cells (Am.ground B) 72)).alloc (.cells #[.slice none 0 0] 24)).alloc (.cells #[.int .i64 0] 28) = W := ⟨_, rfl⟩
  obtain ⟨hbx, hbe, hsz⟩ := lines_boxes B mb 8 w h k0 k1 W hW
  have HX := Lib.hid hbx
  have HB := Lib.hid hbe
  have HSZ := Lib.hid hsz
  have HA := Lib.hid (fun w1 (b : Below W.heap.size W w1) => awards_one B mb w1 (HX.out.gr.below b) (keep_cell HX.out.k0 b) (keep_cell HX.out.k1 b))
  have HP := Lib.hid (fun w1 => places_calls B w1)
  obtain ⟨s0, s1, s2, s3, s4, s5, s6, s7, s8⟩ := hbx.sc
  obtain ⟨g0, g1, g2, g3, g4, g5, g6⟩ := hbx.gc
  unfold Am.stat Am.ground at hW HA
  unfold Am.stat at HP
  unfold Am.stat Am.ground
  clear h k0 k1 hbx hbe hsz
  refine (callsIn_wide (n := 5)).1 ?_
  refine callsIn_of_wp_marks Tryz.func22 rfl trivial ?_ rfl
  simp only [Tryz.ntmps22, List.size_toArray, List.length_cons, List.length_nil, Nat.reduceAdd, Nat.reduceSub, Array.replicate_succ, Array.replicate_zero, List.push_toArray, List.append_toArray, List.nil_append, List.cons_append]
  refine wpIn_wide.2 ?_
  go_upto_region 1 with (fail)
  try rw [hW]
  clear hW
  go_upto_region 2 with (first | (go_at_call 30; refine (HA.out _ (by first | exact Below.refl _ _ | exact (Below.refl _ _).drew)).mono ?_; rintro e w2 ⟨⟨g, cap, q, c, rfl, a0, a1, a2, a3, aq, hc⟩, hb⟩; have HB2 := Lib.hid (show Below W.heap.size W w2 by first | exact hb | exact below_next (Below.refl _ _).drew hb); clear hb))
  obtain ⟨X, hX⟩ : ∃ X, w2.alloc (Obj.cells #[.slice (some ⟨g, 0, none⟩) 1 cap] 100) = X := ⟨_, rfl⟩
  have bX2 : Below w2.heap.size w2 X := by rw [← hX]; exact (Below.refl _ w2).alloc (Nat.le_refl _) _
  have bX := below_next HB2.out bX2
  have x8 : X.cell? ⟨w2.heap.size, 0, none⟩ = some (.slice (some ⟨g, 0, none⟩) 1 cap) := by rw [← hX]; exact blk_cell (heap_alloc_new w2 _) 0 rfl
  have HXX := Lib.hid (HX.out.below bX)
  have HBX := Lib.hid (below_next HB.out bX)
  have HAX := Lib.hid (show (X.cell? ⟨g, 0, none⟩ = some (.int .i64 0) ∧ X.cell? ⟨g, 1, none⟩ = some (.slice (some ⟨q, 0, none⟩) 1 c) ∧ X.cell? ⟨g, 2, none⟩ = some (.int .i64 2000) ∧ X.cell? ⟨g, 3, none⟩ = some (.int .i64 1)) ∧ X.cell? ⟨q, 0, none⟩ = some (.int .i64 0) ∧ 1 ≤ c from ⟨⟨keep_cell a0 bX2, keep_cell a1 bX2, keep_cell a2 bX2, keep_cell a3 bX2⟩, keep_cell aq bX2, hc⟩)
  have HX8 := Lib.hid x8
  try rw [hX]
  clear hX bX2 bX a0 a1 a2 a3 aq hc x8 HA s0 s1 s2 s3 s4 s5 s6 s7 s8 g0 g1 g2 g3 g4 g5 g6
  go_upto_region 5 with (fail)
  obtain ⟨Y, hY⟩ : ∃ Y, X.alloc (Obj.cells #[.slice none 0 0] 24) = Y := ⟨_, rfl⟩
  have bY : Below X.heap.size X Y := by rw [← hY]; exact (Below.refl _ X).alloc (Nat.le_refl _) _
  have hyb : Y.heap[X.heap.size]? = some (.cells #[.slice none 0 0] 24 (0, 0)) := by rw [← hY]; exact heap_alloc_new X _
  have HYB := Lib.hid hyb
  have HXY := Lib.hid (HXX.out.below bY)
  have HBY := Lib.hid (below_next HBX.out bY)
  have HBXY := Lib.hid bY
  have HY8 := Lib.hid (keep_cell HX8.out bY)
  obtain ⟨s0, s1, s2, s3, s4, s5, s6, s7, s8⟩ := HXY.out.sc
  try rw [hY]
  clear hY bY hyb
  go_wp2_with (first | (go_at_call 31; refine (HP.out _).mono ?_; rintro e w3 ⟨rfl, rfl⟩))
  obtain ⟨Z, hZ⟩ : ∃ Z, Y.alloc (Obj.cells (Am.stat B) 63) = Z := ⟨_, rfl⟩
  have bZ : Below Y.heap.size Y Z := by rw [← hZ]; exact (Below.refl _ Y).alloc (Nat.le_refl _) _
  have hzb : Z.heap[Y.heap.size]? = some (.cells (Am.stat B) 63 (0, 0)) := by rw [← hZ]; exact heap_alloc_new Y _
  have HXZ := Lib.hid (HXY.out.below bZ)
  have HBZ := Lib.hid (below_next HBY.out bZ)
  have HZ8 := Lib.hid (keep_cell HY8.out bZ)
  have HZO := Lib.hid (show Z.heap[X.heap.size]? = some (.cells #[.slice none 0 0] 24 (0, 0)) from (bZ.block _ (blk_lt HYB.out)).trans HYB.out)
  have HAZ := Lib.hid (show (Z.cell? ⟨g, 0, none⟩ = some (.int .i64 0) ∧ Z.cell? ⟨g, 1, none⟩ = some (.slice (some ⟨q, 0, none⟩) 1 c) ∧ Z.cell? ⟨g, 2, none⟩ = some (.int .i64 2000) ∧ Z.cell? ⟨g, 3, none⟩ = some (.int .i64 1)) ∧ Z.cell? ⟨q, 0, none⟩ = some (.int .i64 0) ∧ 1 ≤ c from ⟨⟨keep_cell (keep_cell HAX.out.1.1 HBXY.out) bZ, keep_cell (keep_cell HAX.out.1.2.1 HBXY.out) bZ, keep_cell (keep_cell HAX.out.1.2.2.1 HBXY.out) bZ, keep_cell (keep_cell HAX.out.1.2.2.2 HBXY.out) bZ⟩, keep_cell (keep_cell HAX.out.2.1 HBXY.out) bZ, HAX.out.2.2⟩)
  have HXS := Lib.hid HBX.out.size
  have HLT := Lib.hid (show X.heap.size < Z.heap.size ∧ Y.heap.size < Z.heap.size from ⟨blk_lt HZO.out, blk_lt hzb⟩)
  have hst := places_stops Fence.wide 4 trivial rfl (by decide) B Y.heap.size w.heap.size Z HXZ.out.gr.one (blk_cell hzb 8 rfl) (blk_cell hzb 2 rfl)
  unfold Am.stat at hZ
  try rw [hZ]
  clear hZ bZ hzb s0 s1 s2 s3 s4 s5 s6 s7 s8 HP
  refine (wpIn_wide (n := 5)).1 ?_
  refine wpIn_rangeFunc_ownF (F := Fence.wide) (n := 5) rfl (by decide) (gf := 47) (lb := #[.pointer (some ⟨Y.heap.size, 0, none⟩)]) rfl trivial (enters_of Tryz.func47 (by kernel_rfl) rfl) hst belowK_t (belowK_b HBZ.out.size) (Below.refl _ _) (fun _ => rfl)
    (fun pre W => Keep (fun k => k = X.heap.size) Z W ∧ Am.Out Z.heap.size X.heap.size pre W)
    (fun _ _ _ => False)
    (OwnFrom.and (keep_ownFrom _ Z (Nat.le_refl _)) (Own.from (Am.out_own _ _) _))
    (fun _ _ _ _ _ hs _ _ => hs)
    ⟨Keep.refl _ _, blk_free HZO.out 0, .inl ⟨rfl, blk_cell HZO.out 0 rfl⟩⟩
    (fun _ => { tmps := #[Value.agg #[Value.string { data := #[] }, Value.slice (some { block := B + 2, off := 0 }) 1 1, Value.slice (some { block := B + 3, off := 0 }) 1 1, Value.slice (some { block := B + 6, off := 0 }) 1 1, Value.slice none 0 0, Value.slice none 0 0, Value.slice none 0 0, Value.slice none 0 0, Value.slice (some { block := B + 8, off := 0 }) 1 1], Value.agg #[Value.slice (some { block := B + 12, off := 0 }) 2 2, Value.slice none 0 0, Value.slice none 0 0, Value.int IntKind.i64 0, Value.slice none 0 0, Value.slice none 0 0, Value.slice none 0 0], Value.slice (some { block := mb, off := 0 }) 2 2, Value.pointer (some { block := w.heap.size, off := 0 }), Value.pointer (some { block := w.heap.size + 1, off := 0 }), undef, Value.pointer (some { block := w.heap.size + 1 + 1, off := 0 }), Value.pointer (some { block := w.heap.size + 1 + 1 + 1, off := 0 }), Value.pointer (some { block := w2.heap.size, off := 0 }), Value.int IntKind.i64 0, Value.pointer (some { block := X.heap.size, off := 0 }), Value.int IntKind.i64 0, Value.int IntKind.i64 0, undef, undef, undef, undef, undef, undef, undef, Value.tuple #[Value.slice (some { block := g, off := 0 }) 1 cap, Value.int IntKind.i64 0], Value.agg #[Value.string { data := #[] }, Value.slice (some { block := B + 2, off := 0 }) 1 1, Value.slice (some { block := B + 3, off := 0 }) 1 1, Value.slice (some { block := B + 6, off := 0 }) 1 1, Value.slice none 0 0, Value.slice none 0 0, Value.slice none 0 0, Value.slice none 0 0, Value.slice (some { block := B + 8, off := 0 }) 1 1], Value.agg #[Value.slice (some { block := B + 12, off := 0 }) 2 2, Value.slice none 0 0, Value.slice none 0 0, Value.int IntKind.i64 0, Value.slice none 0 0, Value.slice none 0 0, Value.slice none 0 0], Value.slice (some { block := mb, off := 0 }) 2 2, Value.tuple #[Value.slice (some { block := g, off := 0 }) 1 cap, Value.int IntKind.i64 0], Value.slice (some { block := g, off := 0 }) 1 cap, Value.int IntKind.i64 0, Value.int IntKind.i64 0, Value.bool false, undef, Value.agg #[Value.string { data := #[] }, Value.slice (some { block := B + 2, off := 0 }) 1 1, Value.slice (some { block := B + 3, off := 0 }) 1 1, Value.slice (some { block := B + 6, off := 0 }) 1 1, Value.slice none 0 0, Value.slice none 0 0, Value.slice none 0 0, Value.slice none 0 0, Value.slice (some { block := B + 8, off := 0 }) 1 1], Value.func (Fn.func 47) #[] #[Value.pointer (some { block := Y.heap.size, off := 0 })], Value.int IntKind.i64 0, Value.int IntKind.i64 0, undef, undef, undef, undef, undef, undef, undef, undef, undef, undef, undef, undef, undef, undef, undef, undef, undef, undef, undef, undef, undef, undef, undef, undef, undef, undef, undef, undef, undef, undef, undef, undef, undef, undef, undef, undef, undef, undef, undef, undef, undef, undef, undef, undef, undef], defers := [] }) ?assign ?body ?done ?stop
  case assign =>
    intro l x W K hK
    gi_wp2
    exact hK
  case body =>
    rintro l pre x V ⟨hk, hf, ho⟩ hlen
    rcases ho with ⟨rfl, ho⟩ | ⟨rfl, _⟩
    rotate_left
    · exact absurd hlen (by simp)
    have bl : Below X.heap.size Z V := hk.toBelow (Nat.le_of_lt HLT.out.1) (fun y hy => by have h1 : y = X.heap.size := hy; omega)
    have l8 : w2.heap.size < X.heap.size := World.block_lt_of_cell? X _ HX8.out
    have lg : g < X.heap.size := World.block_lt_of_cell? X _ HAX.out.1.1
    have lq : q < X.heap.size := World.block_lt_of_cell? X _ HAX.out.2.1
    have OV := HXZ.out.gr.one.low (bl.mono HXX.out.gr.one.lt)
    have hsV : V.heap[w.heap.size]? = some (.cells (Am.stat B) 63 (0, 0)) := (bl.block _ (blk_lt HXX.out.s)).trans HXZ.out.s
    have HSV := Lib.hid hsV
    have v8 := (bl.cell (p := ⟨w2.heap.size, 0, none⟩) l8).trans HZ8.out
    have HOV := Lib.hid OV
    have HC := Lib.hid (counted_one B g cap q c V OV ((bl.cell (p := ⟨g, 0, none⟩) lg).trans HAZ.out.1.1) ((bl.cell (p := ⟨g, 1, none⟩) lg).trans HAZ.out.1.2.1) ((bl.cell (p := ⟨g, 2, none⟩) lg).trans HAZ.out.1.2.2.1) ((bl.cell (p := ⟨g, 3, none⟩) lg).trans HAZ.out.1.2.2.2) ((bl.cell (p := ⟨q, 0, none⟩) lq).trans HAZ.out.2.1) HAZ.out.2.2)
    unfold Am.stat at HC
    have s0 : V.cell? ⟨w.heap.size, 0, none⟩ = some (.string ⟨#[]⟩) := blk_cell hsV 0 rfl
    have s1 : V.cell? ⟨w.heap.size, 1, none⟩ = some (.slice (some ⟨B + 2, 0, none⟩) 1 1) := blk_cell hsV 1 rfl
    have s2 : V.cell? ⟨w.heap.size, 2, none⟩ = some (.slice (some ⟨B + 3, 0, none⟩) 1 1) := blk_cell hsV 2 rfl
    have s3 : V.cell? ⟨w.heap.size, 3, none⟩ = some (.slice (some ⟨B + 6, 0, none⟩) 1 1) := blk_cell hsV 3 rfl
    have s4 : V.cell? ⟨w.heap.size, 4, none⟩ = some (.slice none 0 0) := blk_cell hsV 4 rfl
    have s5 : V.cell? ⟨w.heap.size, 5, none⟩ = some (.slice none 0 0) := blk_cell hsV 5 rfl
    have s6 : V.cell? ⟨w.heap.size, 6, none⟩ = some (.slice none 0 0) := blk_cell hsV 6 rfl
    have s7 : V.cell? ⟨w.heap.size, 7, none⟩ = some (.slice none 0 0) := blk_cell hsV 7 rfl
    have s8 : V.cell? ⟨w.heap.size, 8, none⟩ = some (.slice (some ⟨B + 8, 0, none⟩) 1 1) := blk_cell hsV 8 rfl
    have HK := Lib.hid hk
    have HF := Lib.hid (And.intro hf ho)
    have HBL := Lib.hid bl
    clear hk hf ho bl l8 lg lq OV hsV hst
    gi_wp2_with (refine ⟨trivial, ?_⟩; gi_at_call 32; refine (CallsIn.inRound l (callsIn_wide.2 HC.out)).mono ?_; rintro e V2 ⟨v, rfl, hown, hb⟩; obtain ⟨g2, cap2, rfl, hg2, hcp2, hlt2, hrow⟩ := own_split hown (by decide); have HB2' := Lib.hid hb; have HR2 := Lib.hid hrow; have HG2 := Lib.hid (And.intro hg2 hlt2); clear hown hb hrow hg2 hlt2 hcp2)
    clear s0 s1 s2 s3 s4 s5 s6 s7 s8 v8 HC
    gi_loopw [13, 40] (fun v u wr => (u = .int .i64 0 ∧ v = .slice none 0 0 ∧ wr = V2) ∨ (u = .int .i64 1 ∧ wr.ownsRow V2.heap.size 23 1 v 1 [.int .i64 2000] ∧ Below V2.heap.size V2 wr)) (fun _ u _ => 1 - (intOf u).toNat)
    case atStart => exact .inl ⟨rfl, rfl, rfl⟩
    case round =>
      rcases hrel with ⟨rfl, rfl, rfl⟩ | ⟨rfl, hown, hb⟩
      · have r0 := HR2.out 0 _ rfl
        have r1 := HR2.out 1 _ rfl
        have r2 := HR2.out 2 _ rfl
        have r3 := HR2.out 3 _ rfl
        obtain ⟨T, hT⟩ : ∃ T, wr.alloc (Obj.cells #[.int .i64 0, .slice (some ⟨q, 0, none⟩) 1 c, .int .i64 2000, .int .i64 1] 108) = T := ⟨_, rfl⟩
        have bT : Below wr.heap.size wr T := by rw [← hT]; exact (Below.refl _ wr).alloc (Nat.le_refl _) _
        have HBT := Lib.hid bT
        have t2 : T.cell? ⟨wr.heap.size, 2, none⟩ = some (.int .i64 2000) := by rw [← hT]; exact blk_cell (heap_alloc_new wr _) 2 rfl
        obtain ⟨i0, hinfo, hz0, hz1, hz2⟩ := info_parts infoM
        clear bT
        gi_wp2_with (gi_at_builtin; refine wpListIn_append_own _ rfl _ _ 42 rfl wr.heap.size 23 i0 (.int .i64 0) 1 8 Tryz.underlying42 hinfo hz0 hz1 hz2 rfl (by decide) (.slice none 0 0) 0 [] (by rfl) (World.ownsRow_nil _ _ _ _) ⟨T.heap.size, 0, none⟩ 1 1 [.int .i64 2000] (by rfl) (by rfl) (cell_one_new _ _ _) (by simp [Value.oneCell']) (by decide) (by decide) (by have := HBT.out.size; simp; omega) ?_; intro v' w' hown hgrow hz; have HB6 := Lib.hid ((HBT.out.alloc HBT.out.size _).grown hgrow (by have := HBT.out.size; simp; omega) (fun k h => by cases h)); have HO6 := Lib.hid hown; clear hown hgrow hz)
        go_roundw
        case rel => exact .inr ⟨rfl, HO6.out, HB6.out⟩
        case measure => simp [intOf]
      · have bV := HB2'.out.trans (hb.mono HB2'.out.size)
        have HSm := Lib.hid (show Calls Tryz.prog 12 #[u13] wr _ from sum_calls [2000] u13 wr (rdI_own (xs := [2000]) hown (by simp)))
        rw [show Mo.sumE [2000] = (2000, 0) by decide] at HSm
        have hsV := (bV.block _ (blk_lt HSV.out)).trans HSV.out
        have c8 : wr.cell? ⟨w.heap.size, 8, none⟩ = some (.slice (some ⟨B + 8, 0, none⟩) 1 1) := blk_cell hsV 8 rfl
        have OR := HOV.out.below bV
        have t0 := OR.t0
        have t1 := OR.t1
        have t2 := OR.t2
        have t3 := OR.t3
        have t4 := OR.t4
        obtain ⟨T, hT⟩ : ∃ T, wr.alloc (Obj.cells #[.string Am.sT, .string Am.sPerson, .slice (some ⟨B + 7, 0, none⟩) 1 1, .bool true, .int .i64 1500] 95) = T := ⟨_, rfl⟩
        have bT0 : Below wr.heap.size wr T := by rw [← hT]; exact (Below.refl _ wr).alloc (Nat.le_refl _) _
        have y3 : T.cell? ⟨wr.heap.size, 3, none⟩ = some (.bool true) := by rw [← hT]; exact blk_cell (heap_alloc_new wr _) 3 rfl
        have y4 : T.cell? ⟨wr.heap.size, 4, none⟩ = some (.int .i64 1500) := by rw [← hT]; exact blk_cell (heap_alloc_new wr _) 4 rfl
        have bT := below_next bV bT0
        have HBT := Lib.hid bT
        have xo := keep_cell HF.out.2 bT
        have hlo : X.heap.size < V.heap.size := World.block_lt_of_cell? V _ HF.out.2
        have HLO := Lib.hid hlo
        have hXT : X.heap.size < T.heap.size := Nat.lt_of_lt_of_le hlo bT.size
        have fo : T.frozen? ⟨X.heap.size, 0, none⟩ = false := by rw [← HF.out.1]; unfold World.frozen?; rw [bT.block _ hlo]
        have HFO := Lib.hid (And.intro xo fo)
        obtain ⟨i0, hi0⟩ : ∃ i, Tryz.prog.info? 27 = some i := ⟨_, rfl⟩
        obtain ⟨i1, z1, hinfo, hz0, hz1, hz2, hz3⟩ := info_line
        clear hown hb bV hsV OR bT0 bT hlo i0 hi0 hXT
        gi_wp2_with (first
          | (refine ⟨trivial, ?_⟩; gi_at_call 12; refine (CallsIn.inRound l (callsIn_wide.2 HSm.out)).mono ?_; rintro e W9 ⟨rfl, rfl⟩)
          | (gi_at_builtin; refine wpListIn_append_own _ rfl _ _ 24 rfl T.heap.size 27 i1 z1 4 32 Tryz.underlying24 hinfo hz0 hz1 hz2 hz3 (by decide) (.slice none 0 0) 0 [] (by rfl) (World.ownsRow_nil _ _ _ _) ⟨T.heap.size, 0, none⟩ 1 1 [.int .i64 0, .int .i64 0, .int .i64 2000, .int .i64 1500] (by rfl) (by rfl) (World.news_of_block (cs := #[.int .i64 0, .int .i64 0, .int .i64 2000, .int .i64 1500]) (t := 27) (fr := (0, 0)) (heap_alloc_new T _)) (by simp [Value.oneCell']) (by decide) (by decide) (by simp) ?_; intro v' w6 hown hgrow hz; obtain ⟨g4, cap4, rfl, hg4, hc4, hl4, hr4⟩ := own_split hown (by decide); have HB6 := Lib.hid (((Below.refl T.heap.size T).alloc (Nat.le_refl _) _).grown hgrow (by simp) (fun k h => by cases h)); have HR4 := Lib.hid (And.intro hr4 (And.intro hg4 hc4)); have xo6 := keep_cell HFO.out.1 HB6.out; have fo6 : w6.frozen? ⟨X.heap.size, 0, none⟩ = false := (by rw [← HFO.out.2]; unfold World.frozen?; rw [HB6.out.block _ (Nat.lt_of_lt_of_le HLO.out HBT.out.size)]); clear hown hgrow hz hg4 hc4 hl4 hr4))
        have bV6 := below_next HBT.out HB6.out
        have hwV : w.heap.size ≤ V.heap.size := Nat.le_trans HXS.out (Nat.le_of_lt HLO.out)
        have hzg : Z.heap.size ≤ g4 := Nat.le_trans HK.out.size (Nat.le_trans HBT.out.size HR4.out.2.1)
        have hxg : X.heap.size < g4 := Nat.lt_of_lt_of_le HLT.out.1 hzg
        have oc : ∀ j v, w6.cell? ⟨g4, j, none⟩ = some v → (w6.setCell ⟨X.heap.size, 0, none⟩ (.slice (some ⟨g4, 0, none⟩) (0 + 1) cap4)).cell? ⟨g4, j, none⟩ = some v := fun j v h => by
          rw [World.cell?_setCell_other _ _ _ _ (fun e => by injection e with e1; omega)]
          exact h
        exact ⟨(keepsOthers_below bV6).trans (KeepsOthers.setCell _ _ _), (bV6.mono hwV).setCell (p := ⟨X.heap.size, 0, none⟩) HXS.out _, (HK.out.below bV6).setCell (fun _ => rfl) _, by rw [World.frozen?_setCell]; exact fo6, .inr ⟨rfl, g4, cap4, World.cell?_setCell_same _ _ _ xo6, ⟨HR4.out.2.2, hzg⟩, oc _ _ (HR4.out.1 0 _ rfl), oc _ _ (HR4.out.1 1 _ rfl), oc _ _ (HR4.out.1 2 _ rfl), oc _ _ (HR4.out.1 3 _ rfl)⟩⟩
  case done =>
    rintro D ys W2 hD rfl ⟨hk, hf, ho⟩ hK
    rcases ho with ⟨h1, _⟩ | ⟨_, g4, cap4, ho, ⟨hc4, hg4⟩, o0, o1, o2, o3⟩
    · cases h1
    have lr : w.heap.size + 1 + 1 < X.heap.size := blk_lt HXX.out.r
    have le : w.heap.size + 1 + 1 + 1 < X.heap.size := blk_lt HXX.out.e
    have lx := HLT.out.1
    have hr : W2.cell? ⟨w.heap.size + 1 + 1, 0, none⟩ = some (.slice none 0 0) := hk.cell (blk_cell HXZ.out.r 0 rfl) (fun e => by have : w.heap.size + 1 + 1 = X.heap.size := e; omega)
    have he : W2.cell? ⟨w.heap.size + 1 + 1 + 1, 0, none⟩ = some (.int .i64 0) := hk.cell (blk_cell HXZ.out.e 0 rfl) (fun e => by have : w.heap.size + 1 + 1 + 1 = X.heap.size := e; omega)
    have fr := (hk.free (a := ⟨w.heap.size + 1 + 1, 0, none⟩) (by show w.heap.size + 1 + 1 < Z.heap.size; omega) (fun e => by have : w.heap.size + 1 + 1 = X.heap.size := e; omega)).trans (blk_free HXZ.out.r 0)
    have fe := (hk.free (a := ⟨w.heap.size + 1 + 1 + 1, 0, none⟩) (by show w.heap.size + 1 + 1 + 1 < Z.heap.size; omega) (fun e => by have : w.heap.size + 1 + 1 + 1 = X.heap.size := e; omega)).trans (blk_free HXZ.out.e 0)
    have HL := Lib.hid (And.intro lr (And.intro le lx))
    have hB2 := HBZ.out.trans (hk.toBelow HBZ.out.size (fun y hy => by have h1 : y = X.heap.size := hy; have h2 := HXS.out; omega))
    have HB2 := Lib.hid hB2
    have HO := Lib.hid (show (W2.cell? ⟨g4, 0, none⟩ = some (.int .i64 0) ∧ W2.cell? ⟨g4, 1, none⟩ = some (.int .i64 0) ∧ W2.cell? ⟨g4, 2, none⟩ = some (.int .i64 2000) ∧ W2.cell? ⟨g4, 3, none⟩ = some (.int .i64 1500)) ∧ 1 ≤ cap4 ∧ Z.heap.size ≤ g4 from ⟨⟨o0, o1, o2, o3⟩, hc4, hg4⟩)
    have HD := Lib.hid (And.intro hD hK)
    have HRE := Lib.hid (And.intro hr he)
    clear lr le lx hk hf hB2 o0 o1 o2 o3 hc4 hg4 hD hK
    go_wp2_with fail
    obtain ⟨W3, hW3⟩ : ∃ W3, (W2.setCell ⟨w.heap.size + 1 + 1, 0, none⟩ (.slice (some ⟨g4, 0, none⟩) 1 cap4)).setCell ⟨w.heap.size + 1 + 1 + 1, 0, none⟩ (.int .i64 0) = W3 := ⟨_, rfl⟩
    have hK3 : W3.heap[D]? = some (.deferred (some [])) := by rw [← hW3]; exact ((KeepsOthers.setCell _ _ _).trans (KeepsOthers.setCell _ _ _)).same D _ HD.out.2 rfl
    have hB3 : Below w.heap.size w W3 := by rw [← hW3]; exact (HB2.out.setCell (p := ⟨w.heap.size + 1 + 1, 0, none⟩) (show w.heap.size ≤ w.heap.size + 1 + 1 by omega) _).setCell (p := ⟨w.heap.size + 1 + 1 + 1, 0, none⟩) (show w.heap.size ≤ w.heap.size + 1 + 1 + 1 by omega) _
    have r3 : W3.cell? ⟨w.heap.size + 1 + 1, 0, none⟩ = some (.slice (some ⟨g4, 0, none⟩) 1 cap4) := by
      rw [← hW3, World.cell?_setCell_other _ _ _ _ (fun e => by injection e with e1; omega)]
      exact World.cell?_setCell_same _ _ _ HRE.out.1
    have e3 : W3.cell? ⟨w.heap.size + 1 + 1 + 1, 0, none⟩ = some (.int .i64 0) := by
      rw [← hW3]
      exact World.cell?_setCell_same _ _ (.int .i64 0) (u := .int .i64 0) (by rw [World.cell?_setCell_other _ _ _ _ (fun e => by injection e with e1; omega)]; exact HRE.out.2)
    have o3 : ∀ j v, W2.cell? ⟨g4, j, none⟩ = some v → W3.cell? ⟨g4, j, none⟩ = some v := fun j v h => by
      have h1 := HL.out
      have h2 := HO.out.2.2
      rw [← hW3, World.cell?_setCell_other _ _ _ _ (fun e => by injection e with e1; omega), World.cell?_setCell_other _ _ _ _ (fun e => by injection e with e1; omega)]
      exact h
    try rw [hW3]
    clear hW3
    have kc : ∀ (b j : Nat) (v : Value), W3.cell? ⟨b, j, none⟩ = some v → (W3.putObj D (.deferred none)).cell? ⟨b, j, none⟩ = some v := fun b j v h => cell_kept h (grownBy_putObj' W3 D (.deferred none)) (fun r e => by cases e; exact ⟨_, hK3, rfl⟩)
    refine ⟨by simp, .inl ⟨_, _, rfl, run_takeDeferred hK3, ?_⟩⟩
    obtain ⟨⟨o0, o1, o2, o4⟩, hc4, _⟩ := HO.out
    exact ⟨_, lines_results _ _ (w.heap.size + 1 + 1) (w.heap.size + 1 + 1 + 1) (.slice (some ⟨g4, 0, none⟩) 1 cap4) (.int .i64 0) rfl rfl (kc _ _ _ r3) (kc _ _ _ e3), ⟨g4, cap4, rfl, hc4, kc _ _ _ (o3 _ _ o0), kc _ _ _ (o3 _ _ o1), kc _ _ _ (o3 _ _ o2), kc _ _ _ (o3 _ _ o4)⟩, hB3.trans (belowK_b (w := w) (Nat.le_refl _) W3 D _ _ (by have := HD.out.1; have := HBZ.out.size; omega) hK3 rfl rfl)⟩
  case stop =>
    rintro D c pre W _ _ h _
    exact h.elim
end Go.Proofs.YtpcmhlbhepickaaGreat
