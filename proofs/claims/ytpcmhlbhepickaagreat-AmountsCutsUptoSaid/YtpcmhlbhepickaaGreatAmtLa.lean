import Derived.Test.YtpcmhlbhepickaaGreatAmtX
import Derived.RangeFuncNested
import Derived.RangeFuncBound
import Derived.RangeFuncCalls
import Derived.RangeFuncLeaves
import Derived.Shelf.Abstract
import Derived.OwnWalkIn
import Derived.TacticsInMore
import Derived.LoopNIn
import Derived.LoopIn
/- amounts.counted of lexpriorlaw24.one's statute and one award -/
namespace Go.Proofs.YtpcmhlbhepickaaGreat
open Go.Shelf Go.RowKit Go.Lib
open Go.Proofs.YtpcmhlbhepickaaGreat.PAmountsCuts
open Go.Proofs.YtpcmhlbhepickaaGreatW.PrintWords
set_option linter.unusedVariables false
set_option linter.unusedSimpArgs false
theorem kdS_one (b : Nat) (s : ByteArray) (w : World) (h : w.cell? ⟨b, 0, none⟩ = some (.string s)) : Kd.C Kd.string w (some ⟨b, 0, none⟩) 1 [s] := by
  refine ⟨rfl, by simp, fun _ => ⟨_, rfl, fun j p hj => ⟨[.string p], rfl, rfl, fun i u hi => ?_⟩⟩⟩
  match j, hj, i, hi with
  | 0, hj, 0, hi =>
    obtain rfl : s = p := by simpa using hj
    obtain rfl : Value.string s = u := by simpa using hi
    exact h
theorem contains_help (b : Nat) (w : World) (h : w.cell? ⟨b, 0, none⟩ = some (.string Am.sHelp)) :
    Calls Tryz.prog 48 #[.slice (some ⟨b, 0, none⟩) 1 1, .string Am.sHelp] w fun e w' => e = .returned (.bool true) ∧ Below w.heap.size w w' :=
  (slices_Contains_string_string.calls 3 (some ⟨b, 0, none⟩) 1 [Am.sHelp] Am.sHelp true w (kdS_one b _ w h) (Nat.le_refl _) (by simp [slices_Contains_string_string.f, slices_Index_string_string.f, slices_Index_string_string.l0, rdOf, wrap64])).mono fun e w' ⟨h1, h2⟩ => ⟨h1, h2.below⟩
set_option maxHeartbeats 8000000 in
set_option maxRecDepth 100000 in
theorem counted_one (B g cap q c : Nat) (w : World) (h : Am.One w B) (g0 : w.cell? ⟨g, 0, none⟩ = some (.int .i64 0)) (g1 : w.cell? ⟨g, 1, none⟩ = some (.slice (some ⟨q, 0, none⟩) 1 c)) (g2 : w.cell? ⟨g, 2, none⟩ = some (.int .i64 2000)) (g3 : w.cell? ⟨g, 3, none⟩ = some (.int .i64 1)) (hq : w.cell? ⟨q, 0, none⟩ = some (.int .i64 0)) (hc : 1 ≤ c) :
    Calls Tryz.prog 32 #[.agg (Am.stat B), .slice (some ⟨g, 0, none⟩) 1 cap, .int .i64 0, .int .i64 0] w fun e w' => ∃ v, e = .returned v ∧ w'.ownsRow w.heap.size 108 4 v 1 (Am.rowA q c 2000 1) ∧ Below w.heap.size w w' := by
  obtain ⟨W, hW⟩ : ∃ W, w.alloc (Obj.cells (Am.stat B) 63) = W := ⟨_, rfl⟩
  have s1 : W.heap.size = w.heap.size + 1 := by rw [← hW]; exact size_new _ _
  have b1 : Below w.heap.size w W := by rw [← hW]; exact (Below.refl _ w).alloc (Nat.le_refl _) _
  have hs : W.heap[w.heap.size]? = some (.cells (Am.stat B) 63 (0, 0)) := by rw [← hW]; exact heap_alloc_new w _
  have HS1 := Lib.hid s1
  have HB := Lib.hid b1
  have HO := Lib.hid (h.below b1)
  have HA := Lib.hid (show (W.cell? ⟨g, 0, none⟩ = some (.int .i64 0) ∧ W.cell? ⟨g, 1, none⟩ = some (.slice (some ⟨q, 0, none⟩) 1 c) ∧ W.cell? ⟨g, 2, none⟩ = some (.int .i64 2000) ∧ W.cell? ⟨g, 3, none⟩ = some (.int .i64 1)) ∧ W.cell? ⟨q, 0, none⟩ = some (.int .i64 0) from ⟨⟨keep_cell g0 b1, keep_cell g1 b1, keep_cell g2 b1, keep_cell g3 b1⟩, keep_cell hq b1⟩)
  have HS := Lib.hid (show W.cell? ⟨w.heap.size, 8, none⟩ = some (.slice (some ⟨B + 8, 0, none⟩) 1 1) ∧ W.cell? ⟨w.heap.size, 3, none⟩ = some (.slice (some ⟨B + 6, 0, none⟩) 1 1) from ⟨blk_cell hs 8 rfl, blk_cell hs 3 rfl⟩)
  unfold Am.stat at hW ⊢
  clear h g0 g1 g2 g3 hq hs b1 s1
  go_enter Tryz.func32, Tryz.ntmps32
  go_upto_region 3 with (fail)
  clear hW
  go_loopw [9, 14] (fun v u wr => (u = .int .i64 0 ∧ v = .slice none 0 0 ∧ wr = W) ∨ (u = .int .i64 1 ∧ wr.ownsRow (w.heap.size + 1) 108 4 v 1 (Am.rowA q c 2000 1) ∧ Below w.heap.size w wr)) (fun _ u _ => 1 - (intOf u).toNat)
  case atStart => exact .inl ⟨rfl, rfl, rfl⟩
  case round =>
    rcases hrel with ⟨rfl, rfl, rfl⟩ | ⟨rfl, hown, hb⟩
    · obtain ⟨⟨c0, c1, c2, c3⟩, cq⟩ := HA.out
      go_upto_region 5 with (fail)
      obtain ⟨X, hX⟩ : ∃ X, wr.alloc (Obj.cells #[.int .i64 0, .slice (some ⟨q, 0, none⟩) 1 c, .int .i64 2000, .int .i64 1] 108) = X := ⟨_, rfl⟩
      have bX : Below wr.heap.size wr X := by rw [← hX]; exact (Below.refl _ wr).alloc (Nat.le_refl _) _
      have HBX := Lib.hid (below_next HB.out bX)
      have hx : X.heap[wr.heap.size]? = some (.cells #[.int .i64 0, .slice (some ⟨q, 0, none⟩) 1 c, .int .i64 2000, .int .i64 1] 108 (0, 0)) := by rw [← hX]; exact heap_alloc_new wr _
      have HX := Lib.hid hx
      have OX := HO.out.below bX
      have HSZ := Lib.hid (show X.heap.size = wr.heap.size + 1 by rw [← hX]; exact size_new _ _)
      have x0 : X.cell? ⟨wr.heap.size, 0, none⟩ = some (.int .i64 0) := blk_cell hx 0 rfl
      have x1 : X.cell? ⟨wr.heap.size, 1, none⟩ = some (.slice (some ⟨q, 0, none⟩) 1 c) := blk_cell hx 1 rfl
      have xq : X.cell? ⟨q, 0, none⟩ = some (.int .i64 0) := keep_cell cq bX
      have xs8 : X.cell? ⟨w.heap.size, 8, none⟩ = some (.slice (some ⟨B + 8, 0, none⟩) 1 1) := keep_cell HS.out.1 bX
      have xs3 : X.cell? ⟨w.heap.size, 3, none⟩ = some (.slice (some ⟨B + 6, 0, none⟩) 1 1) := keep_cell HS.out.2 bX
      have xt2 := OX.t2
      have xp0 := OX.p0
      have HCt := Lib.hid (fun w1 (b : Below X.heap.size X w1) => contains_help (B + 7) w1 (keep_cell OX.h0 b))
      (try rw [hX])
      clear hX bX hx OX c0 c1 c2 c3 cq
      go_region_held (fun w' => w'.cell? ⟨wr.heap.size, 0, none⟩ = some (.int .i64 0) ∧ w'.cell? ⟨wr.heap.size, 1, none⟩ = some (.slice (some ⟨q, 0, none⟩) 1 c) ∧ w'.cell? ⟨q, 0, none⟩ = some (.int .i64 0) ∧ w'.cell? ⟨w.heap.size, 8, none⟩ = some (.slice (some ⟨B + 8, 0, none⟩) 1 1) ∧ w'.cell? ⟨w.heap.size, 3, none⟩ = some (.slice (some ⟨B + 6, 0, none⟩) 1 1) ∧ w'.cell? ⟨B + 8, 2, none⟩ = some (.slice (some ⟨B + 7, 0, none⟩) 1 1) ∧ w'.cell? ⟨B + 6, 0, none⟩ = some (.string Am.sHelp))
        (first | go_keep | (go_split_ands; refine ⟨?_, ?_, ?_, ?_, ?_, ?_, ?_⟩ <;> exact keep_cell (by assumption) hb))
        (first | (go_at_call 48; refine (HCt.out _ (by first | exact Below.refl _ _ | exact (Below.refl _ _).drew)).mono ?_; rintro e w4 ⟨rfl, hb⟩; have B1 := Lib.hid (show Below X.heap.size X w4 by first | exact hb | exact below_next (Below.refl _ _).drew hb)))
      have hx4 := (B1.out.block _ (by rw [HSZ.out]; omega)).trans HX.out
      have y0 : w4.cell? ⟨wr.heap.size, 0, none⟩ = some (.int .i64 0) := blk_cell hx4 0 rfl
      have y1 : w4.cell? ⟨wr.heap.size, 1, none⟩ = some (.slice (some ⟨q, 0, none⟩) 1 c) := blk_cell hx4 1 rfl
      have y2 : w4.cell? ⟨wr.heap.size, 2, none⟩ = some (.int .i64 2000) := blk_cell hx4 2 rfl
      have y3 : w4.cell? ⟨wr.heap.size, 3, none⟩ = some (.int .i64 1) := blk_cell hx4 3 rfl
      have HB4 := Lib.hid (below_next HBX.out B1.out)
      have HL := Lib.hid (show w.heap.size + 1 ≤ w4.heap.size by have h1 := B1.out.size; rw [HSZ.out, HS1.out] at h1; omega)
      obtain ⟨i0, z0, hinfo, hz0, hz1, hz2, hz3⟩ := info_award
      clear hx4 hb x0 x1 xq xs8 xs3 xt2 xp0
      go_wp2_with (first | (at_builtin; refine wpList_append_own_at _ rfl _ _ 100 rfl (w.heap.size + 1) 108 i0 z0 4 48 Tryz.underlying100 hinfo hz0 hz1 hz2 hz3 (by decide) (.slice none 0 0) 0 [] (by rfl) (World.ownsRow_nil _ _ _ _) ⟨w4.heap.size, 0, none⟩ 1 1 (Am.rowA q c 2000 1) (by rfl) (by rfl) (World.news_of_block (cs := #[.int .i64 0, .slice (some ⟨q, 0, none⟩) 1 c, .int .i64 2000, .int .i64 1]) (t := 108) (fr := (0, 0)) (heap_alloc_new w4 _)) (by simp [Am.rowA, Value.oneCell']) (by decide) (by decide) (by have := HL.out; simp; omega) ?_))
      intro v' w' hown hgrow hz hblk
      have HB6 := Lib.hid ((HB4.out.alloc (by have := HL.out; omega) _).grown hgrow (by have := HL.out; simp; omega) (fun k h => by cases h))
      have HO6 := Lib.hid hown
      clear hown hgrow hz hblk
      go_wp2_with fail
      go_roundw
      case rel => exact .inr ⟨rfl, HO6.out, HB6.out⟩
      case measure => simp [intOf]
    · go_wp2_with fail
      go_ret
      exact ⟨_, rfl, own_weaken hown (Nat.le_succ _), hb⟩
end Go.Proofs.YtpcmhlbhepickaaGreat
/- amounts.places of lexpriorlaw24.one's statute: the iterator -/
namespace Go.Proofs.YtpcmhlbhepickaaGreat
open Go.Shelf Go.RowKit Go.Lib
set_option linter.unusedVariables false
set_option linter.unusedSimpArgs false
attribute [local go_sem] Oper.semAt_some
/-- what 'places' hands out: a total, a member -/
abbrev Am.enc2 (x : Unit) : Array Value := #[.int .i64 0, .int .i64 0]
theorem abides_alloc {B : Nat} {J : List Unit → World → Prop} (h : AbidesFrom B J) {s : List Unit} {W : World} (o : Obj) (hs : J s W) : J s (W.alloc o) :=
  h s W _ none hs (World.grownBy_alloc W o none) (fun r e => by cases e)
set_option maxHeartbeats 4000000 in
set_option maxRecDepth 100000 in
theorem places_stops (F : Fence) (n : Nat) (hF : F.fn 47) (hro : F.round = none) (hn : 1 ≤ n) (B bx n₀ : Nat) (w : World) (hO : Am.One w B) (h8 : w.cell? ⟨bx, 8, none⟩ = some (.slice (some ⟨B + 8, 0, none⟩) 1 1)) (h2 : w.cell? ⟨bx, 2, none⟩ = some (.slice (some ⟨B + 3, 0, none⟩) 1 1)) :
    SeqStopsK F n Tryz.prog 47 #[.pointer (some ⟨bx, 0, none⟩)] Am.enc2 (Below n₀) (fun xs => xs = [()]) (fun pre => pre = [()]) 1 w := fun l J Jx W hW hJ _ hY h0 => by
  have HJ := Lib.hid hJ
  have HO := Lib.hid (hO.below hW)
  have s8 := keep_cell h8 hW
  have s2 := keep_cell h2 hW
  have HS := Lib.hid (And.intro s8 s2)
  clear hO h8 h2 hW hJ
  refine callsIn_of_wp Tryz.func47 rfl hF ?_ hro
  simp only [Tryz.ntmps47, List.size_toArray, List.length_cons, List.length_nil, Nat.reduceAdd, Nat.reduceSub, Array.replicate_succ, Array.replicate_zero, List.push_toArray, List.append_toArray, List.nil_append, List.cons_append]
  gi_wp2
  gi_loopw [10] (fun v wr => (v = .int .i64 0 ∧ wr = W) ∨ (v = .int .i64 1 ∧ J [()] wr)) (fun v _ => 1 - (intOf v).toNat)
  case atStart => exact .inl ⟨rfl, rfl⟩
  case round =>
    rcases hrel with ⟨rfl, rfl⟩ | ⟨rfl, hJs⟩
    · have t0 := HO.out.t0
      have t1 := HO.out.t1
      have t2 := HO.out.t2
      have t3 := HO.out.t3
      have t4 := HO.out.t4
      obtain ⟨X, hX⟩ : ∃ X, wr.alloc (Obj.cells #[.string Am.sT, .string Am.sPerson, .slice (some ⟨B + 7, 0, none⟩) 1 1, .bool true, .int .i64 1500] 95) = X := ⟨_, rfl⟩
      have bX : Below wr.heap.size wr X := by rw [← hX]; exact (Below.refl _ wr).alloc (Nat.le_refl _) _
      have HJX := Lib.hid (show J [] X by rw [← hX]; exact abides_alloc HJ.out _ h0)
      have x1 : X.cell? ⟨wr.heap.size, 1, none⟩ = some (.string Am.sPerson) := by rw [← hX]; exact blk_cell (heap_alloc_new wr _) 1 rfl
      have HX := Lib.hid x1
      have m0 := keep_cell HO.out.m0 bX
      have m1 := keep_cell HO.out.m1 bX
      have HM := Lib.hid (And.intro m0 m1)
      have HBX := Lib.hid bX
      have xs2 := keep_cell s2 bX
      clear bX m0 m1 x1
      gi_wp2
      (try rw [hX])
      clear hX t0 t1 t2 t3 t4 h0 xs2
      obtain ⟨wo, rfl⟩ : ∃ wo : World, wo = wr := ⟨_, rfl⟩
      gi_loopw [18] (fun v wr => (v = .int .i64 0 ∧ wr = X) ∨ (v = .int .i64 1 ∧ J [()] wr)) (fun v _ => 1 - (intOf v).toNat)
      case atStart => exact .inl ⟨rfl, rfl⟩
      case round =>
        rcases hrel with ⟨rfl, rfl⟩ | ⟨rfl, hJs⟩
        · have m0 := HM.out.1
          have m1 := HM.out.2
          have c1 := HX.out
          obtain ⟨Y, hY2⟩ : ∃ Y, wr.alloc (Obj.cells #[.string Am.sAnn, .string Am.sPerson] 90) = Y := ⟨_, rfl⟩
          have bY : Below wr.heap.size wr Y := by rw [← hY2]; exact (Below.refl _ wr).alloc (Nat.le_refl _) _
          have y1 : Y.cell? ⟨wr.heap.size, 1, none⟩ = some (.string Am.sPerson) := by rw [← hY2]; exact blk_cell (heap_alloc_new wr _) 1 rfl
          have y2 := keep_cell c1 bY
          have hJY : J [] Y := by rw [← hY2]; exact abides_alloc HJ.out _ HJX.out
          obtain ⟨fn, tmps, assign, body, hy, hR⟩ := hY [] () Y hJY (by simp)
          dsimp only [Am.enc2] at hy
          clear bY hJY
          gi_wp2
          refine hR.mono ?_
          rintro e W3 (⟨rfl, hJ3, hk3⟩ | ⟨rfl, hJx3⟩)
          · gi_wp2
            go_roundw
            case rel => exact .inr ⟨rfl, hJ3⟩
            case measure => simp [intOf]
          · gi_wp2
            refine bodyPost_ret (results_none rfl _ _ _) rfl ?_
            exact ⟨⟨_, rfl⟩, .inr ⟨_, rfl, hJx3⟩⟩
        · gi_wp2
          go_roundw
          case rel => exact .inr ⟨rfl, hJs⟩
          case measure => simp [intOf]
    · gi_wp2
      go_end0
      exact ⟨⟨_, rfl⟩, .inl ⟨_, rfl, hJs⟩⟩
theorem places_calls (B : Nat) (w : World) : Calls Tryz.prog 31 #[.agg (Am.stat B)] w fun e w' => e = .returned (.func (.func 47) #[] #[.pointer (some ⟨w.heap.size, 0, none⟩)]) ∧ w' = w.alloc (.cells (Am.stat B) 63) := by
  have hmf : ∀ (fn : Fn) (first cap : Array Value) (w : World), (Instr.makeFunc fn first cap).run Tryz.prog w = .ok (.func fn first cap) w := fun _ _ _ _ => rfl
  unfold Am.stat
  go_enter Tryz.func31, Tryz.ntmps31
  go_wp2_with fail
  go_ret
  exact ⟨by first | rfl | simp, by first | rfl | simp⟩
end Go.Proofs.YtpcmhlbhepickaaGreat
/- amounts.Lines of lexpriorlaw24.one's statute and ground: two amounts of one atom -/
namespace Go.Proofs.YtpcmhlbhepickaaGreat
open Go.Shelf Go.RowKit Go.Lib
set_option linter.unusedVariables false
set_option linter.unusedSimpArgs false
theorem lines_results (tmps : Array Value) (w : World) (g6 g7 : Nat) (v6 v7 : Value) (h6 : tmps.getD 6 undef = .pointer (some ⟨g6, 0, none⟩)) (h7 : tmps.getD 7 undef = .pointer (some ⟨g7, 0, none⟩))
    (c6 : w.cell? ⟨g6, 0, none⟩ = some v6) (c7 : w.cell? ⟨g7, 0, none⟩ = some v7) : (results Tryz.f22 tmps).run Tryz.prog w = .ok (.tuple #[v6, v7]) w := by
  have h6' : tmps[6]?.getD undef = .pointer (some ⟨g6, 0, none⟩) := by simpa using h6
  have h7' : tmps[7]?.getD undef = .pointer (some ⟨g7, 0, none⟩) := by simpa using h7
  simp [results, Tryz.f22, go_sem, h6', h7', c6, c7]
/-- the boxes of a call of Lines -/
structure Am.Bx (w : World) (B n mb : Nat) (m0 : Int) : Prop where
  gr : Am.Gr w B
  s : w.heap[n]? = some (.cells (Am.stat B) 63 (0, 0))
  g : w.heap[n + 1]? = some (.cells (Am.ground B) 72 (0, 0))
  r : w.heap[n + 1 + 1]? = some (.cells #[.slice none 0 0] 24 (0, 0))
  e : w.heap[n + 1 + 1 + 1]? = some (.cells #[.int .i64 0] 28 (0, 0))
  k0 : w.cell? ⟨mb, 0, none⟩ = some (.int .u8 m0)
  k1 : w.cell? ⟨mb, 1, none⟩ = some (.int .u8 4)
theorem Am.Bx.below {w w1 : World} {B n mb : Nat} {m0 : Int} (h : Am.Bx w B n mb m0) (b : Below w.heap.size w w1) : Am.Bx w1 B n mb m0 :=
  ⟨h.gr.below b, (b.block _ (blk_lt h.s)).trans h.s, (b.block _ (blk_lt h.g)).trans h.g, (b.block _ (blk_lt h.r)).trans h.r, (b.block _ (blk_lt h.e)).trans h.e, keep_cell h.k0 b, keep_cell h.k1 b⟩
theorem lines_boxes (B mb : Nat) (m0 : Int) (w : World) (h : Am.Gr w B) (k0 : w.cell? ⟨mb, 0, none⟩ = some (.int .u8 m0)) (k1 : w.cell? ⟨mb, 1, none⟩ = some (.int .u8 4)) (W : World)
    (hW : (((w.alloc (.cells (Am.stat B) 63)).alloc (.cells (Am.ground B) 72)).alloc (.cells #[.slice none 0 0] 24)).alloc (.cells #[.int .i64 0] 28) = W) :
    Am.Bx W B w.heap.size mb m0 ∧ Below w.heap.size w W ∧ W.heap.size = w.heap.size + 1 + 1 + 1 + 1 := by
  have hb : Below w.heap.size w W := by rw [← hW]; exact ((((Below.refl _ w).alloc (Nat.le_refl _) _).alloc (by simp) _).alloc (by simp; omega) _).alloc (by simp; omega) _
  refine ⟨⟨h.below hb, ?_, ?_, ?_, ?_, keep_cell k0 hb, keep_cell k1 hb⟩, hb, by rw [← hW]; simp⟩
  · rw [← hW]; exact old_at _ _ _ _ (old_at _ _ _ _ (old_at _ _ _ _ (heap_alloc_new w _)))
  · rw [← hW]; exact old_at _ _ _ _ (old_at _ _ _ _ (new_at _ _ _ (by simp)))
  · rw [← hW]; exact old_at _ _ _ _ (new_at _ _ _ (by simp))
  · rw [← hW]; exact new_at _ _ _ (by simp)
theorem Am.Bx.sc {w : World} {B n mb : Nat} {m0 : Int} (h : Am.Bx w B n mb m0) : (w.cell? ⟨n, 0, none⟩ = some (.string ⟨#[]⟩) ∧ w.cell? ⟨n, 1, none⟩ = some (.slice (some ⟨B + 2, 0, none⟩) 1 1) ∧ w.cell? ⟨n, 2, none⟩ = some (.slice (some ⟨B + 3, 0, none⟩) 1 1) ∧ w.cell? ⟨n, 3, none⟩ = some (.slice (some ⟨B + 6, 0, none⟩) 1 1) ∧ w.cell? ⟨n, 4, none⟩ = some (.slice none 0 0) ∧ w.cell? ⟨n, 5, none⟩ = some (.slice none 0 0) ∧ w.cell? ⟨n, 6, none⟩ = some (.slice none 0 0) ∧ w.cell? ⟨n, 7, none⟩ = some (.slice none 0 0) ∧ w.cell? ⟨n, 8, none⟩ = some (.slice (some ⟨B + 8, 0, none⟩) 1 1)) :=
  ⟨blk_cell h.s 0 rfl, blk_cell h.s 1 rfl, blk_cell h.s 2 rfl, blk_cell h.s 3 rfl, blk_cell h.s 4 rfl, blk_cell h.s 5 rfl, blk_cell h.s 6 rfl, blk_cell h.s 7 rfl, blk_cell h.s 8 rfl⟩
theorem Am.Bx.gc {w : World} {B n mb : Nat} {m0 : Int} (h : Am.Bx w B n mb m0) : w.cell? ⟨n + 1, 0, none⟩ = some (.slice (some ⟨B + 12, 0, none⟩) 2 2) ∧ w.cell? ⟨n + 1, 1, none⟩ = some (.slice none 0 0) ∧ w.cell? ⟨n + 1, 2, none⟩ = some (.slice none 0 0) ∧ w.cell? ⟨n + 1, 3, none⟩ = some (.int .i64 0) ∧ w.cell? ⟨n + 1, 4, none⟩ = some (.slice none 0 0) ∧ w.cell? ⟨n + 1, 5, none⟩ = some (.slice none 0 0) ∧ w.cell? ⟨n + 1, 6, none⟩ = some (.slice none 0 0) :=
  ⟨blk_cell h.g 0 rfl, blk_cell h.g 1 rfl, blk_cell h.g 2 rfl, blk_cell h.g 3 rfl, blk_cell h.g 4 rfl, blk_cell h.g 5 rfl, blk_cell h.g 6 rfl⟩
set_option maxHeartbeats 8000000 in
set_option maxRecDepth 100000 in
theorem lines_err (B mb : Nat) (w : World) (h : Am.Gr w B) (k0 : w.cell? ⟨mb, 0, none⟩ = some (.int .u8 4)) (k1 : w.cell? ⟨mb, 1, none⟩ = some (.int .u8 4)) :
    Calls Tryz.prog 22 #[.agg (Am.stat B), .agg (Am.ground B), .slice (some ⟨mb, 0, none⟩) 2 2] w fun e w' => e = .returned (.tuple #[.slice none 0 0, .int .i64 241]) ∧ Below w.heap.size w w' := by
  obtain ⟨W, hW⟩ : ∃ W, (((w.alloc (.cells (Am.stat B) 63)).alloc (.cells (Am.ground B) 72)).alloc (.cells #[.slice none 0 0] 24)).alloc (.cells #[.int .i64 0] 28) = W := ⟨_, rfl⟩
  obtain ⟨hbx, hbe, hsz⟩ := lines_boxes B mb 4 w h k0 k1 W hW
  have HX := Lib.hid hbx
  have HB := Lib.hid hbe
  have HSZ := Lib.hid hsz
  have HA := Lib.hid (fun w1 (b : Below W.heap.size W w1) => awards_two B mb w1 (HX.out.gr.below b) (keep_cell HX.out.k0 b) (keep_cell HX.out.k1 b))
  obtain ⟨s0, s1, s2, s3, s4, s5, s6, s7, s8⟩ := hbx.sc
  obtain ⟨g0, g1, g2, g3, g4, g5, g6⟩ := hbx.gc
  unfold Am.stat Am.ground at hW HA
  unfold Am.stat Am.ground
  clear h k0 k1 hbx hbe hsz
  go_enter Tryz.func22, Tryz.ntmps22
  go_upto_region 1 with (fail)
  try rw [hW]
  clear hW
  go_upto_region 2 with (first | (go_at_call 30; refine (HA.out _ (by first | exact Below.refl _ _ | exact (Below.refl _ _).drew)).mono ?_; rintro e w2 ⟨rfl, hb⟩; have HB2 := Lib.hid (show Below W.heap.size W w2 by first | exact hb | exact below_next (Below.refl _ _).drew hb); clear hb))
  obtain ⟨X, hX⟩ : ∃ X, w2.alloc (Obj.cells #[.slice none 0 0] 100) = X := ⟨_, rfl⟩
  have bX : Below W.heap.size W X := by rw [← hX]; exact below_next HB2.out ((Below.refl _ w2).alloc (Nat.le_refl _) _)
  have HBX := Lib.hid (below_next HB.out bX)
  have bx := HX.out.below bX
  have xr := blk_cell bx.r 0 rfl
  have xe := blk_cell bx.e 0 rfl
  have fr := blk_free bx.r 0
  have fe := blk_free bx.e 0
  clear bX bx s0 s1 s2 s3 s4 s5 s6 s7 s8 g0 g1 g2 g3 g4 g5 g6
  try rw [hX]
  clear hX
  go_wp2_with fail
  refine bodyPost_ret (lines_results _ _ (w.heap.size + 1 + 1) (w.heap.size + 1 + 1 + 1) (.slice none 0 0) (.int .i64 241) rfl rfl ?_ ?_) rfl ⟨rfl, ?_⟩
  · rw [World.cell?_setCell_other _ _ _ _ (fun e => by injection e with e1; omega)]
    exact World.cell?_setCell_same _ _ _ xr
  · exact World.cell?_setCell_same _ _ (.int .i64 241) (u := .int .i64 0) (by rw [World.cell?_setCell_other _ _ _ _ (fun e => by injection e with e1; omega)]; exact xe)
  · exact (HBX.out.setCell (p := ⟨w.heap.size + 1 + 1, 0, none⟩) (show w.heap.size ≤ w.heap.size + 1 + 1 by omega) _).setCell (p := ⟨w.heap.size + 1 + 1 + 1, 0, none⟩) (show w.heap.size ≤ w.heap.size + 1 + 1 + 1 by omega) _
end Go.Proofs.YtpcmhlbhepickaaGreat
