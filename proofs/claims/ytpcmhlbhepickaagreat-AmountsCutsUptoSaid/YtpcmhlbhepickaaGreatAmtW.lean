import Derived.Test.YtpcmhlbhepickaaGreatAmtLb
import Derived.Test.YtpcmhlbhepickaaGreatAmtO
import Derived.Test.YtpcmhlbhepickaaGreatRows
import Derived.Deep.Slices
import Derived.BigQuiet
import Derived.Deep.RegionHeldLaw
/- lexpriorlaw24.works: true -/
namespace Go.Proofs.YtpcmhlbhepickaaGreat
open Go.Shelf Go.RowKit Go.Lib
open Go.Proofs.YtpcmhlbhepickaaGreat.PAmountsCuts
open Go.Proofs.YtpcmhlbhepickaaGreatW.PrintWords
set_option linter.unusedVariables false
set_option linter.unusedSimpArgs false
namespace Am
def three : List S27 := [⟨0, 0, 0, 3000⟩, ⟨0, 0, 0, 1000⟩, ⟨0, 0, 0, 0⟩]
theorem three_err : budErr three 2000 = 0 := by decide
theorem three_sum : (Mo.sumE (paids three)).1 = 4000 := by decide
set_option maxRecDepth 100000 in
theorem three_share : lexpriorref02_Share.f 200 2000 (paids three) = some ([1500, 500, 0], 0) := by decide +kernel
theorem three_parts {ps : List Int} (h : Parts 2000 (paids three) ps) : ps = [1500, 500, 0] := by
  obtain ⟨_, ⟨k, hk⟩, _⟩ := h
  have h1 := at_rounds (g := fun k => lexpriorref02_Share.f k 2000 (paids three)) (fun k => lexpriorref02_Share.mono _ _ k) (Nat.le_max_left k 200) hk
  have h2 := at_rounds (g := fun k => lexpriorref02_Share.f k 2000 (paids three)) (fun k => lexpriorref02_Share.mono _ _ k) (Nat.le_max_right k 200) three_share
  have h3 := h1.symm.trans h2
  injection h3 with h3
  injection h3
theorem three_bud {bs : List S27} (h : Bud three 2000 bs) : bs = [⟨0, 0, 0, 1500⟩, ⟨0, 0, 0, 500⟩, ⟨0, 0, 0, 0⟩] := by
  obtain ⟨ps, hp, rfl⟩ := h.cut three_err (by rw [three_sum]; decide)
  rw [three_parts hp]
  rfl
end Am
theorem num24_calls (x : Int) (w : World) : Calls Tryz.prog 9 #[.int .i64 x] w fun e w' => e = .returned (.int .i64 x) ∧ w = w' := by
  go_enter Tryz.func9, Tryz.ntmps9
  go_wp2_with fail
  go_ret
  exact ⟨by first | rfl | simp, rfl⟩
theorem three_kd {w : World} {b : Nat} (h : w.heap[b]? = some (.cells #[.int .i64 0, .int .i64 0, .int .i64 0, .int .i64 3000, .int .i64 0, .int .i64 0, .int .i64 0, .int .i64 1000, .int .i64 0, .int .i64 0, .int .i64 0, .int .i64 0] 27 (0, 0))) : Kd.C k27 w (some ⟨b, 0, none⟩) Am.three.length Am.three := by
  have hr : Am.Row4 w b 3 (fun j => Am.three.getD j z27) := by
    refine ⟨fun j hj => ?_, fun j hj => ?_, fun j hj => ?_, fun j hj => ?_, fun j => blk_free h j⟩ <;>
      (rcases (show j = 0 ∨ j = 1 ∨ j = 2 by omega) with rfl | rfl | rfl <;> exact blk_cell h _ rfl)
  have hk := hr.kd (by decide)
  have e : (List.range 3).map (fun j => Am.three.getD j z27) = Am.three := Am.range_getD Am.three
  rw [e] at hk
  exact hk
set_option maxHeartbeats 8000000 in
set_option maxRecDepth 100000 in
theorem works_calls (w : World) : Calls Tryz.prog 11 #[] w fun e w' => e = .returned (.bool true) ∧ Below w.heap.size w w' := by
  have HO := Lib.hid (one_calls w)
  unfold Am.stat Am.ground at HO
  go_enter Tryz.func11, Tryz.ntmps11
  go_upto_region 2 with (first | (go_at_call 21; refine HO.out.mono ?_; rintro e w1 ⟨rfl, hg, hb⟩; have HG := Lib.hid hg; have HB := Lib.hid hb; clear hg hb))
  obtain ⟨X, hX⟩ : ∃ X, (w1.alloc (.cells (Am.stat w.heap.size) 63)).alloc (.cells (Am.ground w.heap.size) 72) = X := ⟨_, rfl⟩
  have bX : Below w1.heap.size w1 X := by rw [← hX]; exact ((Below.refl _ w1).alloc (Nat.le_refl _) _).alloc (by simp) _
  have hs : X.heap[w1.heap.size]? = some (.cells (Am.stat w.heap.size) 63 (0, 0)) := by rw [← hX]; exact old_at _ _ _ _ (heap_alloc_new w1 _)
  have hgr : X.heap[w1.heap.size + 1]? = some (.cells (Am.ground w.heap.size) 72 (0, 0)) := by rw [← hX]; exact new_at _ _ _ (by simp)
  have HGX := Lib.hid (HG.out.below bX)
  have HBX := Lib.hid (below_next HB.out bX)
  have HXs := Lib.hid (And.intro hs hgr)
  have s0 := blk_cell (v := .string ⟨#[]⟩) hs 0 rfl
  have s1 := blk_cell (v := .slice (some ⟨w.heap.size + 2, 0, none⟩) 1 1) hs 1 rfl
  have s2 := blk_cell (v := .slice (some ⟨w.heap.size + 3, 0, none⟩) 1 1) hs 2 rfl
  have s3 := blk_cell (v := .slice (some ⟨w.heap.size + 6, 0, none⟩) 1 1) hs 3 rfl
  have s4 := blk_cell (v := .slice none 0 0) hs 4 rfl
  have s5 := blk_cell (v := .slice none 0 0) hs 5 rfl
  have s6 := blk_cell (v := .slice none 0 0) hs 6 rfl
  have s7 := blk_cell (v := .slice none 0 0) hs 7 rfl
  have s8 := blk_cell (v := .slice (some ⟨w.heap.size + 8, 0, none⟩) 1 1) hs 8 rfl
  have g0 := blk_cell (v := .slice (some ⟨w.heap.size + 12, 0, none⟩) 2 2) hgr 0 rfl
  have g1 := blk_cell (v := .slice none 0 0) hgr 1 rfl
  have g2 := blk_cell (v := .slice none 0 0) hgr 2 rfl
  have g3 := blk_cell (v := .int .i64 0) hgr 3 rfl
  have g4 := blk_cell (v := .slice none 0 0) hgr 4 rfl
  have g5 := blk_cell (v := .slice none 0 0) hgr 5 rfl
  have g6 := blk_cell (v := .slice none 0 0) hgr 6 rfl
  unfold Am.stat Am.ground at hX
  try rw [hX]
  clear hX bX hs hgr
  obtain ⟨Ma, hMa⟩ : ∃ M, X.alloc (Obj.cells #[.int .u8 8, .int .u8 4] 76) = M := ⟨_, rfl⟩
  have bMa : Below X.heap.size X Ma := by rw [← hMa]; exact (Below.refl _ X).alloc (Nat.le_refl _) _
  have hmba : Ma.heap[X.heap.size]? = some (.cells #[.int .u8 8, .int .u8 4] 76 (0, 0)) := by rw [← hMa]; exact heap_alloc_new X _
  have hla := lines_one w.heap.size X.heap.size Ma (HGX.out.below bMa) (blk_cell hmba 0 rfl) (blk_cell hmba 1 rfl)
  unfold Am.stat Am.ground at hla
  have HLa := Lib.hid hla
  have HBMa := Lib.hid (below_next HBX.out bMa)
  have HXMa := Lib.hid bMa
  clear bMa hmba hla
  go_upto_region 3 with (first | (go_at_call 22; refine HLa.out.mono ?_; rintro e V ⟨⟨l4, lc, rfl, hlc, o0, o1, o2, o3⟩, hb⟩; have HOL := Lib.hid (show (V.cell? ⟨l4, 0, none⟩ = some (.int .i64 0) ∧ V.cell? ⟨l4, 1, none⟩ = some (.int .i64 0) ∧ V.cell? ⟨l4, 2, none⟩ = some (.int .i64 2000) ∧ V.cell? ⟨l4, 3, none⟩ = some (.int .i64 1500)) ∧ 1 ≤ lc from ⟨⟨o0, o1, o2, o3⟩, hlc⟩); have HXV := Lib.hid (HXMa.out.trans (hb.mono HXMa.out.size)); have HBV := Lib.hid (below_next HBMa.out hb); clear hb o0 o1 o2 o3 hlc))
  try clear hMa
  clear s0 s1 s2 s3 s4 s5 s6 s7 s8 g0 g1 g2 g3 g4 g5 g6
  have HGV := Lib.hid (HGX.out.below HXV.out)
  have hs := (HXV.out.block _ (blk_lt HXs.out.1)).trans HXs.out.1
  have hgr := (HXV.out.block _ (blk_lt HXs.out.2)).trans HXs.out.2
  have s0 := blk_cell (v := .string ⟨#[]⟩) hs 0 rfl
  have s1 := blk_cell (v := .slice (some ⟨w.heap.size + 2, 0, none⟩) 1 1) hs 1 rfl
  have s2 := blk_cell (v := .slice (some ⟨w.heap.size + 3, 0, none⟩) 1 1) hs 2 rfl
  have s3 := blk_cell (v := .slice (some ⟨w.heap.size + 6, 0, none⟩) 1 1) hs 3 rfl
  have s4 := blk_cell (v := .slice none 0 0) hs 4 rfl
  have s5 := blk_cell (v := .slice none 0 0) hs 5 rfl
  have s6 := blk_cell (v := .slice none 0 0) hs 6 rfl
  have s7 := blk_cell (v := .slice none 0 0) hs 7 rfl
  have s8 := blk_cell (v := .slice (some ⟨w.heap.size + 8, 0, none⟩) 1 1) hs 8 rfl
  have g0 := blk_cell (v := .slice (some ⟨w.heap.size + 12, 0, none⟩) 2 2) hgr 0 rfl
  have g1 := blk_cell (v := .slice none 0 0) hgr 1 rfl
  have g2 := blk_cell (v := .slice none 0 0) hgr 2 rfl
  have g3 := blk_cell (v := .int .i64 0) hgr 3 rfl
  have g4 := blk_cell (v := .slice none 0 0) hgr 4 rfl
  have g5 := blk_cell (v := .slice none 0 0) hgr 5 rfl
  have g6 := blk_cell (v := .slice none 0 0) hgr 6 rfl
  clear hs hgr
  obtain ⟨Mb, hMb⟩ : ∃ M, V.alloc (Obj.cells #[.int .u8 4, .int .u8 4] 76) = M := ⟨_, rfl⟩
  have bMb : Below V.heap.size V Mb := by rw [← hMb]; exact (Below.refl _ V).alloc (Nat.le_refl _) _
  have hmbb : Mb.heap[V.heap.size]? = some (.cells #[.int .u8 4, .int .u8 4] 76 (0, 0)) := by rw [← hMb]; exact heap_alloc_new V _
  have hlb := lines_err w.heap.size V.heap.size Mb (HGV.out.below bMb) (blk_cell hmbb 0 rfl) (blk_cell hmbb 1 rfl)
  unfold Am.stat Am.ground at hlb
  have HLb := Lib.hid hlb
  have HBMb := Lib.hid (below_next HBV.out bMb)
  have HXMb := Lib.hid bMb
  clear bMb hmbb hlb
  go_upto_region 4 with (first | (go_at_call 22; refine HLb.out.mono ?_; rintro e U ⟨rfl, hb⟩; have HVU := Lib.hid (HXMb.out.trans (hb.mono HXMb.out.size)); have HBU := Lib.hid (below_next HBMb.out hb); clear hb))
  try clear hMb
  clear s0 s1 s2 s3 s4 s5 s6 s7 s8 g0 g1 g2 g3 g4 g5 g6
  obtain ⟨L, hL⟩ : ∃ L, U.alloc (Obj.cells #[.int .i64 0, .int .i64 0, .int .i64 0, .int .i64 3000, .int .i64 0, .int .i64 0, .int .i64 0, .int .i64 1000, .int .i64 0, .int .i64 0, .int .i64 0, .int .i64 0] 27) = L := ⟨_, rfl⟩
  have bL : Below U.heap.size U L := by rw [← hL]; exact (Below.refl _ U).alloc (Nat.le_refl _) _
  have hc := bud_some_calls ⟨U.heap.size, 0, none⟩ 3 Am.three 2000 L (three_kd (by rw [← hL]; exact heap_alloc_new U _)) (Nat.le_refl _) (by decide)
  rw [show Am.three.length = 3 from rfl] at hc
  have HC := Lib.hid hc
  have HBL := Lib.hid (below_next HBU.out bL)
  have HUL := Lib.hid bL
  clear bL hc
  go_upto_region 5 with (first | (go_at_call 7; refine HC.out.mono ?_; rintro e Y ⟨hb, A', c', bs, rfl, hk, hcl, hbud⟩; have HKD := Lib.hid (And.intro hk (And.intro hcl hbud)); have HUY := Lib.hid (HUL.out.trans (hb.mono HUL.out.size)); have HBY := Lib.hid (below_next HBL.out hb); clear hb hk hcl hbud))
  try clear hL
  rw [Am.three_err]
  obtain ⟨hk, hcl, hbud⟩ := HKD.out
  obtain rfl := Am.three_bud hbud
  obtain ⟨a, rfl, hcell⟩ := Am.c27_cell hk (by decide)
  obtain ⟨p0, p1, p2, p3⟩ := Am.line4_of hcell 0 (by decide)
  obtain ⟨q0, q1, q2, q3⟩ := Am.line4_of hcell 1 (by decide)
  obtain ⟨r0, r1, r2, r3⟩ := Am.line4_of hcell 2 (by decide)
  have bVY := HVU.out.trans (HUY.out.mono HVU.out.size)
  have o0 := keep_cell HOL.out.1.1 bVY
  have o1 := keep_cell HOL.out.1.2.1 bVY
  have o2 := keep_cell HOL.out.1.2.2.1 bVY
  have o3 := keep_cell HOL.out.1.2.2.2 bVY
  simp only [List.length_cons, List.length_nil, Nat.reduceAdd]
  have x1 : Y.cell? ⟨a.block, a.off + 3, none⟩ = some (.int .i64 1500) := p3
  have x2 : Y.cell? ⟨a.block, a.off + 4 + 3, none⟩ = some (.int .i64 500) := q3
  have x3 : Y.cell? ⟨a.block, a.off + 8 + 3, none⟩ = some (.int .i64 0) := r3
  clear hk hcl hbud hcell bVY p0 p1 p2 q0 q1 q2 r0 r1 r2 p3 q3 r3 HKD
  go_wp2_with (first | (go_at_call 9; refine (num24_calls _ _).mono ?_; rintro e W9 ⟨rfl, rfl⟩))
  go_ret
  exact ⟨by first | rfl | simp, HBY.out⟩
end Go.Proofs.YtpcmhlbhepickaaGreat
/- amounts.Budget, the plain law: no cent is lost -/
namespace Go.Proofs.YtpcmhlbhepickaaGreat
open Go.RowKit Go.Lib
open Go.Proofs.YtpcmhlbhepickaaGreat.PAmountsCuts
open Go.Proofs.YtpcmhlbhepickaaGreatW.PrintWords
set_option linter.unusedVariables false
set_option linter.unusedSimpArgs false
namespace Am
/-- what the stage's theorem says of a budget -/
structure Law (ls : List S27) (most : Int) (bs : List S27) : Prop where
  len : bs.length = ls.length
  sum : Mo.sumE (paids bs) = (if (Mo.sumE (paids ls)).1 ≤ most then (Mo.sumE (paids ls)).1 else most, 0)
  each : ∀ i, i < ls.length → (bs.getD i z27).f0 = (ls.getD i z27).f0 ∧ (bs.getD i z27).f1 = (ls.getD i z27).f1 ∧ (bs.getD i z27).f2 = (ls.getD i z27).f2 ∧ 0 ≤ (bs.getD i z27).f3 ∧ (bs.getD i z27).f3 ≤ (ls.getD i z27).f3
  ord : ∀ i k, i < ls.length → k < ls.length → (ls.getD k z27).f3 < (ls.getD i z27).f3 → (bs.getD k z27).f3 ≤ (bs.getD i z27).f3
theorem err_ok {ls : List S27} {most : Int} (h : budErr ls most = 0) : ls.length ≤ 4096 ∧ ls.all okL = true ∧ 0 ≤ most ∧ Mo.chk most = 0 ∧ (Mo.sumE (paids ls)).2 = 0 := by
  unfold budErr at h
  by_cases c1 : 4096 < ls.length
  · rw [if_pos c1] at h; exact absurd h (by decide)
  rw [if_neg c1] at h
  by_cases c2 : ls.all okL = false
  · rw [if_pos c2] at h; exact absurd h (by decide)
  rw [if_neg c2] at h
  by_cases c3 : most < 0 ∨ Mo.chk most ≠ 0
  · rw [if_pos c3] at h; exact absurd h (by decide)
  rw [if_neg c3] at h
  refine ⟨by omega, by simpa using c2, ?_, ?_, h⟩
  · rcases Int.lt_or_le most 0 with c | c
    · exact absurd (.inl c) c3
    · exact c
  · by_cases c : Mo.chk most = 0
    · exact c
    · exact absurd (.inr c) c3
theorem ok_at {ls : List S27} (h : ls.all okL = true) (i : Nat) (hi : i < ls.length) : 0 ≤ (ls.getD i z27).f3 := by
  rw [getD_line ls i hi]
  exact ((okL_iff _).1 (List.all_eq_true.1 h _ (List.getElem_mem hi))).1
theorem paids_get (ls : List S27) (i : Nat) (hi : i < ls.length) : (paids ls)[i]? = some (ls.getD i z27).f3 := by
  rw [getD_line ls i hi]
  simp [paids, hi]
theorem setP_at (ls : List S27) (ps : List Int) (i : Nat) (hi : i < ls.length) : (setP ls ps).getD i z27 = { ls.getD i z27 with f3 := ps.getD i 0 } := by
  unfold setP
  simp [List.getD, hi]
theorem setP_paids (ls : List S27) (ps : List Int) (h : ps.length = ls.length) : paids (setP ls ps) = ps := by
  refine List.ext_getElem (by simp [paids, setP, h]) (fun i h1 h2 => ?_)
  simp [paids, setP, h2]
theorem law_of {ls : List S27} {most : Int} {bs : List S27} (h : Bud ls most bs) (he : budErr ls most = 0) : Law ls most bs := by
  obtain ⟨hn, hall, hm, hk, hse⟩ := err_ok he
  by_cases c : (Mo.sumE (paids ls)).1 ≤ most
  · obtain rfl := h.same he c
    refine ⟨rfl, ?_, fun i hi => ⟨rfl, rfl, rfl, ok_at hall i hi, Int.le_refl _⟩, fun i k _ _ hlt => Int.le_of_lt hlt⟩
    rw [if_pos c]
    exact Prod.ext rfl hse
  · obtain ⟨ps, ⟨hlen, _, n, t, W, B, rfl, hln, hW, hok, hlow, hpl⟩, rfl⟩ := h.cut he (by omega)
    rw [paids_len] at hln hlen
    subst hln
    have hx : ∀ i, i < ls.length → (ls.getD i z27).f3 = (W i : Int) := fun i hi => by
      have h1 := hW i hi
      rw [paids_get ls i hi] at h1
      exact Option.some.inj h1
    have hy : ∀ i, i < ls.length → ((setP ls ps).getD i z27).f3 = (B i : Int) := fun i hi => by
      rw [setP_at ls ps i hi]
      show ps.getD i 0 = _
      rw [hpl, List.getD_eq_getElem?_getD, Wh.pl_at _ _ i hi]
      rfl
    have hb := chk_bound _ hk
    have hsum : (paids ls).sum = (Sh.pre W ls.length : Int) := by
      have e : paids ls = Wh.pl ls.length W := List.ext_getElem (by simp [paids, Wh.pl]) (fun i h1 h2 => by
        have hi : i < ls.length := by simpa [paids] using h1
        have h3 := hW i hi
        rw [List.getElem?_eq_getElem h1] at h3
        rw [Option.some.inj h3]
        simp [Wh.pl])
      rw [e, Wh.pl_sum]
    have hT : t < Sh.pre W ls.length := by
      have h1 : (Mo.sumE (paids ls)).1 = (paids ls).sum ∨ (Mo.sumE (paids ls)).1 = 0 := by
        unfold Mo.sumE
        split
        · split
          · exact .inl rfl
          · exact .inr rfl
        · exact .inr rfl
      rcases h1 with h1 | h1
      · rw [h1, hsum] at c; omega
      · rw [h1] at c; omega
    refine ⟨by simp [setP], ?_, fun i hi => ?_, fun i k hi hk2 hlt => ?_⟩
    · rw [if_neg c, setP_paids ls ps hlen, hpl, Wh.pl_sumE _ _ (by rw [hok.sum]; omega), hok.sum]
    · rw [hy i hi, hx i hi, setP_at ls ps i hi]
      exact ⟨rfl, rfl, rfl, by omega, by have := hlow hT i hi; omega⟩
    · rw [hx i hi, hx k hk2] at hlt
      rw [hy i hi, hy k hk2]
      have := hok.up i k hi hk2 (by omega)
      omega
end Am
theorem bud_calls (A : Option Addr) (c : Nat) (ls : List S27) (most : Int) (w : World) (hC : Kd.C k27 w A ls.length ls) (hc : ls.length ≤ c) (hA : A = none → c = 0) :
    Calls Tryz.prog 7 #[.slice A ls.length c, .int .i64 most] w fun e w' => Below w.heap.size w w' ∧ Am.BudPost ls most e w' := by
  rcases Nat.eq_zero_or_pos ls.length with h0 | h0
  · obtain rfl := List.eq_nil_of_length_eq_zero h0
    exact bud_nil_calls A c most w hA
  · obtain ⟨a, rfl, _⟩ := Am.c27_cell hC h0
    exact bud_some_calls a c ls most w hC hc h0
end Go.Proofs.YtpcmhlbhepickaaGreat
/- what a []lexpriorref24.Line reads -/
namespace Go.Proofs.YtpcmhlbhepickaaGreat
open Go.RowKit Go.Lib Go.ChangeShapes Go.Deep
open Go.Proofs.YtpcmhlbhepickaaGreat.PAmountsCuts
open Go.Proofs.YtpcmhlbhepickaaGreatW.PrintWords
set_option linter.unusedVariables false
set_option linter.unusedSimpArgs false
theorem line_cells : Tryz.prog.cellsOf 26 = 4 := by kernel_rfl
theorem bulk_aggs {H : Type} (D : Nat → DataW H) : ∀ n, (∀ i, i < n → 1 ≤ Rows.uptoBulk (D i)) → n ≤ Rows.uptoBulkAll ((List.range n).map D) := by
  have key : ∀ l : List (DataW H), (∀ d ∈ l, 1 ≤ Rows.uptoBulk d) → l.length ≤ Rows.uptoBulkAll l := by
    intro l
    induction l with
    | nil => intro _; exact Nat.zero_le _
    | cons d l ih =>
      intro h
      show l.length + 1 ≤ Rows.uptoBulk d + Rows.uptoBulkAll l
      have h1 := h d (List.mem_cons_self ..)
      have h2 := ih (fun x hx => h x (List.mem_cons_of_mem _ hx))
      omega
  intro n h
  have h1 := key ((List.range n).map D) (fun d hd => by
    obtain ⟨i, hi, rfl⟩ := List.mem_map.1 hd
    exact h i (List.mem_range.1 hi))
  simpa using h1
theorem add_mul4 (a : Addr) (j i : Nat) : (a.add (j * 4)).add i = a.add (j * 4 + i) := by
  cases i with
  | zero => simp [Addr.add]
  | succ i => rw [Am.add_off a (i + 1) (j * 4) (by omega)]; simp [Addr.add]
set_option maxRecDepth 100000 in
theorem open_lines {H : Type} {enc : TypeId × Value → H} {W : World} {base fuel : Nat} {held : Bool} {A : Option Addr} {len cap : Nat} {d : DataW H} {ps : List MemPlace}
    (h : DataW.trod enc Tryz.prog W base (fun _ => true) held fuel 22 [.slice A len cap] = some (d, ps)) :
    ∃ l : List S26, len = l.length ∧ (Kd.C k26 W A l.length l ∧ l.length ≤ cap ∧ (A = none → cap = 0)) ∧ (l.length = 0 ∨ ∃ es sp : List (DataW H), d = .slice es sp ∧ es.length = l.length) ∧ l.length ≤ Rows.uptoBulk d := by
  rcases open_slice Tryz.underlying22 h with ⟨h1, h2⟩ | ⟨a, n, c, m, k, D, Pl, h1, hb, hl, hm, hmm, hx, hc⟩
  · obtain ⟨rfl, rfl, rfl⟩ : A = none ∧ len = 0 ∧ cap = 0 := by simpa using h1
    exact ⟨[], rfl, ⟨⟨rfl, by simp, fun h => absurd h (by simp)⟩, Nat.zero_le _, fun _ => rfl⟩, .inl rfl, Nat.zero_le _⟩
  · obtain ⟨rfl, rfl, rfl⟩ : A = some a ∧ len = n ∧ cap = c := by simpa using h1
    rw [if_pos rfl] at hmm
    have hmax : maxLen ≤ 9223372036854775807 := by decide
    have each : ∀ i, i < len → ∃ x : S26, 1 ≤ Rows.uptoBulk (D i) ∧ W.cell? (a.add (i * 4)) = some (.int .i64 x.f0) ∧ W.cell? (a.add (i * 4 + 1)) = some (.int .i64 x.f1) ∧ W.cell? (a.add (i * 4 + 2)) = some (.int .i64 x.f2) ∧ W.cell? (a.add (i * 4 + 3)) = some (.int .i64 x.f3) := by
      intro i hi
      obtain ⟨cs', h1, h2⟩ := hc i (by omega)
      rw [line_cells] at h1
      obtain ⟨_, hlen, hcell⟩ := World.cells?_some h1
      obtain ⟨xs, q, hq, hxy, _, hxl, hf⟩ := DataW.trod_struct Tryz.underlying26 h2
      match cs', hlen with
      | [v0, v1, v2, v3], _ =>
        have hxl' : xs.length = 4 := hxl
        match xs, hxl' with
        | [y0, y1, y2, y3], _ =>
          have g0 := hf 0 _ rfl
          have g1 := hf 1 _ rfl
          have g2 := hf 2 _ rfl
          have g3 := hf 3 _ rfl
          obtain ⟨n0, e0, _⟩ := DataW.trod_int Tryz.underlying3 (g0.trans (by rfl))
          obtain ⟨n1, e1, _⟩ := DataW.trod_int Tryz.underlying3 (g1.trans (by rfl))
          obtain ⟨n2, e2, _⟩ := DataW.trod_int Tryz.underlying23 (g2.trans (by rfl))
          obtain ⟨n3, e3, _⟩ := DataW.trod_int Tryz.underlying23 (g3.trans (by rfl))
          have c0 := hcell 0 (by omega)
          have c1 := hcell 1 (by omega)
          have c2 := hcell 2 (by omega)
          have c3 := hcell 3 (by omega)
          rw [add_mul4] at c0 c1 c2 c3
          have x0 : [v0] = [Value.int .i64 n0] := e0
          have x1 : [v1] = [Value.int .i64 n1] := e1
          have x2 : [v2] = [Value.int .i64 n2] := e2
          have x3 : [v3] = [Value.int .i64 n3] := e3
          injection x0 with x0
          injection x1 with x1
          injection x2 with x2
          injection x3 with x3
          clear e0 e1 e2 e3 g0 g1 g2 g3 hf
          refine ⟨⟨n0, n1, n2, n3⟩, ?_, ?_, ?_, ?_, ?_⟩
          · have hd : D i = .agg [y0.1, y1.1, y2.1, y3.1] := by simpa using congrArg Prod.fst hxy
            rw [hd]
            show 1 ≤ _ + 1
            omega
          · exact c0.trans (congrArg some x0)
          · exact c1.trans (congrArg some x1)
          · exact c2.trans (congrArg some x2)
          · exact c3.trans (congrArg some x3)
    obtain ⟨f, hf⟩ : ∃ f : Nat → S26, ∀ i, i < len → 1 ≤ Rows.uptoBulk (D i) ∧ W.cell? (a.add (i * 4)) = some (.int .i64 (f i).f0) ∧ W.cell? (a.add (i * 4 + 1)) = some (.int .i64 (f i).f1) ∧ W.cell? (a.add (i * 4 + 2)) = some (.int .i64 (f i).f2) ∧ W.cell? (a.add (i * 4 + 3)) = some (.int .i64 (f i).f3) := by
      refine ⟨fun i => if hi : i < len then Classical.choose (each i hi) else z26, fun i hi => ?_⟩
      simp only [dif_pos hi]
      exact Classical.choose_spec (each i hi)
    have hlen : ((List.range len).map f).length = len := by simp
    refine ⟨(List.range len).map f, hlen.symm, ⟨⟨rfl, by omega, fun _ => ⟨a, rfl, fun j x hj => ?_⟩⟩, by omega, fun e => by cases e⟩, .inr ⟨_, _, congrArg Prod.fst hx, by simp⟩, ?_⟩
    · have hjn : j < len := by
        rcases Nat.lt_or_ge j len with c | c
        · exact c
        · rw [List.getElem?_eq_none (by omega)] at hj; cases hj
      have hp : x = f j := by
        rw [List.getElem?_eq_getElem (by omega)] at hj
        simpa using (Option.some.inj hj).symm
      subst hp
      obtain ⟨_, c0, c1, c2, c3⟩ := hf j hjn
      refine ⟨_, rfl, k26_mk W (f j), fun i u hi => ?_⟩
      have e : k26.sz = 4 := rfl
      rw [e]
      match i, hi with
      | 0, hi => (obtain rfl : Value.int .i64 (f j).f0 = u := by simpa using hi); exact c0
      | 1, hi => (obtain rfl : Value.int .i64 (f j).f1 = u := by simpa using hi); exact c1
      | 2, hi => (obtain rfl : Value.int .i64 (f j).f2 = u := by simpa using hi); exact c2
      | 3, hi => (obtain rfl : Value.int .i64 (f j).f3 = u := by simpa using hi); exact c3
    · have hdx : d = _ := congrArg Prod.fst hx
      rw [hlen, hdx]
      show len ≤ Rows.uptoBulkAll _ + Rows.uptoBulkAll _ + 1
      have := bulk_aggs D len (fun i hi => (hf i hi).1)
      omega
end Go.Proofs.YtpcmhlbhepickaaGreat
