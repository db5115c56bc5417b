import Derived.Deep.RegionHeldLaw
import Derived.Test.YtcakgennlliejaaGreatDoorSynK21
set_option maxHeartbeats 8000000
set_option maxRecDepth 100000
namespace Go.Proofs.YtcakgennlliejaaGreatDoor
open Go.Shelf Go.RowKit Go.Lib
open Go.Proofs.YtcakgennlliejaaGreatDoorW.PrintWords
open Go.Proofs.YtcakgennlliejaaGreatDoor.PSyntaxJoined
open Sx
set_option linter.unusedVariables false
set_option linter.unusedSimpArgs false
theorem same_guard (x:S98) (A0 B0:Option Addr) (c0 d0:Nat) (A2 B2:Option Addr) (c2 d2:Nat) (w:World) (g0:Kd.C k102 w A0 x.f0.length x.f0) (k0:Kd.C k102 w B0 x.f0.length x.f0) (g2:Kd.C k102 w A2 x.f2.length x.f2) (k2:Kd.C k102 w B2 x.f2.length x.f2) (hs:smGuard x) :
  Calls Tryz.prog 114 #[.agg #[.slice A0 x.f0.length c0,.int .i64 x.f1,.slice A2 x.f2.length c2],.agg #[.slice B0 x.f0.length d0,.int .i64 x.f1,.slice B2 x.f2.length d2]] w fun e w'=>e=.returned (.bool true)∧Below w.heap.size w w':=by
 have HSM:=Lib.hid hs
 obtain ⟨X,hX⟩:∃ X,(w.alloc (.cells #[.slice A0 x.f0.length c0,.int .i64 x.f1,.slice A2 x.f2.length c2] 98)).alloc (.cells #[.slice B0 x.f0.length d0,.int .i64 x.f1,.slice B2 x.f2.length d2] 98)=X:=⟨_,rfl⟩
 obtain ⟨b0,hb0⟩:∃ b,w.heap.size=b:=⟨_,rfl⟩
 obtain ⟨b1,hb1⟩:∃ b,b0+1=b:=⟨_,rfl⟩
 have HBX:=Lib.hid (show Below w.heap.size w X by rw [← hX];exact ((Below.refl _ w).alloc (Nat.le_refl _) _).alloc (by rw [World.size_alloc];omega) _)
 have h1:X.heap[b1]?=some (.cells #[.slice B0 x.f0.length d0,.int .i64 x.f1,.slice B2 x.f2.length d2] 98 (0,0)):=by
  rw [← hX,← hb1,← hb0]
  have h:=heap_alloc_new (w.alloc (.cells #[.slice A0 x.f0.length c0,.int .i64 x.f1,.slice A2 x.f2.length c2] 98)) (.cells #[.slice B0 x.f0.length d0,.int .i64 x.f1,.slice B2 x.f2.length d2] 98)
  rw [World.size_alloc] at h
  exact h
 have h0:X.heap[b0]?=some (.cells #[.slice A0 x.f0.length c0,.int .i64 x.f1,.slice A2 x.f2.length c2] 98 (0,0)):=by
  rw [← hX,← hb0]
  exact (((Below.refl _ _).alloc (Nat.le_refl _) _).block _ (by simp only [World.size_alloc];omega)).trans (heap_alloc_new w _)
 have HCE:=Lib.hid (fun W (hW:Below X.heap.size X W)=>(⟨(hW.block b0 (blk_lt h0)).trans h0,(hW.block b1 (blk_lt h1)).trans h1⟩:W.heap[b0]?=some (.cells #[.slice A0 x.f0.length c0,.int .i64 x.f1,.slice A2 x.f2.length c2] 98 (0,0))∧W.heap[b1]?=some (.cells #[.slice B0 x.f0.length d0,.int .i64 x.f1,.slice B2 x.f2.length d2] 98 (0,0))))
 have G0:=Lib.hid (Kd.C_below g0 HBX.out)
 have K0:=Lib.hid (Kd.C_below k0 HBX.out)
 have G2:=Lib.hid (Kd.C_below g2 HBX.out)
 have K2:=Lib.hid (Kd.C_below k2 HBX.out)
 have HB0:=Lib.hid (Below.refl X.heap.size X)
 have y0_0:=blk_cell (v:=.slice A0 x.f0.length c0) (HCE.out X HB0.out).1 0 rfl
 have z0_0:=blk_cell (v:=.slice B0 x.f0.length d0) (HCE.out X HB0.out).2 0 rfl
 have y0_1:=blk_cell (v:=.int .i64 x.f1) (HCE.out X HB0.out).1 1 rfl
 have z0_1:=blk_cell (v:=.int .i64 x.f1) (HCE.out X HB0.out).2 1 rfl
 have y0_2:=blk_cell (v:=.slice A2 x.f2.length c2) (HCE.out X HB0.out).1 2 rfl
 have z0_2:=blk_cell (v:=.slice B2 x.f2.length d2) (HCE.out X HB0.out).2 2 rfl
 have HX:=Lib.hid hX
 have HN0:=Lib.hid hb0
 have HN1:=Lib.hid hb1
 have HM0:=Lib.hid (show sm x.f0∧∀ y∈x.f0,smTerm y from hs.1)
 have HM1:=Lib.hid (show sm x.f2∧∀ y∈x.f2,smTerm y from hs.2)
 clear g0 k0 g2 k2 hs hX hb0 hb1 h0 h1
 go_enter Tryz.func114,Tryz.ntmps114
 go_upto_region 1 with (fail)
 try rw [HX.out]
 try rw [HN0.out]
 try rw [HN1.out]
 go_wp2_with (first | (go_at_call 129;((with_reducible refine (same_terms x.f0 A0 B0 c0 d0 _ (Kd.C_below G0.out HB0.out) (Kd.C_below K0.out HB0.out) HM0.out).mono ?_);rintro e w1 ⟨rfl,hb1⟩;have HB1:=Lib.hid (HB0.out.trans (hb1.mono HB0.out.size));have y1_0:=blk_cell (v:=.slice A0 x.f0.length c0) (HCE.out _ HB1.out).1 0 rfl;have z1_0:=blk_cell (v:=.slice B0 x.f0.length d0) (HCE.out _ HB1.out).2 0 rfl;have y1_1:=blk_cell (v:=.int .i64 x.f1) (HCE.out _ HB1.out).1 1 rfl;have z1_1:=blk_cell (v:=.int .i64 x.f1) (HCE.out _ HB1.out).2 1 rfl;have y1_2:=blk_cell (v:=.slice A2 x.f2.length c2) (HCE.out _ HB1.out).1 2 rfl;have z1_2:=blk_cell (v:=.slice B2 x.f2.length d2) (HCE.out _ HB1.out).2 2 rfl;clear hb1)) | (go_at_call 129;((with_reducible refine (same_terms x.f2 A2 B2 c2 d2 _ (Kd.C_below G2.out HB1.out) (Kd.C_below K2.out HB1.out) HM1.out).mono ?_);rintro e w2 ⟨rfl,hb2⟩;have HB2:=Lib.hid (HB1.out.trans (hb2.mono HB1.out.size));have y2_0:=blk_cell (v:=.slice A0 x.f0.length c0) (HCE.out _ HB2.out).1 0 rfl;have z2_0:=blk_cell (v:=.slice B0 x.f0.length d0) (HCE.out _ HB2.out).2 0 rfl;have y2_1:=blk_cell (v:=.int .i64 x.f1) (HCE.out _ HB2.out).1 1 rfl;have z2_1:=blk_cell (v:=.int .i64 x.f1) (HCE.out _ HB2.out).2 1 rfl;have y2_2:=blk_cell (v:=.slice A2 x.f2.length c2) (HCE.out _ HB2.out).1 2 rfl;have z2_2:=blk_cell (v:=.slice B2 x.f2.length d2) (HCE.out _ HB2.out).2 2 rfl;clear hb2)))
 go_ret
 exact ⟨by simp,HBX.out.trans (HB2.out.mono HBX.out.size)⟩
theorem same_prem (x:S100) (A3 B3:Option Addr) (c3 d3:Nat) (A6 B6:Option Addr) (c6 d6:Nat) (A8 B8:Option Addr) (c8 d8:Nat) (w:World) (g3:Kd.C Kd.string w A3 x.f1.f2.length x.f1.f2) (k3:Kd.C Kd.string w B3 x.f1.f2.length x.f1.f2) (g6:Kd.C k102 w A6 x.f2.f0.length x.f2.f0) (k6:Kd.C k102 w B6 x.f2.f0.length x.f2.f0) (g8:Kd.C k102 w A8 x.f2.f2.length x.f2.f2) (k8:Kd.C k102 w B8 x.f2.f2.length x.f2.f2) (hs:smPrem x) :
  Calls Tryz.prog 96 #[.agg #[.int .i64 x.f0,.bool x.f1.f0,.string x.f1.f1,.slice A3 x.f1.f2.length c3,.bool x.f1.f3,.int .i64 x.f1.f4,.slice A6 x.f2.f0.length c6,.int .i64 x.f2.f1,.slice A8 x.f2.f2.length c8,.string x.f3,.string x.f4],.agg #[.int .i64 x.f0,.bool x.f1.f0,.string x.f1.f1,.slice B3 x.f1.f2.length d3,.bool x.f1.f3,.int .i64 x.f1.f4,.slice B6 x.f2.f0.length d6,.int .i64 x.f2.f1,.slice B8 x.f2.f2.length d8,.string x.f3,.string x.f4]] w fun e w'=>e=.returned (.bool true)∧Below w.heap.size w w':=by
 have HSM:=Lib.hid hs
 obtain ⟨X,hX⟩:∃ X,(w.alloc (.cells #[.int .i64 x.f0,.bool x.f1.f0,.string x.f1.f1,.slice A3 x.f1.f2.length c3,.bool x.f1.f3,.int .i64 x.f1.f4,.slice A6 x.f2.f0.length c6,.int .i64 x.f2.f1,.slice A8 x.f2.f2.length c8,.string x.f3,.string x.f4] 100)).alloc (.cells #[.int .i64 x.f0,.bool x.f1.f0,.string x.f1.f1,.slice B3 x.f1.f2.length d3,.bool x.f1.f3,.int .i64 x.f1.f4,.slice B6 x.f2.f0.length d6,.int .i64 x.f2.f1,.slice B8 x.f2.f2.length d8,.string x.f3,.string x.f4] 100)=X:=⟨_,rfl⟩
 obtain ⟨b0,hb0⟩:∃ b,w.heap.size=b:=⟨_,rfl⟩
 obtain ⟨b1,hb1⟩:∃ b,b0+1=b:=⟨_,rfl⟩
 have HBX:=Lib.hid (show Below w.heap.size w X by rw [← hX];exact ((Below.refl _ w).alloc (Nat.le_refl _) _).alloc (by rw [World.size_alloc];omega) _)
 have h1:X.heap[b1]?=some (.cells #[.int .i64 x.f0,.bool x.f1.f0,.string x.f1.f1,.slice B3 x.f1.f2.length d3,.bool x.f1.f3,.int .i64 x.f1.f4,.slice B6 x.f2.f0.length d6,.int .i64 x.f2.f1,.slice B8 x.f2.f2.length d8,.string x.f3,.string x.f4] 100 (0,0)):=by
  rw [← hX,← hb1,← hb0]
  have h:=heap_alloc_new (w.alloc (.cells #[.int .i64 x.f0,.bool x.f1.f0,.string x.f1.f1,.slice A3 x.f1.f2.length c3,.bool x.f1.f3,.int .i64 x.f1.f4,.slice A6 x.f2.f0.length c6,.int .i64 x.f2.f1,.slice A8 x.f2.f2.length c8,.string x.f3,.string x.f4] 100)) (.cells #[.int .i64 x.f0,.bool x.f1.f0,.string x.f1.f1,.slice B3 x.f1.f2.length d3,.bool x.f1.f3,.int .i64 x.f1.f4,.slice B6 x.f2.f0.length d6,.int .i64 x.f2.f1,.slice B8 x.f2.f2.length d8,.string x.f3,.string x.f4] 100)
  rw [World.size_alloc] at h
  exact h
 have h0:X.heap[b0]?=some (.cells #[.int .i64 x.f0,.bool x.f1.f0,.string x.f1.f1,.slice A3 x.f1.f2.length c3,.bool x.f1.f3,.int .i64 x.f1.f4,.slice A6 x.f2.f0.length c6,.int .i64 x.f2.f1,.slice A8 x.f2.f2.length c8,.string x.f3,.string x.f4] 100 (0,0)):=by
  rw [← hX,← hb0]
  exact (((Below.refl _ _).alloc (Nat.le_refl _) _).block _ (by simp only [World.size_alloc];omega)).trans (heap_alloc_new w _)
 have HCE:=Lib.hid (fun W (hW:Below X.heap.size X W)=>(⟨(hW.block b0 (blk_lt h0)).trans h0,(hW.block b1 (blk_lt h1)).trans h1⟩:W.heap[b0]?=some (.cells #[.int .i64 x.f0,.bool x.f1.f0,.string x.f1.f1,.slice A3 x.f1.f2.length c3,.bool x.f1.f3,.int .i64 x.f1.f4,.slice A6 x.f2.f0.length c6,.int .i64 x.f2.f1,.slice A8 x.f2.f2.length c8,.string x.f3,.string x.f4] 100 (0,0))∧W.heap[b1]?=some (.cells #[.int .i64 x.f0,.bool x.f1.f0,.string x.f1.f1,.slice B3 x.f1.f2.length d3,.bool x.f1.f3,.int .i64 x.f1.f4,.slice B6 x.f2.f0.length d6,.int .i64 x.f2.f1,.slice B8 x.f2.f2.length d8,.string x.f3,.string x.f4] 100 (0,0))))
 have G3:=Lib.hid (Kd.C_below g3 HBX.out)
 have K3:=Lib.hid (Kd.C_below k3 HBX.out)
 have G6:=Lib.hid (Kd.C_below g6 HBX.out)
 have K6:=Lib.hid (Kd.C_below k6 HBX.out)
 have G8:=Lib.hid (Kd.C_below g8 HBX.out)
 have K8:=Lib.hid (Kd.C_below k8 HBX.out)
 have HB0:=Lib.hid (Below.refl X.heap.size X)
 have y0_0:=blk_cell (v:=.int .i64 x.f0) (HCE.out X HB0.out).1 0 rfl
 have z0_0:=blk_cell (v:=.int .i64 x.f0) (HCE.out X HB0.out).2 0 rfl
 have y0_1:=blk_cell (v:=.bool x.f1.f0) (HCE.out X HB0.out).1 1 rfl
 have z0_1:=blk_cell (v:=.bool x.f1.f0) (HCE.out X HB0.out).2 1 rfl
 have y0_2:=blk_cell (v:=.string x.f1.f1) (HCE.out X HB0.out).1 2 rfl
 have z0_2:=blk_cell (v:=.string x.f1.f1) (HCE.out X HB0.out).2 2 rfl
 have y0_3:=blk_cell (v:=.slice A3 x.f1.f2.length c3) (HCE.out X HB0.out).1 3 rfl
 have z0_3:=blk_cell (v:=.slice B3 x.f1.f2.length d3) (HCE.out X HB0.out).2 3 rfl
 have y0_4:=blk_cell (v:=.bool x.f1.f3) (HCE.out X HB0.out).1 4 rfl
 have z0_4:=blk_cell (v:=.bool x.f1.f3) (HCE.out X HB0.out).2 4 rfl
 have y0_5:=blk_cell (v:=.int .i64 x.f1.f4) (HCE.out X HB0.out).1 5 rfl
 have z0_5:=blk_cell (v:=.int .i64 x.f1.f4) (HCE.out X HB0.out).2 5 rfl
 have y0_6:=blk_cell (v:=.slice A6 x.f2.f0.length c6) (HCE.out X HB0.out).1 6 rfl
 have z0_6:=blk_cell (v:=.slice B6 x.f2.f0.length d6) (HCE.out X HB0.out).2 6 rfl
 have y0_7:=blk_cell (v:=.int .i64 x.f2.f1) (HCE.out X HB0.out).1 7 rfl
 have z0_7:=blk_cell (v:=.int .i64 x.f2.f1) (HCE.out X HB0.out).2 7 rfl
 have y0_8:=blk_cell (v:=.slice A8 x.f2.f2.length c8) (HCE.out X HB0.out).1 8 rfl
 have z0_8:=blk_cell (v:=.slice B8 x.f2.f2.length d8) (HCE.out X HB0.out).2 8 rfl
 have y0_9:=blk_cell (v:=.string x.f3) (HCE.out X HB0.out).1 9 rfl
 have z0_9:=blk_cell (v:=.string x.f3) (HCE.out X HB0.out).2 9 rfl
 have y0_10:=blk_cell (v:=.string x.f4) (HCE.out X HB0.out).1 10 rfl
 have z0_10:=blk_cell (v:=.string x.f4) (HCE.out X HB0.out).2 10 rfl
 have HX:=Lib.hid hX
 have HN0:=Lib.hid hb0
 have HN1:=Lib.hid hb1
 have HM0:=Lib.hid (show smLit x.f1 from hs.1)
 have HM1:=Lib.hid (show smGuard x.f2 from hs.2)
 clear g3 k3 g6 k6 g8 k8 hs hX hb0 hb1 h0 h1
 go_enter Tryz.func96,Tryz.ntmps96
 go_upto_region 1 with (fail)
 try rw [HX.out]
 try rw [HN0.out]
 try rw [HN1.out]
 go_wp2_with (first | (go_at_call 64;((with_reducible refine (same_lit x.f1 A3 B3 c3 d3 _ (Kd.C_below G3.out HB0.out) (Kd.C_below K3.out HB0.out) HM0.out).mono ?_);rintro e w1 ⟨rfl,hb1⟩;have HB1:=Lib.hid (HB0.out.trans (hb1.mono HB0.out.size));have y1_0:=blk_cell (v:=.int .i64 x.f0) (HCE.out _ HB1.out).1 0 rfl;have z1_0:=blk_cell (v:=.int .i64 x.f0) (HCE.out _ HB1.out).2 0 rfl;have y1_1:=blk_cell (v:=.bool x.f1.f0) (HCE.out _ HB1.out).1 1 rfl;have z1_1:=blk_cell (v:=.bool x.f1.f0) (HCE.out _ HB1.out).2 1 rfl;have y1_2:=blk_cell (v:=.string x.f1.f1) (HCE.out _ HB1.out).1 2 rfl;have z1_2:=blk_cell (v:=.string x.f1.f1) (HCE.out _ HB1.out).2 2 rfl;have y1_3:=blk_cell (v:=.slice A3 x.f1.f2.length c3) (HCE.out _ HB1.out).1 3 rfl;have z1_3:=blk_cell (v:=.slice B3 x.f1.f2.length d3) (HCE.out _ HB1.out).2 3 rfl;have y1_4:=blk_cell (v:=.bool x.f1.f3) (HCE.out _ HB1.out).1 4 rfl;have z1_4:=blk_cell (v:=.bool x.f1.f3) (HCE.out _ HB1.out).2 4 rfl;have y1_5:=blk_cell (v:=.int .i64 x.f1.f4) (HCE.out _ HB1.out).1 5 rfl;have z1_5:=blk_cell (v:=.int .i64 x.f1.f4) (HCE.out _ HB1.out).2 5 rfl;have y1_6:=blk_cell (v:=.slice A6 x.f2.f0.length c6) (HCE.out _ HB1.out).1 6 rfl;have z1_6:=blk_cell (v:=.slice B6 x.f2.f0.length d6) (HCE.out _ HB1.out).2 6 rfl;have y1_7:=blk_cell (v:=.int .i64 x.f2.f1) (HCE.out _ HB1.out).1 7 rfl;have z1_7:=blk_cell (v:=.int .i64 x.f2.f1) (HCE.out _ HB1.out).2 7 rfl;have y1_8:=blk_cell (v:=.slice A8 x.f2.f2.length c8) (HCE.out _ HB1.out).1 8 rfl;have z1_8:=blk_cell (v:=.slice B8 x.f2.f2.length d8) (HCE.out _ HB1.out).2 8 rfl;have y1_9:=blk_cell (v:=.string x.f3) (HCE.out _ HB1.out).1 9 rfl;have z1_9:=blk_cell (v:=.string x.f3) (HCE.out _ HB1.out).2 9 rfl;have y1_10:=blk_cell (v:=.string x.f4) (HCE.out _ HB1.out).1 10 rfl;have z1_10:=blk_cell (v:=.string x.f4) (HCE.out _ HB1.out).2 10 rfl;clear hb1)) | (go_at_call 114;((with_reducible refine (same_guard x.f2 A6 B6 c6 d6 A8 B8 c8 d8 _ (Kd.C_below G6.out HB1.out) (Kd.C_below K6.out HB1.out) (Kd.C_below G8.out HB1.out) (Kd.C_below K8.out HB1.out) HM1.out).mono ?_);rintro e w2 ⟨rfl,hb2⟩;have HB2:=Lib.hid (HB1.out.trans (hb2.mono HB1.out.size));have y2_0:=blk_cell (v:=.int .i64 x.f0) (HCE.out _ HB2.out).1 0 rfl;have z2_0:=blk_cell (v:=.int .i64 x.f0) (HCE.out _ HB2.out).2 0 rfl;have y2_1:=blk_cell (v:=.bool x.f1.f0) (HCE.out _ HB2.out).1 1 rfl;have z2_1:=blk_cell (v:=.bool x.f1.f0) (HCE.out _ HB2.out).2 1 rfl;have y2_2:=blk_cell (v:=.string x.f1.f1) (HCE.out _ HB2.out).1 2 rfl;have z2_2:=blk_cell (v:=.string x.f1.f1) (HCE.out _ HB2.out).2 2 rfl;have y2_3:=blk_cell (v:=.slice A3 x.f1.f2.length c3) (HCE.out _ HB2.out).1 3 rfl;have z2_3:=blk_cell (v:=.slice B3 x.f1.f2.length d3) (HCE.out _ HB2.out).2 3 rfl;have y2_4:=blk_cell (v:=.bool x.f1.f3) (HCE.out _ HB2.out).1 4 rfl;have z2_4:=blk_cell (v:=.bool x.f1.f3) (HCE.out _ HB2.out).2 4 rfl;have y2_5:=blk_cell (v:=.int .i64 x.f1.f4) (HCE.out _ HB2.out).1 5 rfl;have z2_5:=blk_cell (v:=.int .i64 x.f1.f4) (HCE.out _ HB2.out).2 5 rfl;have y2_6:=blk_cell (v:=.slice A6 x.f2.f0.length c6) (HCE.out _ HB2.out).1 6 rfl;have z2_6:=blk_cell (v:=.slice B6 x.f2.f0.length d6) (HCE.out _ HB2.out).2 6 rfl;have y2_7:=blk_cell (v:=.int .i64 x.f2.f1) (HCE.out _ HB2.out).1 7 rfl;have z2_7:=blk_cell (v:=.int .i64 x.f2.f1) (HCE.out _ HB2.out).2 7 rfl;have y2_8:=blk_cell (v:=.slice A8 x.f2.f2.length c8) (HCE.out _ HB2.out).1 8 rfl;have z2_8:=blk_cell (v:=.slice B8 x.f2.f2.length d8) (HCE.out _ HB2.out).2 8 rfl;have y2_9:=blk_cell (v:=.string x.f3) (HCE.out _ HB2.out).1 9 rfl;have z2_9:=blk_cell (v:=.string x.f3) (HCE.out _ HB2.out).2 9 rfl;have y2_10:=blk_cell (v:=.string x.f4) (HCE.out _ HB2.out).1 10 rfl;have z2_10:=blk_cell (v:=.string x.f4) (HCE.out _ HB2.out).2 10 rfl;clear hb2)))
 go_ret
 exact ⟨by simp,HBX.out.trans (HB2.out.mono HBX.out.size)⟩
theorem same_prems (l:List S100) (A0 A1:Option Addr) (c0 c1:Nat) (w:World) (h0:Kd.C k100 w A0 l.length l) (h1:Kd.C k100 w A1 l.length l) (hs:sm l∧∀ x∈l,smPrem x) :
  Calls Tryz.prog 63 #[.slice A0 l.length c0,.slice A1 l.length c1] w fun e w'=>e=.returned (.bool true)∧Below w.heap.size w w':=by
 have hl:l.length≤4294967296:=hs.1
 obtain ⟨n,hn⟩:∃ n,l.length=n:=⟨_,rfl⟩
 have HC0:=Lib.hid h0
 have HC1:=Lib.hid h1
 have HN:=Lib.hid hn
 have HSM:=Lib.hid hs.2
 rw [hn] at hl ⊢
 have HL:=Lib.hid hl
 clear h0 h1 hl hn hs
 go_enter Tryz.func63,Tryz.ntmps63
 go_wp2_with fail
 go_loopw [5] (fun u5 wr=>∃ i:Nat,u5=.int .i64 i∧i≤n∧Below w.heap.size w wr) (fun u5 _=>n-(RowKit.intOf u5).toNat)
 case atStart=>exact ⟨0,rfl,Nat.zero_le _,Below.refl _ _⟩
 case round =>
  obtain ⟨i,rfl,hi,hb⟩:=hrel
  have HB:=Lib.hid hb
  by_cases hlt:i<n
  ·have hil:(i:Int)<(l.length:Int):=by have:=HN.out;omega
   obtain ⟨a0,A3,c3,A6,c6,A8,c8,ea0,t0,t1,t2,t3,t4,t5,t6,t7,t8,t9,t10,l3,g3,l6,g6,l8,g8⟩:=at_T100 HC0.out (i:Int) (Int.natCast_nonneg i) hil
   obtain ⟨a1,B3,d3,B6,d6,B8,d8,ea1,u0,u1,u2,u3,u4,u5,u6,u7,u8,u9,u10,m3,k3,m6,k6,m8,k8⟩:=at_T100 HC1.out (i:Int) (Int.natCast_nonneg i) hil
   have hx:rd_T100 l (i:Int)∈l:=by
    show l.getD i _∈l
    rw [List.getD_eq_getElem?_getD,List.getElem?_eq_getElem (by have:=HN.out;omega)]
    exact List.getElem_mem _
   have hsx:=HSM.out _ hx
   subst ea0
   subst ea1
   simp only [Int.toNat_natCast] at t0 t1 t2 t3 t4 t5 t6 t7 t8 t9 t10 u0 u1 u2 u3 u4 u5 u6 u7 u8 u9 u10
   generalize rd_T100 l (i:Int)=x at *
   have HSX:=Lib.hid hsx
   have G3:=Lib.hid (Kd.C_below g3 hb)
   have K3:=Lib.hid (Kd.C_below k3 hb)
   have G6:=Lib.hid (Kd.C_below g6 hb)
   have K6:=Lib.hid (Kd.C_below k6 hb)
   have G8:=Lib.hid (Kd.C_below g8 hb)
   have K8:=Lib.hid (Kd.C_below k8 hb)
   have HS:=Lib.hid (⟨keep_cell t0 hb,keep_cell t1 hb,keep_cell t2 hb,keep_cell t3 hb,keep_cell t4 hb,keep_cell t5 hb,keep_cell t6 hb,keep_cell t7 hb,keep_cell t8 hb,keep_cell t9 hb,keep_cell t10 hb,keep_cell u0 hb,keep_cell u1 hb,keep_cell u2 hb,keep_cell u3 hb,keep_cell u4 hb,keep_cell u5 hb,keep_cell u6 hb,keep_cell u7 hb,keep_cell u8 hb,keep_cell u9 hb,keep_cell u10 hb⟩:wr.cell? (a0.add (i*11))=some (.int .i64 x.f0)∧wr.cell? ⟨(a0.add (i*11)).block,(a0.add (i*11)).off+1,none⟩=some (.bool x.f1.f0)∧wr.cell? ⟨(a0.add (i*11)).block,(a0.add (i*11)).off+2,none⟩=some (.string x.f1.f1)∧wr.cell? ⟨(a0.add (i*11)).block,(a0.add (i*11)).off+3,none⟩=some (.slice A3 x.f1.f2.length c3)∧wr.cell? ⟨(a0.add (i*11)).block,(a0.add (i*11)).off+4,none⟩=some (.bool x.f1.f3)∧wr.cell? ⟨(a0.add (i*11)).block,(a0.add (i*11)).off+5,none⟩=some (.int .i64 x.f1.f4)∧wr.cell? ⟨(a0.add (i*11)).block,(a0.add (i*11)).off+6,none⟩=some (.slice A6 x.f2.f0.length c6)∧wr.cell? ⟨(a0.add (i*11)).block,(a0.add (i*11)).off+7,none⟩=some (.int .i64 x.f2.f1)∧wr.cell? ⟨(a0.add (i*11)).block,(a0.add (i*11)).off+8,none⟩=some (.slice A8 x.f2.f2.length c8)∧wr.cell? ⟨(a0.add (i*11)).block,(a0.add (i*11)).off+9,none⟩=some (.string x.f3)∧wr.cell? ⟨(a0.add (i*11)).block,(a0.add (i*11)).off+10,none⟩=some (.string x.f4)∧wr.cell? (a1.add (i*11))=some (.int .i64 x.f0)∧wr.cell? ⟨(a1.add (i*11)).block,(a1.add (i*11)).off+1,none⟩=some (.bool x.f1.f0)∧wr.cell? ⟨(a1.add (i*11)).block,(a1.add (i*11)).off+2,none⟩=some (.string x.f1.f1)∧wr.cell? ⟨(a1.add (i*11)).block,(a1.add (i*11)).off+3,none⟩=some (.slice B3 x.f1.f2.length d3)∧wr.cell? ⟨(a1.add (i*11)).block,(a1.add (i*11)).off+4,none⟩=some (.bool x.f1.f3)∧wr.cell? ⟨(a1.add (i*11)).block,(a1.add (i*11)).off+5,none⟩=some (.int .i64 x.f1.f4)∧wr.cell? ⟨(a1.add (i*11)).block,(a1.add (i*11)).off+6,none⟩=some (.slice B6 x.f2.f0.length d6)∧wr.cell? ⟨(a1.add (i*11)).block,(a1.add (i*11)).off+7,none⟩=some (.int .i64 x.f2.f1)∧wr.cell? ⟨(a1.add (i*11)).block,(a1.add (i*11)).off+8,none⟩=some (.slice B8 x.f2.f2.length d8)∧wr.cell? ⟨(a1.add (i*11)).block,(a1.add (i*11)).off+9,none⟩=some (.string x.f3)∧wr.cell? ⟨(a1.add (i*11)).block,(a1.add (i*11)).off+10,none⟩=some (.string x.f4))
   clear t0 t1 t2 t3 t4 t5 t6 t7 t8 t9 t10 u0 u1 u2 u3 u4 u5 u6 u7 u8 u9 u10 hb hil hx hsx g3 k3 l3 m3 g6 k6 l6 m6 g8 k8 l8 m8
   have HLT:=Lib.hid hlt
   have x0:(0:Int)≤(i:Int):=by omega
   have x1:(i:Int)<(n:Int):=by omega
   have x5:(i:Int)≤4294967296:=by have:=HL.out;omega
   have x2:decide ((i:Int)<(n:Int))=true:=decide_eq_true x1
   have x3:decide (i<n)=true:=decide_eq_true hlt
   clear hlt hi
   go_upto_region 6 with (fail)
   go_region_held_law (fun w9=>w9.cell? (a0.add (i*11))=some (.int .i64 x.f0)∧w9.cell? ⟨(a0.add (i*11)).block,(a0.add (i*11)).off+1,none⟩=some (.bool x.f1.f0)∧w9.cell? ⟨(a0.add (i*11)).block,(a0.add (i*11)).off+2,none⟩=some (.string x.f1.f1)∧w9.cell? ⟨(a0.add (i*11)).block,(a0.add (i*11)).off+3,none⟩=some (.slice A3 x.f1.f2.length c3)∧w9.cell? ⟨(a0.add (i*11)).block,(a0.add (i*11)).off+4,none⟩=some (.bool x.f1.f3)∧w9.cell? ⟨(a0.add (i*11)).block,(a0.add (i*11)).off+5,none⟩=some (.int .i64 x.f1.f4)∧w9.cell? ⟨(a0.add (i*11)).block,(a0.add (i*11)).off+6,none⟩=some (.slice A6 x.f2.f0.length c6)∧w9.cell? ⟨(a0.add (i*11)).block,(a0.add (i*11)).off+7,none⟩=some (.int .i64 x.f2.f1)∧w9.cell? ⟨(a0.add (i*11)).block,(a0.add (i*11)).off+8,none⟩=some (.slice A8 x.f2.f2.length c8)∧w9.cell? ⟨(a0.add (i*11)).block,(a0.add (i*11)).off+9,none⟩=some (.string x.f3)∧w9.cell? ⟨(a0.add (i*11)).block,(a0.add (i*11)).off+10,none⟩=some (.string x.f4)∧w9.cell? (a1.add (i*11))=some (.int .i64 x.f0)∧w9.cell? ⟨(a1.add (i*11)).block,(a1.add (i*11)).off+1,none⟩=some (.bool x.f1.f0)∧w9.cell? ⟨(a1.add (i*11)).block,(a1.add (i*11)).off+2,none⟩=some (.string x.f1.f1)∧w9.cell? ⟨(a1.add (i*11)).block,(a1.add (i*11)).off+3,none⟩=some (.slice B3 x.f1.f2.length d3)∧w9.cell? ⟨(a1.add (i*11)).block,(a1.add (i*11)).off+4,none⟩=some (.bool x.f1.f3)∧w9.cell? ⟨(a1.add (i*11)).block,(a1.add (i*11)).off+5,none⟩=some (.int .i64 x.f1.f4)∧w9.cell? ⟨(a1.add (i*11)).block,(a1.add (i*11)).off+6,none⟩=some (.slice B6 x.f2.f0.length d6)∧w9.cell? ⟨(a1.add (i*11)).block,(a1.add (i*11)).off+7,none⟩=some (.int .i64 x.f2.f1)∧w9.cell? ⟨(a1.add (i*11)).block,(a1.add (i*11)).off+8,none⟩=some (.slice B8 x.f2.f2.length d8)∧w9.cell? ⟨(a1.add (i*11)).block,(a1.add (i*11)).off+9,none⟩=some (.string x.f3)∧w9.cell? ⟨(a1.add (i*11)).block,(a1.add (i*11)).off+10,none⟩=some (.string x.f4)) (first | exact HS.out | (obtain ⟨r0,r1,r2,r3,r4,r5,r6,r7,r8,r9,r10,r11,r12,r13,r14,r15,r16,r17,r18,r19,r20,r21⟩:=HS.out;exact ⟨keep_cell r0 HB6.out,keep_cell r1 HB6.out,keep_cell r2 HB6.out,keep_cell r3 HB6.out,keep_cell r4 HB6.out,keep_cell r5 HB6.out,keep_cell r6 HB6.out,keep_cell r7 HB6.out,keep_cell r8 HB6.out,keep_cell r9 HB6.out,keep_cell r10 HB6.out,keep_cell r11 HB6.out,keep_cell r12 HB6.out,keep_cell r13 HB6.out,keep_cell r14 HB6.out,keep_cell r15 HB6.out,keep_cell r16 HB6.out,keep_cell r17 HB6.out,keep_cell r18 HB6.out,keep_cell r19 HB6.out,keep_cell r20 HB6.out,keep_cell r21 HB6.out⟩)) ((go_at_call 96;((with_reducible refine (same_prem x A3 B3 c3 d3 A6 B6 c6 d6 A8 B8 c8 d8 _ (Kd.C_below G3.out (Below.refl _ wr).drew) (Kd.C_below K3.out (Below.refl _ wr).drew) (Kd.C_below G6.out (Below.refl _ wr).drew) (Kd.C_below K6.out (Below.refl _ wr).drew) (Kd.C_below G8.out (Below.refl _ wr).drew) (Kd.C_below K8.out (Below.refl _ wr).drew) HSX.out).mono ?_);rintro e w6 ⟨rfl,hb6⟩;have HB6:=Lib.hid (show Below wr.heap.size wr w6 from (Below.refl _ wr).drew.trans hb6);clear hb6)))
   go_wp2_with fail
   go_roundw
   case rel=>exact ⟨i+1,rfl,HLT.out,HB.out.trans (HB6.out.mono HB.out.size)⟩
   case measure=>(have h9:=HLT.out;simp [RowKit.intOf];omega)
  ·have x2:decide ((i:Int)<(n:Int))=false:=decide_eq_false (by omega)
   have x3:decide (i<n)=false:=decide_eq_false hlt
   clear hb hlt hi
   go_wp2_with fail
   go_ret
   exact ⟨rfl,HB.out⟩
theorem same_rule (x:S93) (A4 B4:Option Addr) (c4 d4:Nat) (A8 B8:Option Addr) (c8 d8:Nat) (w:World) (g4:Kd.C k100 w A4 x.f4.length x.f4) (k4:Kd.C k100 w B4 x.f4.length x.f4) (g8:Kd.C Kd.string w A8 x.f6.f2.length x.f6.f2) (k8:Kd.C Kd.string w B8 x.f6.f2.length x.f6.f2) (hs:smRule x) :
  Calls Tryz.prog 44 #[.agg #[.string x.f0,.string x.f1,.int .i64 x.f2,.int .i64 x.f3,.slice A4 x.f4.length c4,.int .i64 x.f5,.bool x.f6.f0,.string x.f6.f1,.slice A8 x.f6.f2.length c8,.bool x.f6.f3,.int .i64 x.f6.f4],.agg #[.string x.f0,.string x.f1,.int .i64 x.f2,.int .i64 x.f3,.slice B4 x.f4.length d4,.int .i64 x.f5,.bool x.f6.f0,.string x.f6.f1,.slice B8 x.f6.f2.length d8,.bool x.f6.f3,.int .i64 x.f6.f4]] w fun e w'=>e=.returned (.bool true)∧Below w.heap.size w w':=by
 have HSM:=Lib.hid hs
 obtain ⟨X,hX⟩:∃ X,(w.alloc (.cells #[.string x.f0,.string x.f1,.int .i64 x.f2,.int .i64 x.f3,.slice A4 x.f4.length c4,.int .i64 x.f5,.bool x.f6.f0,.string x.f6.f1,.slice A8 x.f6.f2.length c8,.bool x.f6.f3,.int .i64 x.f6.f4] 93)).alloc (.cells #[.string x.f0,.string x.f1,.int .i64 x.f2,.int .i64 x.f3,.slice B4 x.f4.length d4,.int .i64 x.f5,.bool x.f6.f0,.string x.f6.f1,.slice B8 x.f6.f2.length d8,.bool x.f6.f3,.int .i64 x.f6.f4] 93)=X:=⟨_,rfl⟩
 obtain ⟨b0,hb0⟩:∃ b,w.heap.size=b:=⟨_,rfl⟩
 obtain ⟨b1,hb1⟩:∃ b,b0+1=b:=⟨_,rfl⟩
 have HBX:=Lib.hid (show Below w.heap.size w X by rw [← hX];exact ((Below.refl _ w).alloc (Nat.le_refl _) _).alloc (by rw [World.size_alloc];omega) _)
 have h1:X.heap[b1]?=some (.cells #[.string x.f0,.string x.f1,.int .i64 x.f2,.int .i64 x.f3,.slice B4 x.f4.length d4,.int .i64 x.f5,.bool x.f6.f0,.string x.f6.f1,.slice B8 x.f6.f2.length d8,.bool x.f6.f3,.int .i64 x.f6.f4] 93 (0,0)):=by
  rw [← hX,← hb1,← hb0]
  have h:=heap_alloc_new (w.alloc (.cells #[.string x.f0,.string x.f1,.int .i64 x.f2,.int .i64 x.f3,.slice A4 x.f4.length c4,.int .i64 x.f5,.bool x.f6.f0,.string x.f6.f1,.slice A8 x.f6.f2.length c8,.bool x.f6.f3,.int .i64 x.f6.f4] 93)) (.cells #[.string x.f0,.string x.f1,.int .i64 x.f2,.int .i64 x.f3,.slice B4 x.f4.length d4,.int .i64 x.f5,.bool x.f6.f0,.string x.f6.f1,.slice B8 x.f6.f2.length d8,.bool x.f6.f3,.int .i64 x.f6.f4] 93)
  rw [World.size_alloc] at h
  exact h
 have h0:X.heap[b0]?=some (.cells #[.string x.f0,.string x.f1,.int .i64 x.f2,.int .i64 x.f3,.slice A4 x.f4.length c4,.int .i64 x.f5,.bool x.f6.f0,.string x.f6.f1,.slice A8 x.f6.f2.length c8,.bool x.f6.f3,.int .i64 x.f6.f4] 93 (0,0)):=by
  rw [← hX,← hb0]
  exact (((Below.refl _ _).alloc (Nat.le_refl _) _).block _ (by simp only [World.size_alloc];omega)).trans (heap_alloc_new w _)
 have HCE:=Lib.hid (fun W (hW:Below X.heap.size X W)=>(⟨(hW.block b0 (blk_lt h0)).trans h0,(hW.block b1 (blk_lt h1)).trans h1⟩:W.heap[b0]?=some (.cells #[.string x.f0,.string x.f1,.int .i64 x.f2,.int .i64 x.f3,.slice A4 x.f4.length c4,.int .i64 x.f5,.bool x.f6.f0,.string x.f6.f1,.slice A8 x.f6.f2.length c8,.bool x.f6.f3,.int .i64 x.f6.f4] 93 (0,0))∧W.heap[b1]?=some (.cells #[.string x.f0,.string x.f1,.int .i64 x.f2,.int .i64 x.f3,.slice B4 x.f4.length d4,.int .i64 x.f5,.bool x.f6.f0,.string x.f6.f1,.slice B8 x.f6.f2.length d8,.bool x.f6.f3,.int .i64 x.f6.f4] 93 (0,0))))
 have G4:=Lib.hid (Kd.C_below g4 HBX.out)
 have K4:=Lib.hid (Kd.C_below k4 HBX.out)
 have G8:=Lib.hid (Kd.C_below g8 HBX.out)
 have K8:=Lib.hid (Kd.C_below k8 HBX.out)
 have HB0:=Lib.hid (Below.refl X.heap.size X)
 have y0_0:=blk_cell (v:=.string x.f0) (HCE.out X HB0.out).1 0 rfl
 have z0_0:=blk_cell (v:=.string x.f0) (HCE.out X HB0.out).2 0 rfl
 have y0_1:=blk_cell (v:=.string x.f1) (HCE.out X HB0.out).1 1 rfl
 have z0_1:=blk_cell (v:=.string x.f1) (HCE.out X HB0.out).2 1 rfl
 have y0_2:=blk_cell (v:=.int .i64 x.f2) (HCE.out X HB0.out).1 2 rfl
 have z0_2:=blk_cell (v:=.int .i64 x.f2) (HCE.out X HB0.out).2 2 rfl
 have y0_3:=blk_cell (v:=.int .i64 x.f3) (HCE.out X HB0.out).1 3 rfl
 have z0_3:=blk_cell (v:=.int .i64 x.f3) (HCE.out X HB0.out).2 3 rfl
 have y0_4:=blk_cell (v:=.slice A4 x.f4.length c4) (HCE.out X HB0.out).1 4 rfl
 have z0_4:=blk_cell (v:=.slice B4 x.f4.length d4) (HCE.out X HB0.out).2 4 rfl
 have y0_5:=blk_cell (v:=.int .i64 x.f5) (HCE.out X HB0.out).1 5 rfl
 have z0_5:=blk_cell (v:=.int .i64 x.f5) (HCE.out X HB0.out).2 5 rfl
 have y0_6:=blk_cell (v:=.bool x.f6.f0) (HCE.out X HB0.out).1 6 rfl
 have z0_6:=blk_cell (v:=.bool x.f6.f0) (HCE.out X HB0.out).2 6 rfl
 have y0_7:=blk_cell (v:=.string x.f6.f1) (HCE.out X HB0.out).1 7 rfl
 have z0_7:=blk_cell (v:=.string x.f6.f1) (HCE.out X HB0.out).2 7 rfl
 have y0_8:=blk_cell (v:=.slice A8 x.f6.f2.length c8) (HCE.out X HB0.out).1 8 rfl
 have z0_8:=blk_cell (v:=.slice B8 x.f6.f2.length d8) (HCE.out X HB0.out).2 8 rfl
 have y0_9:=blk_cell (v:=.bool x.f6.f3) (HCE.out X HB0.out).1 9 rfl
 have z0_9:=blk_cell (v:=.bool x.f6.f3) (HCE.out X HB0.out).2 9 rfl
 have y0_10:=blk_cell (v:=.int .i64 x.f6.f4) (HCE.out X HB0.out).1 10 rfl
 have z0_10:=blk_cell (v:=.int .i64 x.f6.f4) (HCE.out X HB0.out).2 10 rfl
 have HX:=Lib.hid hX
 have HN0:=Lib.hid hb0
 have HN1:=Lib.hid hb1
 have HM0:=Lib.hid (show sm x.f4∧∀ y∈x.f4,smPrem y from hs.1)
 have HM1:=Lib.hid (show smLit x.f6 from hs.2)
 clear g4 k4 g8 k8 hs hX hb0 hb1 h0 h1
 go_enter Tryz.func44,Tryz.ntmps44
 go_upto_region 1 with (fail)
 try rw [HX.out]
 try rw [HN0.out]
 try rw [HN1.out]
 go_wp2_with (first | (go_at_call 63;((with_reducible refine (same_prems x.f4 A4 B4 c4 d4 _ (Kd.C_below G4.out HB0.out) (Kd.C_below K4.out HB0.out) HM0.out).mono ?_);rintro e w1 ⟨rfl,hb1⟩;have HB1:=Lib.hid (HB0.out.trans (hb1.mono HB0.out.size));have y1_0:=blk_cell (v:=.string x.f0) (HCE.out _ HB1.out).1 0 rfl;have z1_0:=blk_cell (v:=.string x.f0) (HCE.out _ HB1.out).2 0 rfl;have y1_1:=blk_cell (v:=.string x.f1) (HCE.out _ HB1.out).1 1 rfl;have z1_1:=blk_cell (v:=.string x.f1) (HCE.out _ HB1.out).2 1 rfl;have y1_2:=blk_cell (v:=.int .i64 x.f2) (HCE.out _ HB1.out).1 2 rfl;have z1_2:=blk_cell (v:=.int .i64 x.f2) (HCE.out _ HB1.out).2 2 rfl;have y1_3:=blk_cell (v:=.int .i64 x.f3) (HCE.out _ HB1.out).1 3 rfl;have z1_3:=blk_cell (v:=.int .i64 x.f3) (HCE.out _ HB1.out).2 3 rfl;have y1_4:=blk_cell (v:=.slice A4 x.f4.length c4) (HCE.out _ HB1.out).1 4 rfl;have z1_4:=blk_cell (v:=.slice B4 x.f4.length d4) (HCE.out _ HB1.out).2 4 rfl;have y1_5:=blk_cell (v:=.int .i64 x.f5) (HCE.out _ HB1.out).1 5 rfl;have z1_5:=blk_cell (v:=.int .i64 x.f5) (HCE.out _ HB1.out).2 5 rfl;have y1_6:=blk_cell (v:=.bool x.f6.f0) (HCE.out _ HB1.out).1 6 rfl;have z1_6:=blk_cell (v:=.bool x.f6.f0) (HCE.out _ HB1.out).2 6 rfl;have y1_7:=blk_cell (v:=.string x.f6.f1) (HCE.out _ HB1.out).1 7 rfl;have z1_7:=blk_cell (v:=.string x.f6.f1) (HCE.out _ HB1.out).2 7 rfl;have y1_8:=blk_cell (v:=.slice A8 x.f6.f2.length c8) (HCE.out _ HB1.out).1 8 rfl;have z1_8:=blk_cell (v:=.slice B8 x.f6.f2.length d8) (HCE.out _ HB1.out).2 8 rfl;have y1_9:=blk_cell (v:=.bool x.f6.f3) (HCE.out _ HB1.out).1 9 rfl;have z1_9:=blk_cell (v:=.bool x.f6.f3) (HCE.out _ HB1.out).2 9 rfl;have y1_10:=blk_cell (v:=.int .i64 x.f6.f4) (HCE.out _ HB1.out).1 10 rfl;have z1_10:=blk_cell (v:=.int .i64 x.f6.f4) (HCE.out _ HB1.out).2 10 rfl;clear hb1)) | (go_at_call 64;((with_reducible refine (same_lit x.f6 A8 B8 c8 d8 _ (Kd.C_below G8.out HB1.out) (Kd.C_below K8.out HB1.out) HM1.out).mono ?_);rintro e w2 ⟨rfl,hb2⟩;have HB2:=Lib.hid (HB1.out.trans (hb2.mono HB1.out.size));have y2_0:=blk_cell (v:=.string x.f0) (HCE.out _ HB2.out).1 0 rfl;have z2_0:=blk_cell (v:=.string x.f0) (HCE.out _ HB2.out).2 0 rfl;have y2_1:=blk_cell (v:=.string x.f1) (HCE.out _ HB2.out).1 1 rfl;have z2_1:=blk_cell (v:=.string x.f1) (HCE.out _ HB2.out).2 1 rfl;have y2_2:=blk_cell (v:=.int .i64 x.f2) (HCE.out _ HB2.out).1 2 rfl;have z2_2:=blk_cell (v:=.int .i64 x.f2) (HCE.out _ HB2.out).2 2 rfl;have y2_3:=blk_cell (v:=.int .i64 x.f3) (HCE.out _ HB2.out).1 3 rfl;have z2_3:=blk_cell (v:=.int .i64 x.f3) (HCE.out _ HB2.out).2 3 rfl;have y2_4:=blk_cell (v:=.slice A4 x.f4.length c4) (HCE.out _ HB2.out).1 4 rfl;have z2_4:=blk_cell (v:=.slice B4 x.f4.length d4) (HCE.out _ HB2.out).2 4 rfl;have y2_5:=blk_cell (v:=.int .i64 x.f5) (HCE.out _ HB2.out).1 5 rfl;have z2_5:=blk_cell (v:=.int .i64 x.f5) (HCE.out _ HB2.out).2 5 rfl;have y2_6:=blk_cell (v:=.bool x.f6.f0) (HCE.out _ HB2.out).1 6 rfl;have z2_6:=blk_cell (v:=.bool x.f6.f0) (HCE.out _ HB2.out).2 6 rfl;have y2_7:=blk_cell (v:=.string x.f6.f1) (HCE.out _ HB2.out).1 7 rfl;have z2_7:=blk_cell (v:=.string x.f6.f1) (HCE.out _ HB2.out).2 7 rfl;have y2_8:=blk_cell (v:=.slice A8 x.f6.f2.length c8) (HCE.out _ HB2.out).1 8 rfl;have z2_8:=blk_cell (v:=.slice B8 x.f6.f2.length d8) (HCE.out _ HB2.out).2 8 rfl;have y2_9:=blk_cell (v:=.bool x.f6.f3) (HCE.out _ HB2.out).1 9 rfl;have z2_9:=blk_cell (v:=.bool x.f6.f3) (HCE.out _ HB2.out).2 9 rfl;have y2_10:=blk_cell (v:=.int .i64 x.f6.f4) (HCE.out _ HB2.out).1 10 rfl;have z2_10:=blk_cell (v:=.int .i64 x.f6.f4) (HCE.out _ HB2.out).2 10 rfl;clear hb2)))
 go_ret
 exact ⟨by simp,HBX.out.trans (HB2.out.mono HBX.out.size)⟩
theorem same_rules (l:List S93) (A0 A1:Option Addr) (c0 c1:Nat) (w:World) (h0:Kd.C k93 w A0 l.length l) (h1:Kd.C k93 w A1 l.length l) (hs:sm l∧∀ x∈l,smRule x) :
  Calls Tryz.prog 25 #[.slice A0 l.length c0,.slice A1 l.length c1] w fun e w'=>e=.returned (.bool true)∧Below w.heap.size w w':=by
 have hl:l.length≤4294967296:=hs.1
 obtain ⟨n,hn⟩:∃ n,l.length=n:=⟨_,rfl⟩
 have HC0:=Lib.hid h0
 have HC1:=Lib.hid h1
 have HN:=Lib.hid hn
 have HSM:=Lib.hid hs.2
 rw [hn] at hl ⊢
 have HL:=Lib.hid hl
 clear h0 h1 hl hn hs
 go_enter Tryz.func25,Tryz.ntmps25
 go_wp2_with fail
 go_loopw [5] (fun u5 wr=>∃ i:Nat,u5=.int .i64 i∧i≤n∧Below w.heap.size w wr) (fun u5 _=>n-(RowKit.intOf u5).toNat)
 case atStart=>exact ⟨0,rfl,Nat.zero_le _,Below.refl _ _⟩
 case round =>
  obtain ⟨i,rfl,hi,hb⟩:=hrel
  have HB:=Lib.hid hb
  by_cases hlt:i<n
  ·have hil:(i:Int)<(l.length:Int):=by have:=HN.out;omega
   obtain ⟨a0,A4,c4,A8,c8,ea0,t0,t1,t2,t3,t4,t5,t6,t7,t8,t9,t10,l4,g4,l8,g8⟩:=at_T93 HC0.out (i:Int) (Int.natCast_nonneg i) hil
   obtain ⟨a1,B4,d4,B8,d8,ea1,u0,u1,u2,u3,u4,u5,u6,u7,u8,u9,u10,m4,k4,m8,k8⟩:=at_T93 HC1.out (i:Int) (Int.natCast_nonneg i) hil
   have hx:rd_T93 l (i:Int)∈l:=by
    show l.getD i _∈l
    rw [List.getD_eq_getElem?_getD,List.getElem?_eq_getElem (by have:=HN.out;omega)]
    exact List.getElem_mem _
   have hsx:=HSM.out _ hx
   subst ea0
   subst ea1
   simp only [Int.toNat_natCast] at t0 t1 t2 t3 t4 t5 t6 t7 t8 t9 t10 u0 u1 u2 u3 u4 u5 u6 u7 u8 u9 u10
   generalize rd_T93 l (i:Int)=x at *
   have HSX:=Lib.hid hsx
   have G4:=Lib.hid (Kd.C_below g4 hb)
   have K4:=Lib.hid (Kd.C_below k4 hb)
   have G8:=Lib.hid (Kd.C_below g8 hb)
   have K8:=Lib.hid (Kd.C_below k8 hb)
   have HS:=Lib.hid (⟨keep_cell t0 hb,keep_cell t1 hb,keep_cell t2 hb,keep_cell t3 hb,keep_cell t4 hb,keep_cell t5 hb,keep_cell t6 hb,keep_cell t7 hb,keep_cell t8 hb,keep_cell t9 hb,keep_cell t10 hb,keep_cell u0 hb,keep_cell u1 hb,keep_cell u2 hb,keep_cell u3 hb,keep_cell u4 hb,keep_cell u5 hb,keep_cell u6 hb,keep_cell u7 hb,keep_cell u8 hb,keep_cell u9 hb,keep_cell u10 hb⟩:wr.cell? (a0.add (i*11))=some (.string x.f0)∧wr.cell? ⟨(a0.add (i*11)).block,(a0.add (i*11)).off+1,none⟩=some (.string x.f1)∧wr.cell? ⟨(a0.add (i*11)).block,(a0.add (i*11)).off+2,none⟩=some (.int .i64 x.f2)∧wr.cell? ⟨(a0.add (i*11)).block,(a0.add (i*11)).off+3,none⟩=some (.int .i64 x.f3)∧wr.cell? ⟨(a0.add (i*11)).block,(a0.add (i*11)).off+4,none⟩=some (.slice A4 x.f4.length c4)∧wr.cell? ⟨(a0.add (i*11)).block,(a0.add (i*11)).off+5,none⟩=some (.int .i64 x.f5)∧wr.cell? ⟨(a0.add (i*11)).block,(a0.add (i*11)).off+6,none⟩=some (.bool x.f6.f0)∧wr.cell? ⟨(a0.add (i*11)).block,(a0.add (i*11)).off+7,none⟩=some (.string x.f6.f1)∧wr.cell? ⟨(a0.add (i*11)).block,(a0.add (i*11)).off+8,none⟩=some (.slice A8 x.f6.f2.length c8)∧wr.cell? ⟨(a0.add (i*11)).block,(a0.add (i*11)).off+9,none⟩=some (.bool x.f6.f3)∧wr.cell? ⟨(a0.add (i*11)).block,(a0.add (i*11)).off+10,none⟩=some (.int .i64 x.f6.f4)∧wr.cell? (a1.add (i*11))=some (.string x.f0)∧wr.cell? ⟨(a1.add (i*11)).block,(a1.add (i*11)).off+1,none⟩=some (.string x.f1)∧wr.cell? ⟨(a1.add (i*11)).block,(a1.add (i*11)).off+2,none⟩=some (.int .i64 x.f2)∧wr.cell? ⟨(a1.add (i*11)).block,(a1.add (i*11)).off+3,none⟩=some (.int .i64 x.f3)∧wr.cell? ⟨(a1.add (i*11)).block,(a1.add (i*11)).off+4,none⟩=some (.slice B4 x.f4.length d4)∧wr.cell? ⟨(a1.add (i*11)).block,(a1.add (i*11)).off+5,none⟩=some (.int .i64 x.f5)∧wr.cell? ⟨(a1.add (i*11)).block,(a1.add (i*11)).off+6,none⟩=some (.bool x.f6.f0)∧wr.cell? ⟨(a1.add (i*11)).block,(a1.add (i*11)).off+7,none⟩=some (.string x.f6.f1)∧wr.cell? ⟨(a1.add (i*11)).block,(a1.add (i*11)).off+8,none⟩=some (.slice B8 x.f6.f2.length d8)∧wr.cell? ⟨(a1.add (i*11)).block,(a1.add (i*11)).off+9,none⟩=some (.bool x.f6.f3)∧wr.cell? ⟨(a1.add (i*11)).block,(a1.add (i*11)).off+10,none⟩=some (.int .i64 x.f6.f4))
   clear t0 t1 t2 t3 t4 t5 t6 t7 t8 t9 t10 u0 u1 u2 u3 u4 u5 u6 u7 u8 u9 u10 hb hil hx hsx g4 k4 l4 m4 g8 k8 l8 m8
   have HLT:=Lib.hid hlt
   have x0:(0:Int)≤(i:Int):=by omega
   have x1:(i:Int)<(n:Int):=by omega
   have x5:(i:Int)≤4294967296:=by have:=HL.out;omega
   have x2:decide ((i:Int)<(n:Int))=true:=decide_eq_true x1
   have x3:decide (i<n)=true:=decide_eq_true hlt
   clear hlt hi
   go_upto_region 6 with (fail)
   go_region_held_law (fun w9=>w9.cell? (a0.add (i*11))=some (.string x.f0)∧w9.cell? ⟨(a0.add (i*11)).block,(a0.add (i*11)).off+1,none⟩=some (.string x.f1)∧w9.cell? ⟨(a0.add (i*11)).block,(a0.add (i*11)).off+2,none⟩=some (.int .i64 x.f2)∧w9.cell? ⟨(a0.add (i*11)).block,(a0.add (i*11)).off+3,none⟩=some (.int .i64 x.f3)∧w9.cell? ⟨(a0.add (i*11)).block,(a0.add (i*11)).off+4,none⟩=some (.slice A4 x.f4.length c4)∧w9.cell? ⟨(a0.add (i*11)).block,(a0.add (i*11)).off+5,none⟩=some (.int .i64 x.f5)∧w9.cell? ⟨(a0.add (i*11)).block,(a0.add (i*11)).off+6,none⟩=some (.bool x.f6.f0)∧w9.cell? ⟨(a0.add (i*11)).block,(a0.add (i*11)).off+7,none⟩=some (.string x.f6.f1)∧w9.cell? ⟨(a0.add (i*11)).block,(a0.add (i*11)).off+8,none⟩=some (.slice A8 x.f6.f2.length c8)∧w9.cell? ⟨(a0.add (i*11)).block,(a0.add (i*11)).off+9,none⟩=some (.bool x.f6.f3)∧w9.cell? ⟨(a0.add (i*11)).block,(a0.add (i*11)).off+10,none⟩=some (.int .i64 x.f6.f4)∧w9.cell? (a1.add (i*11))=some (.string x.f0)∧w9.cell? ⟨(a1.add (i*11)).block,(a1.add (i*11)).off+1,none⟩=some (.string x.f1)∧w9.cell? ⟨(a1.add (i*11)).block,(a1.add (i*11)).off+2,none⟩=some (.int .i64 x.f2)∧w9.cell? ⟨(a1.add (i*11)).block,(a1.add (i*11)).off+3,none⟩=some (.int .i64 x.f3)∧w9.cell? ⟨(a1.add (i*11)).block,(a1.add (i*11)).off+4,none⟩=some (.slice B4 x.f4.length d4)∧w9.cell? ⟨(a1.add (i*11)).block,(a1.add (i*11)).off+5,none⟩=some (.int .i64 x.f5)∧w9.cell? ⟨(a1.add (i*11)).block,(a1.add (i*11)).off+6,none⟩=some (.bool x.f6.f0)∧w9.cell? ⟨(a1.add (i*11)).block,(a1.add (i*11)).off+7,none⟩=some (.string x.f6.f1)∧w9.cell? ⟨(a1.add (i*11)).block,(a1.add (i*11)).off+8,none⟩=some (.slice B8 x.f6.f2.length d8)∧w9.cell? ⟨(a1.add (i*11)).block,(a1.add (i*11)).off+9,none⟩=some (.bool x.f6.f3)∧w9.cell? ⟨(a1.add (i*11)).block,(a1.add (i*11)).off+10,none⟩=some (.int .i64 x.f6.f4)) (first | exact HS.out | (obtain ⟨r0,r1,r2,r3,r4,r5,r6,r7,r8,r9,r10,r11,r12,r13,r14,r15,r16,r17,r18,r19,r20,r21⟩:=HS.out;exact ⟨keep_cell r0 HB6.out,keep_cell r1 HB6.out,keep_cell r2 HB6.out,keep_cell r3 HB6.out,keep_cell r4 HB6.out,keep_cell r5 HB6.out,keep_cell r6 HB6.out,keep_cell r7 HB6.out,keep_cell r8 HB6.out,keep_cell r9 HB6.out,keep_cell r10 HB6.out,keep_cell r11 HB6.out,keep_cell r12 HB6.out,keep_cell r13 HB6.out,keep_cell r14 HB6.out,keep_cell r15 HB6.out,keep_cell r16 HB6.out,keep_cell r17 HB6.out,keep_cell r18 HB6.out,keep_cell r19 HB6.out,keep_cell r20 HB6.out,keep_cell r21 HB6.out⟩)) ((go_at_call 44;((with_reducible refine (same_rule x A4 B4 c4 d4 A8 B8 c8 d8 _ (Kd.C_below G4.out (Below.refl _ wr).drew) (Kd.C_below K4.out (Below.refl _ wr).drew) (Kd.C_below G8.out (Below.refl _ wr).drew) (Kd.C_below K8.out (Below.refl _ wr).drew) HSX.out).mono ?_);rintro e w6 ⟨rfl,hb6⟩;have HB6:=Lib.hid (show Below wr.heap.size wr w6 from (Below.refl _ wr).drew.trans hb6);clear hb6)))
   go_wp2_with fail
   go_roundw
   case rel=>exact ⟨i+1,rfl,HLT.out,HB.out.trans (HB6.out.mono HB.out.size)⟩
   case measure=>(have h9:=HLT.out;simp [RowKit.intOf];omega)
  ·have x2:decide ((i:Int)<(n:Int))=false:=decide_eq_false (by omega)
   have x3:decide (i<n)=false:=decide_eq_false hlt
   clear hb hlt hi
   go_wp2_with fail
   go_ret
   exact ⟨rfl,HB.out⟩
theorem same_classes (l:List (List ByteArray)) (A0 A1:Option Addr) (c0 c1:Nat) (w:World) (h0:Kd.C (Kd.slice 9 Kd.string) w A0 l.length l) (h1:Kd.C (Kd.slice 9 Kd.string) w A1 l.length l) (hs:sm l∧∀ x∈l,sm x) :
  Calls Tryz.prog 23 #[.slice A0 l.length c0,.slice A1 l.length c1] w fun e w'=>e=.returned (.bool true)∧Below w.heap.size w w':=by
 have hl:l.length≤4294967296:=hs.1
 obtain ⟨n,hn⟩:∃ n,l.length=n:=⟨_,rfl⟩
 have HC0:=Lib.hid h0
 have HC1:=Lib.hid h1
 have HN:=Lib.hid hn
 have HSM:=Lib.hid hs.2
 rw [hn] at hl ⊢
 have HL:=Lib.hid hl
 clear h0 h1 hl hn hs
 go_enter Tryz.func23,Tryz.ntmps23
 go_wp2_with fail
 go_loopw [5] (fun u5 wr=>∃ i:Nat,u5=.int .i64 i∧i≤n∧Below w.heap.size w wr) (fun u5 _=>n-(RowKit.intOf u5).toNat)
 case atStart=>exact ⟨0,rfl,Nat.zero_le _,Below.refl _ _⟩
 case round =>
  obtain ⟨i,rfl,hi,hb⟩:=hrel
  have HB:=Lib.hid hb
  by_cases hlt:i<n
  ·have hil:(i:Int)<(l.length:Int):=by have:=HN.out;omega
   obtain ⟨a0,A2,c2,ea0,t0,l2,g2⟩:=at_L5 HC0.out (i:Int) (Int.natCast_nonneg i) hil
   obtain ⟨a1,B2,d2,ea1,u0,m2,k2⟩:=at_L5 HC1.out (i:Int) (Int.natCast_nonneg i) hil
   have hx:rd_L5 l (i:Int)∈l:=by
    show l.getD i _∈l
    rw [List.getD_eq_getElem?_getD,List.getElem?_eq_getElem (by have:=HN.out;omega)]
    exact List.getElem_mem _
   have hsx:=HSM.out _ hx
   subst ea0
   subst ea1
   simp only [Int.toNat_natCast] at t0 u0
   generalize rd_L5 l (i:Int)=x at *
   have HSX:=Lib.hid (show x.length≤4294967296 from hsx)
   have G2:=Lib.hid (Kd.C_below g2 hb)
   have K2:=Lib.hid (Kd.C_below k2 hb)
   have HS:=Lib.hid (⟨keep_cell t0 hb,keep_cell u0 hb⟩:wr.cell? (a0.add i)=some (.slice A2 x.length c2)∧wr.cell? (a1.add i)=some (.slice B2 x.length d2))
   clear t0 u0 hb hil hx hsx g2 k2 l2 m2
   have HLT:=Lib.hid hlt
   have x0:(0:Int)≤(i:Int):=by omega
   have x1:(i:Int)<(n:Int):=by omega
   have x5:(i:Int)≤4294967296:=by have:=HL.out;omega
   have x2:decide ((i:Int)<(n:Int))=true:=decide_eq_true x1
   have x3:decide (i<n)=true:=decide_eq_true hlt
   clear hlt hi
   go_upto_region 6 with (fail)
   go_region_held_law (fun w9=>w9.cell? (a0.add i)=some (.slice A2 x.length c2)∧w9.cell? (a1.add i)=some (.slice B2 x.length d2)) (first | exact HS.out | (obtain ⟨r0,r1⟩:=HS.out;exact ⟨keep_cell r0 HB6.out,keep_cell r1 HB6.out⟩)) ((go_at_call 20;((with_reducible refine (same_strings x A2 B2 c2 d2 _ (Kd.C_below G2.out (Below.refl _ wr).drew) (Kd.C_below K2.out (Below.refl _ wr).drew) HSX.out).mono ?_);rintro e w6 ⟨rfl,hb6⟩;have HB6:=Lib.hid (show Below wr.heap.size wr w6 from (Below.refl _ wr).drew.trans hb6);clear hb6)))
   go_wp2_with fail
   go_roundw
   case rel=>exact ⟨i+1,rfl,HLT.out,HB.out.trans (HB6.out.mono HB.out.size)⟩
   case measure=>(have h9:=HLT.out;simp [RowKit.intOf];omega)
  ·have x2:decide ((i:Int)<(n:Int))=false:=decide_eq_false (by omega)
   have x3:decide (i<n)=false:=decide_eq_false hlt
   clear hb hlt hi
   go_wp2_with fail
   go_ret
   exact ⟨rfl,HB.out⟩
theorem same_statute (x:Stt) (A1 B1:Option Addr) (c1 d1:Nat) (A2 B2:Option Addr) (c2 d2:Nat) (A3 B3:Option Addr) (c3 d3:Nat) (A4 B4:Option Addr) (c4 d4:Nat) (A5 B5:Option Addr) (c5 d5:Nat) (A6 B6:Option Addr) (c6 d6:Nat) (A7 B7:Option Addr) (c7 d7:Nat) (A8 B8:Option Addr) (c8 d8:Nat) (w:World) (g1:Kd.C Kd.string w A1 x.kinds.length x.kinds) (k1:Kd.C Kd.string w B1 x.kinds.length x.kinds) (g2:Kd.C k54 w A2 x.members.length x.members) (k2:Kd.C k54 w B2 x.members.length x.members) (g3:Kd.C k85 w A3 x.preds.length x.preds) (k3:Kd.C k85 w B3 x.preds.length x.preds) (g4:Kd.C (Kd.slice 9 Kd.string) w A4 x.classes.length x.classes) (k4:Kd.C (Kd.slice 9 Kd.string) w B4 x.classes.length x.classes) (g5:Kd.C k117 w A5 x.sources.length x.sources) (k5:Kd.C k117 w B5 x.sources.length x.sources) (g6:Kd.C k93 w A6 x.rules.length x.rules) (k6:Kd.C k93 w B6 x.rules.length x.rules) (g7:Kd.C k120 w A7 x.excepts.length x.excepts) (k7:Kd.C k120 w B7 x.excepts.length x.excepts) (g8:Kd.C k104 w A8 x.totals.length x.totals) (k8:Kd.C k104 w B8 x.totals.length x.totals) (hs:smStt x) :
  Calls Tryz.prog 10 #[.agg #[.string x.title,.slice A1 x.kinds.length c1,.slice A2 x.members.length c2,.slice A3 x.preds.length c3,.slice A4 x.classes.length c4,.slice A5 x.sources.length c5,.slice A6 x.rules.length c6,.slice A7 x.excepts.length c7,.slice A8 x.totals.length c8],.agg #[.string x.title,.slice B1 x.kinds.length d1,.slice B2 x.members.length d2,.slice B3 x.preds.length d3,.slice B4 x.classes.length d4,.slice B5 x.sources.length d5,.slice B6 x.rules.length d6,.slice B7 x.excepts.length d7,.slice B8 x.totals.length d8]] w fun e w'=>e=.returned (.bool true)∧Below w.heap.size w w':=by
 have HSM:=Lib.hid hs
 obtain ⟨X,hX⟩:∃ X,(w.alloc (.cells #[.string x.title,.slice A1 x.kinds.length c1,.slice A2 x.members.length c2,.slice A3 x.preds.length c3,.slice A4 x.classes.length c4,.slice A5 x.sources.length c5,.slice A6 x.rules.length c6,.slice A7 x.excepts.length c7,.slice A8 x.totals.length c8] 32)).alloc (.cells #[.string x.title,.slice B1 x.kinds.length d1,.slice B2 x.members.length d2,.slice B3 x.preds.length d3,.slice B4 x.classes.length d4,.slice B5 x.sources.length d5,.slice B6 x.rules.length d6,.slice B7 x.excepts.length d7,.slice B8 x.totals.length d8] 32)=X:=⟨_,rfl⟩
 obtain ⟨b0,hb0⟩:∃ b,w.heap.size=b:=⟨_,rfl⟩
 obtain ⟨b1,hb1⟩:∃ b,b0+1=b:=⟨_,rfl⟩
 have HBX:=Lib.hid (show Below w.heap.size w X by rw [← hX];exact ((Below.refl _ w).alloc (Nat.le_refl _) _).alloc (by rw [World.size_alloc];omega) _)
 have h1:X.heap[b1]?=some (.cells #[.string x.title,.slice B1 x.kinds.length d1,.slice B2 x.members.length d2,.slice B3 x.preds.length d3,.slice B4 x.classes.length d4,.slice B5 x.sources.length d5,.slice B6 x.rules.length d6,.slice B7 x.excepts.length d7,.slice B8 x.totals.length d8] 32 (0,0)):=by
  rw [← hX,← hb1,← hb0]
  have h:=heap_alloc_new (w.alloc (.cells #[.string x.title,.slice A1 x.kinds.length c1,.slice A2 x.members.length c2,.slice A3 x.preds.length c3,.slice A4 x.classes.length c4,.slice A5 x.sources.length c5,.slice A6 x.rules.length c6,.slice A7 x.excepts.length c7,.slice A8 x.totals.length c8] 32)) (.cells #[.string x.title,.slice B1 x.kinds.length d1,.slice B2 x.members.length d2,.slice B3 x.preds.length d3,.slice B4 x.classes.length d4,.slice B5 x.sources.length d5,.slice B6 x.rules.length d6,.slice B7 x.excepts.length d7,.slice B8 x.totals.length d8] 32)
  rw [World.size_alloc] at h
  exact h
 have h0:X.heap[b0]?=some (.cells #[.string x.title,.slice A1 x.kinds.length c1,.slice A2 x.members.length c2,.slice A3 x.preds.length c3,.slice A4 x.classes.length c4,.slice A5 x.sources.length c5,.slice A6 x.rules.length c6,.slice A7 x.excepts.length c7,.slice A8 x.totals.length c8] 32 (0,0)):=by
  rw [← hX,← hb0]
  exact (((Below.refl _ _).alloc (Nat.le_refl _) _).block _ (by simp only [World.size_alloc];omega)).trans (heap_alloc_new w _)
 have HCE:=Lib.hid (fun W (hW:Below X.heap.size X W)=>(⟨(hW.block b0 (blk_lt h0)).trans h0,(hW.block b1 (blk_lt h1)).trans h1⟩:W.heap[b0]?=some (.cells #[.string x.title,.slice A1 x.kinds.length c1,.slice A2 x.members.length c2,.slice A3 x.preds.length c3,.slice A4 x.classes.length c4,.slice A5 x.sources.length c5,.slice A6 x.rules.length c6,.slice A7 x.excepts.length c7,.slice A8 x.totals.length c8] 32 (0,0))∧W.heap[b1]?=some (.cells #[.string x.title,.slice B1 x.kinds.length d1,.slice B2 x.members.length d2,.slice B3 x.preds.length d3,.slice B4 x.classes.length d4,.slice B5 x.sources.length d5,.slice B6 x.rules.length d6,.slice B7 x.excepts.length d7,.slice B8 x.totals.length d8] 32 (0,0))))
 have G1:=Lib.hid (Kd.C_below g1 HBX.out)
 have K1:=Lib.hid (Kd.C_below k1 HBX.out)
 have G2:=Lib.hid (Kd.C_below g2 HBX.out)
 have K2:=Lib.hid (Kd.C_below k2 HBX.out)
 have G3:=Lib.hid (Kd.C_below g3 HBX.out)
 have K3:=Lib.hid (Kd.C_below k3 HBX.out)
 have G4:=Lib.hid (Kd.C_below g4 HBX.out)
 have K4:=Lib.hid (Kd.C_below k4 HBX.out)
 have G5:=Lib.hid (Kd.C_below g5 HBX.out)
 have K5:=Lib.hid (Kd.C_below k5 HBX.out)
 have G6:=Lib.hid (Kd.C_below g6 HBX.out)
 have K6:=Lib.hid (Kd.C_below k6 HBX.out)
 have G7:=Lib.hid (Kd.C_below g7 HBX.out)
 have K7:=Lib.hid (Kd.C_below k7 HBX.out)
 have G8:=Lib.hid (Kd.C_below g8 HBX.out)
 have K8:=Lib.hid (Kd.C_below k8 HBX.out)
 have HB0:=Lib.hid (Below.refl X.heap.size X)
 have y0_0:=blk_cell (v:=.string x.title) (HCE.out X HB0.out).1 0 rfl
 have z0_0:=blk_cell (v:=.string x.title) (HCE.out X HB0.out).2 0 rfl
 have y0_1:=blk_cell (v:=.slice A1 x.kinds.length c1) (HCE.out X HB0.out).1 1 rfl
 have z0_1:=blk_cell (v:=.slice B1 x.kinds.length d1) (HCE.out X HB0.out).2 1 rfl
 have y0_2:=blk_cell (v:=.slice A2 x.members.length c2) (HCE.out X HB0.out).1 2 rfl
 have z0_2:=blk_cell (v:=.slice B2 x.members.length d2) (HCE.out X HB0.out).2 2 rfl
 have y0_3:=blk_cell (v:=.slice A3 x.preds.length c3) (HCE.out X HB0.out).1 3 rfl
 have z0_3:=blk_cell (v:=.slice B3 x.preds.length d3) (HCE.out X HB0.out).2 3 rfl
 have y0_4:=blk_cell (v:=.slice A4 x.classes.length c4) (HCE.out X HB0.out).1 4 rfl
 have z0_4:=blk_cell (v:=.slice B4 x.classes.length d4) (HCE.out X HB0.out).2 4 rfl
 have y0_5:=blk_cell (v:=.slice A5 x.sources.length c5) (HCE.out X HB0.out).1 5 rfl
 have z0_5:=blk_cell (v:=.slice B5 x.sources.length d5) (HCE.out X HB0.out).2 5 rfl
 have y0_6:=blk_cell (v:=.slice A6 x.rules.length c6) (HCE.out X HB0.out).1 6 rfl
 have z0_6:=blk_cell (v:=.slice B6 x.rules.length d6) (HCE.out X HB0.out).2 6 rfl
 have y0_7:=blk_cell (v:=.slice A7 x.excepts.length c7) (HCE.out X HB0.out).1 7 rfl
 have z0_7:=blk_cell (v:=.slice B7 x.excepts.length d7) (HCE.out X HB0.out).2 7 rfl
 have y0_8:=blk_cell (v:=.slice A8 x.totals.length c8) (HCE.out X HB0.out).1 8 rfl
 have z0_8:=blk_cell (v:=.slice B8 x.totals.length d8) (HCE.out X HB0.out).2 8 rfl
 have HX:=Lib.hid hX
 have HN0:=Lib.hid hb0
 have HN1:=Lib.hid hb1
 have HM0:=Lib.hid (show x.kinds.length≤4294967296 from hs.1)
 have HM1:=Lib.hid (show x.members.length≤4294967296 from hs.2.1)
 have HM2:=Lib.hid (show sm x.preds∧∀ y∈x.preds,smPred y from hs.2.2.1)
 have HM3:=Lib.hid (show sm x.classes∧∀ y∈x.classes,sm y from hs.2.2.2.1)
 have HM4:=Lib.hid (show x.sources.length≤4294967296 from hs.2.2.2.2.1)
 have HM5:=Lib.hid (show sm x.rules∧∀ y∈x.rules,smRule y from hs.2.2.2.2.2.1)
 have HM6:=Lib.hid (show x.excepts.length≤4294967296 from hs.2.2.2.2.2.2.1)
 have HM7:=Lib.hid (show sm x.totals∧∀ y∈x.totals,smTotal y from hs.2.2.2.2.2.2.2)
 clear g1 k1 g2 k2 g3 k3 g4 k4 g5 k5 g6 k6 g7 k7 g8 k8 hs hX hb0 hb1 h0 h1
 go_enter Tryz.func10,Tryz.ntmps10
 go_upto_region 1 with (fail)
 try rw [HX.out]
 try rw [HN0.out]
 try rw [HN1.out]
 go_wp2_with (first | (go_at_call 20;((with_reducible refine (same_strings x.kinds A1 B1 c1 d1 _ (Kd.C_below G1.out HB0.out) (Kd.C_below K1.out HB0.out) HM0.out).mono ?_);rintro e w1 ⟨rfl,hb1⟩;have HB1:=Lib.hid (HB0.out.trans (hb1.mono HB0.out.size));have y1_0:=blk_cell (v:=.string x.title) (HCE.out _ HB1.out).1 0 rfl;have z1_0:=blk_cell (v:=.string x.title) (HCE.out _ HB1.out).2 0 rfl;have y1_1:=blk_cell (v:=.slice A1 x.kinds.length c1) (HCE.out _ HB1.out).1 1 rfl;have z1_1:=blk_cell (v:=.slice B1 x.kinds.length d1) (HCE.out _ HB1.out).2 1 rfl;have y1_2:=blk_cell (v:=.slice A2 x.members.length c2) (HCE.out _ HB1.out).1 2 rfl;have z1_2:=blk_cell (v:=.slice B2 x.members.length d2) (HCE.out _ HB1.out).2 2 rfl;have y1_3:=blk_cell (v:=.slice A3 x.preds.length c3) (HCE.out _ HB1.out).1 3 rfl;have z1_3:=blk_cell (v:=.slice B3 x.preds.length d3) (HCE.out _ HB1.out).2 3 rfl;have y1_4:=blk_cell (v:=.slice A4 x.classes.length c4) (HCE.out _ HB1.out).1 4 rfl;have z1_4:=blk_cell (v:=.slice B4 x.classes.length d4) (HCE.out _ HB1.out).2 4 rfl;have y1_5:=blk_cell (v:=.slice A5 x.sources.length c5) (HCE.out _ HB1.out).1 5 rfl;have z1_5:=blk_cell (v:=.slice B5 x.sources.length d5) (HCE.out _ HB1.out).2 5 rfl;have y1_6:=blk_cell (v:=.slice A6 x.rules.length c6) (HCE.out _ HB1.out).1 6 rfl;have z1_6:=blk_cell (v:=.slice B6 x.rules.length d6) (HCE.out _ HB1.out).2 6 rfl;have y1_7:=blk_cell (v:=.slice A7 x.excepts.length c7) (HCE.out _ HB1.out).1 7 rfl;have z1_7:=blk_cell (v:=.slice B7 x.excepts.length d7) (HCE.out _ HB1.out).2 7 rfl;have y1_8:=blk_cell (v:=.slice A8 x.totals.length c8) (HCE.out _ HB1.out).1 8 rfl;have z1_8:=blk_cell (v:=.slice B8 x.totals.length d8) (HCE.out _ HB1.out).2 8 rfl;clear hb1)) | (go_at_call 21;((with_reducible refine (same_members x.members A2 B2 c2 d2 _ (Kd.C_below G2.out HB1.out) (Kd.C_below K2.out HB1.out) HM1.out).mono ?_);rintro e w2 ⟨rfl,hb2⟩;have HB2:=Lib.hid (HB1.out.trans (hb2.mono HB1.out.size));have y2_0:=blk_cell (v:=.string x.title) (HCE.out _ HB2.out).1 0 rfl;have z2_0:=blk_cell (v:=.string x.title) (HCE.out _ HB2.out).2 0 rfl;have y2_1:=blk_cell (v:=.slice A1 x.kinds.length c1) (HCE.out _ HB2.out).1 1 rfl;have z2_1:=blk_cell (v:=.slice B1 x.kinds.length d1) (HCE.out _ HB2.out).2 1 rfl;have y2_2:=blk_cell (v:=.slice A2 x.members.length c2) (HCE.out _ HB2.out).1 2 rfl;have z2_2:=blk_cell (v:=.slice B2 x.members.length d2) (HCE.out _ HB2.out).2 2 rfl;have y2_3:=blk_cell (v:=.slice A3 x.preds.length c3) (HCE.out _ HB2.out).1 3 rfl;have z2_3:=blk_cell (v:=.slice B3 x.preds.length d3) (HCE.out _ HB2.out).2 3 rfl;have y2_4:=blk_cell (v:=.slice A4 x.classes.length c4) (HCE.out _ HB2.out).1 4 rfl;have z2_4:=blk_cell (v:=.slice B4 x.classes.length d4) (HCE.out _ HB2.out).2 4 rfl;have y2_5:=blk_cell (v:=.slice A5 x.sources.length c5) (HCE.out _ HB2.out).1 5 rfl;have z2_5:=blk_cell (v:=.slice B5 x.sources.length d5) (HCE.out _ HB2.out).2 5 rfl;have y2_6:=blk_cell (v:=.slice A6 x.rules.length c6) (HCE.out _ HB2.out).1 6 rfl;have z2_6:=blk_cell (v:=.slice B6 x.rules.length d6) (HCE.out _ HB2.out).2 6 rfl;have y2_7:=blk_cell (v:=.slice A7 x.excepts.length c7) (HCE.out _ HB2.out).1 7 rfl;have z2_7:=blk_cell (v:=.slice B7 x.excepts.length d7) (HCE.out _ HB2.out).2 7 rfl;have y2_8:=blk_cell (v:=.slice A8 x.totals.length c8) (HCE.out _ HB2.out).1 8 rfl;have z2_8:=blk_cell (v:=.slice B8 x.totals.length d8) (HCE.out _ HB2.out).2 8 rfl;clear hb2)) | (go_at_call 22;((with_reducible refine (same_preds x.preds A3 B3 c3 d3 _ (Kd.C_below G3.out HB2.out) (Kd.C_below K3.out HB2.out) HM2.out).mono ?_);rintro e w3 ⟨rfl,hb3⟩;have HB3:=Lib.hid (HB2.out.trans (hb3.mono HB2.out.size));have y3_0:=blk_cell (v:=.string x.title) (HCE.out _ HB3.out).1 0 rfl;have z3_0:=blk_cell (v:=.string x.title) (HCE.out _ HB3.out).2 0 rfl;have y3_1:=blk_cell (v:=.slice A1 x.kinds.length c1) (HCE.out _ HB3.out).1 1 rfl;have z3_1:=blk_cell (v:=.slice B1 x.kinds.length d1) (HCE.out _ HB3.out).2 1 rfl;have y3_2:=blk_cell (v:=.slice A2 x.members.length c2) (HCE.out _ HB3.out).1 2 rfl;have z3_2:=blk_cell (v:=.slice B2 x.members.length d2) (HCE.out _ HB3.out).2 2 rfl;have y3_3:=blk_cell (v:=.slice A3 x.preds.length c3) (HCE.out _ HB3.out).1 3 rfl;have z3_3:=blk_cell (v:=.slice B3 x.preds.length d3) (HCE.out _ HB3.out).2 3 rfl;have y3_4:=blk_cell (v:=.slice A4 x.classes.length c4) (HCE.out _ HB3.out).1 4 rfl;have z3_4:=blk_cell (v:=.slice B4 x.classes.length d4) (HCE.out _ HB3.out).2 4 rfl;have y3_5:=blk_cell (v:=.slice A5 x.sources.length c5) (HCE.out _ HB3.out).1 5 rfl;have z3_5:=blk_cell (v:=.slice B5 x.sources.length d5) (HCE.out _ HB3.out).2 5 rfl;have y3_6:=blk_cell (v:=.slice A6 x.rules.length c6) (HCE.out _ HB3.out).1 6 rfl;have z3_6:=blk_cell (v:=.slice B6 x.rules.length d6) (HCE.out _ HB3.out).2 6 rfl;have y3_7:=blk_cell (v:=.slice A7 x.excepts.length c7) (HCE.out _ HB3.out).1 7 rfl;have z3_7:=blk_cell (v:=.slice B7 x.excepts.length d7) (HCE.out _ HB3.out).2 7 rfl;have y3_8:=blk_cell (v:=.slice A8 x.totals.length c8) (HCE.out _ HB3.out).1 8 rfl;have z3_8:=blk_cell (v:=.slice B8 x.totals.length d8) (HCE.out _ HB3.out).2 8 rfl;clear hb3)) | (go_at_call 23;((with_reducible refine (same_classes x.classes A4 B4 c4 d4 _ (Kd.C_below G4.out HB3.out) (Kd.C_below K4.out HB3.out) HM3.out).mono ?_);rintro e w4 ⟨rfl,hb4⟩;have HB4:=Lib.hid (HB3.out.trans (hb4.mono HB3.out.size));have y4_0:=blk_cell (v:=.string x.title) (HCE.out _ HB4.out).1 0 rfl;have z4_0:=blk_cell (v:=.string x.title) (HCE.out _ HB4.out).2 0 rfl;have y4_1:=blk_cell (v:=.slice A1 x.kinds.length c1) (HCE.out _ HB4.out).1 1 rfl;have z4_1:=blk_cell (v:=.slice B1 x.kinds.length d1) (HCE.out _ HB4.out).2 1 rfl;have y4_2:=blk_cell (v:=.slice A2 x.members.length c2) (HCE.out _ HB4.out).1 2 rfl;have z4_2:=blk_cell (v:=.slice B2 x.members.length d2) (HCE.out _ HB4.out).2 2 rfl;have y4_3:=blk_cell (v:=.slice A3 x.preds.length c3) (HCE.out _ HB4.out).1 3 rfl;have z4_3:=blk_cell (v:=.slice B3 x.preds.length d3) (HCE.out _ HB4.out).2 3 rfl;have y4_4:=blk_cell (v:=.slice A4 x.classes.length c4) (HCE.out _ HB4.out).1 4 rfl;have z4_4:=blk_cell (v:=.slice B4 x.classes.length d4) (HCE.out _ HB4.out).2 4 rfl;have y4_5:=blk_cell (v:=.slice A5 x.sources.length c5) (HCE.out _ HB4.out).1 5 rfl;have z4_5:=blk_cell (v:=.slice B5 x.sources.length d5) (HCE.out _ HB4.out).2 5 rfl;have y4_6:=blk_cell (v:=.slice A6 x.rules.length c6) (HCE.out _ HB4.out).1 6 rfl;have z4_6:=blk_cell (v:=.slice B6 x.rules.length d6) (HCE.out _ HB4.out).2 6 rfl;have y4_7:=blk_cell (v:=.slice A7 x.excepts.length c7) (HCE.out _ HB4.out).1 7 rfl;have z4_7:=blk_cell (v:=.slice B7 x.excepts.length d7) (HCE.out _ HB4.out).2 7 rfl;have y4_8:=blk_cell (v:=.slice A8 x.totals.length c8) (HCE.out _ HB4.out).1 8 rfl;have z4_8:=blk_cell (v:=.slice B8 x.totals.length d8) (HCE.out _ HB4.out).2 8 rfl;clear hb4)) | (go_at_call 24;((with_reducible refine (same_sources x.sources A5 B5 c5 d5 _ (Kd.C_below G5.out HB4.out) (Kd.C_below K5.out HB4.out) HM4.out).mono ?_);rintro e w5 ⟨rfl,hb5⟩;have HB5:=Lib.hid (HB4.out.trans (hb5.mono HB4.out.size));have y5_0:=blk_cell (v:=.string x.title) (HCE.out _ HB5.out).1 0 rfl;have z5_0:=blk_cell (v:=.string x.title) (HCE.out _ HB5.out).2 0 rfl;have y5_1:=blk_cell (v:=.slice A1 x.kinds.length c1) (HCE.out _ HB5.out).1 1 rfl;have z5_1:=blk_cell (v:=.slice B1 x.kinds.length d1) (HCE.out _ HB5.out).2 1 rfl;have y5_2:=blk_cell (v:=.slice A2 x.members.length c2) (HCE.out _ HB5.out).1 2 rfl;have z5_2:=blk_cell (v:=.slice B2 x.members.length d2) (HCE.out _ HB5.out).2 2 rfl;have y5_3:=blk_cell (v:=.slice A3 x.preds.length c3) (HCE.out _ HB5.out).1 3 rfl;have z5_3:=blk_cell (v:=.slice B3 x.preds.length d3) (HCE.out _ HB5.out).2 3 rfl;have y5_4:=blk_cell (v:=.slice A4 x.classes.length c4) (HCE.out _ HB5.out).1 4 rfl;have z5_4:=blk_cell (v:=.slice B4 x.classes.length d4) (HCE.out _ HB5.out).2 4 rfl;have y5_5:=blk_cell (v:=.slice A5 x.sources.length c5) (HCE.out _ HB5.out).1 5 rfl;have z5_5:=blk_cell (v:=.slice B5 x.sources.length d5) (HCE.out _ HB5.out).2 5 rfl;have y5_6:=blk_cell (v:=.slice A6 x.rules.length c6) (HCE.out _ HB5.out).1 6 rfl;have z5_6:=blk_cell (v:=.slice B6 x.rules.length d6) (HCE.out _ HB5.out).2 6 rfl;have y5_7:=blk_cell (v:=.slice A7 x.excepts.length c7) (HCE.out _ HB5.out).1 7 rfl;have z5_7:=blk_cell (v:=.slice B7 x.excepts.length d7) (HCE.out _ HB5.out).2 7 rfl;have y5_8:=blk_cell (v:=.slice A8 x.totals.length c8) (HCE.out _ HB5.out).1 8 rfl;have z5_8:=blk_cell (v:=.slice B8 x.totals.length d8) (HCE.out _ HB5.out).2 8 rfl;clear hb5)) | (go_at_call 25;((with_reducible refine (same_rules x.rules A6 B6 c6 d6 _ (Kd.C_below G6.out HB5.out) (Kd.C_below K6.out HB5.out) HM5.out).mono ?_);rintro e w6 ⟨rfl,hb6⟩;have HB6:=Lib.hid (HB5.out.trans (hb6.mono HB5.out.size));have y6_0:=blk_cell (v:=.string x.title) (HCE.out _ HB6.out).1 0 rfl;have z6_0:=blk_cell (v:=.string x.title) (HCE.out _ HB6.out).2 0 rfl;have y6_1:=blk_cell (v:=.slice A1 x.kinds.length c1) (HCE.out _ HB6.out).1 1 rfl;have z6_1:=blk_cell (v:=.slice B1 x.kinds.length d1) (HCE.out _ HB6.out).2 1 rfl;have y6_2:=blk_cell (v:=.slice A2 x.members.length c2) (HCE.out _ HB6.out).1 2 rfl;have z6_2:=blk_cell (v:=.slice B2 x.members.length d2) (HCE.out _ HB6.out).2 2 rfl;have y6_3:=blk_cell (v:=.slice A3 x.preds.length c3) (HCE.out _ HB6.out).1 3 rfl;have z6_3:=blk_cell (v:=.slice B3 x.preds.length d3) (HCE.out _ HB6.out).2 3 rfl;have y6_4:=blk_cell (v:=.slice A4 x.classes.length c4) (HCE.out _ HB6.out).1 4 rfl;have z6_4:=blk_cell (v:=.slice B4 x.classes.length d4) (HCE.out _ HB6.out).2 4 rfl;have y6_5:=blk_cell (v:=.slice A5 x.sources.length c5) (HCE.out _ HB6.out).1 5 rfl;have z6_5:=blk_cell (v:=.slice B5 x.sources.length d5) (HCE.out _ HB6.out).2 5 rfl;have y6_6:=blk_cell (v:=.slice A6 x.rules.length c6) (HCE.out _ HB6.out).1 6 rfl;have z6_6:=blk_cell (v:=.slice B6 x.rules.length d6) (HCE.out _ HB6.out).2 6 rfl;have y6_7:=blk_cell (v:=.slice A7 x.excepts.length c7) (HCE.out _ HB6.out).1 7 rfl;have z6_7:=blk_cell (v:=.slice B7 x.excepts.length d7) (HCE.out _ HB6.out).2 7 rfl;have y6_8:=blk_cell (v:=.slice A8 x.totals.length c8) (HCE.out _ HB6.out).1 8 rfl;have z6_8:=blk_cell (v:=.slice B8 x.totals.length d8) (HCE.out _ HB6.out).2 8 rfl;clear hb6)) | (go_at_call 26;((with_reducible refine (same_excepts x.excepts A7 B7 c7 d7 _ (Kd.C_below G7.out HB6.out) (Kd.C_below K7.out HB6.out) HM6.out).mono ?_);rintro e w7 ⟨rfl,hb7⟩;have HB7:=Lib.hid (HB6.out.trans (hb7.mono HB6.out.size));have y7_0:=blk_cell (v:=.string x.title) (HCE.out _ HB7.out).1 0 rfl;have z7_0:=blk_cell (v:=.string x.title) (HCE.out _ HB7.out).2 0 rfl;have y7_1:=blk_cell (v:=.slice A1 x.kinds.length c1) (HCE.out _ HB7.out).1 1 rfl;have z7_1:=blk_cell (v:=.slice B1 x.kinds.length d1) (HCE.out _ HB7.out).2 1 rfl;have y7_2:=blk_cell (v:=.slice A2 x.members.length c2) (HCE.out _ HB7.out).1 2 rfl;have z7_2:=blk_cell (v:=.slice B2 x.members.length d2) (HCE.out _ HB7.out).2 2 rfl;have y7_3:=blk_cell (v:=.slice A3 x.preds.length c3) (HCE.out _ HB7.out).1 3 rfl;have z7_3:=blk_cell (v:=.slice B3 x.preds.length d3) (HCE.out _ HB7.out).2 3 rfl;have y7_4:=blk_cell (v:=.slice A4 x.classes.length c4) (HCE.out _ HB7.out).1 4 rfl;have z7_4:=blk_cell (v:=.slice B4 x.classes.length d4) (HCE.out _ HB7.out).2 4 rfl;have y7_5:=blk_cell (v:=.slice A5 x.sources.length c5) (HCE.out _ HB7.out).1 5 rfl;have z7_5:=blk_cell (v:=.slice B5 x.sources.length d5) (HCE.out _ HB7.out).2 5 rfl;have y7_6:=blk_cell (v:=.slice A6 x.rules.length c6) (HCE.out _ HB7.out).1 6 rfl;have z7_6:=blk_cell (v:=.slice B6 x.rules.length d6) (HCE.out _ HB7.out).2 6 rfl;have y7_7:=blk_cell (v:=.slice A7 x.excepts.length c7) (HCE.out _ HB7.out).1 7 rfl;have z7_7:=blk_cell (v:=.slice B7 x.excepts.length d7) (HCE.out _ HB7.out).2 7 rfl;have y7_8:=blk_cell (v:=.slice A8 x.totals.length c8) (HCE.out _ HB7.out).1 8 rfl;have z7_8:=blk_cell (v:=.slice B8 x.totals.length d8) (HCE.out _ HB7.out).2 8 rfl;clear hb7)) | (go_at_call 27;((with_reducible refine (same_totals x.totals A8 B8 c8 d8 _ (Kd.C_below G8.out HB7.out) (Kd.C_below K8.out HB7.out) HM7.out).mono ?_);rintro e w8 ⟨rfl,hb8⟩;have HB8:=Lib.hid (HB7.out.trans (hb8.mono HB7.out.size));have y8_0:=blk_cell (v:=.string x.title) (HCE.out _ HB8.out).1 0 rfl;have z8_0:=blk_cell (v:=.string x.title) (HCE.out _ HB8.out).2 0 rfl;have y8_1:=blk_cell (v:=.slice A1 x.kinds.length c1) (HCE.out _ HB8.out).1 1 rfl;have z8_1:=blk_cell (v:=.slice B1 x.kinds.length d1) (HCE.out _ HB8.out).2 1 rfl;have y8_2:=blk_cell (v:=.slice A2 x.members.length c2) (HCE.out _ HB8.out).1 2 rfl;have z8_2:=blk_cell (v:=.slice B2 x.members.length d2) (HCE.out _ HB8.out).2 2 rfl;have y8_3:=blk_cell (v:=.slice A3 x.preds.length c3) (HCE.out _ HB8.out).1 3 rfl;have z8_3:=blk_cell (v:=.slice B3 x.preds.length d3) (HCE.out _ HB8.out).2 3 rfl;have y8_4:=blk_cell (v:=.slice A4 x.classes.length c4) (HCE.out _ HB8.out).1 4 rfl;have z8_4:=blk_cell (v:=.slice B4 x.classes.length d4) (HCE.out _ HB8.out).2 4 rfl;have y8_5:=blk_cell (v:=.slice A5 x.sources.length c5) (HCE.out _ HB8.out).1 5 rfl;have z8_5:=blk_cell (v:=.slice B5 x.sources.length d5) (HCE.out _ HB8.out).2 5 rfl;have y8_6:=blk_cell (v:=.slice A6 x.rules.length c6) (HCE.out _ HB8.out).1 6 rfl;have z8_6:=blk_cell (v:=.slice B6 x.rules.length d6) (HCE.out _ HB8.out).2 6 rfl;have y8_7:=blk_cell (v:=.slice A7 x.excepts.length c7) (HCE.out _ HB8.out).1 7 rfl;have z8_7:=blk_cell (v:=.slice B7 x.excepts.length d7) (HCE.out _ HB8.out).2 7 rfl;have y8_8:=blk_cell (v:=.slice A8 x.totals.length c8) (HCE.out _ HB8.out).1 8 rfl;have z8_8:=blk_cell (v:=.slice B8 x.totals.length d8) (HCE.out _ HB8.out).2 8 rfl;clear hb8)))
 go_ret
 exact ⟨by simp,HBX.out.trans (HB8.out.mono HBX.out.size)⟩
end Go.Proofs.YtcakgennlliejaaGreatDoor
