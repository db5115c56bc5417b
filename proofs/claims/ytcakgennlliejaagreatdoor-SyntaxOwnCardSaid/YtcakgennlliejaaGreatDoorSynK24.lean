import Derived.Test.YtcakgennlliejaaGreatDoorSynK22
import Derived.Test.YtcakgennlliejaaGreatDoorSynK23
set_option maxHeartbeats 8000000
set_option maxRecDepth 100000
namespace Go.Proofs.YtcakgennlliejaaGreatDoor
open Go.Shelf Go.RowKit Go.Lib
open Go.Proofs.YtcakgennlliejaaGreatDoorW.PrintWords
open Go.Proofs.YtcakgennlliejaaGreatDoor.PSyntaxJoined
open Sx
set_option linter.unusedVariables false
set_option linter.unusedSimpArgs false
def Sx.own8 (z1 z2 z3 z4 z5 z6 z7 k : Nat) : Nat := if k < z1 then 1 else if k < z2 then 2 else if k < z3 then 3 else if k < z4 then 4 else if k < z5 then 5 else if k < z6 then 6 else if k < z7 then 7 else 8
theorem Sx.Cp.newB {w Y w1 : World} {b c t e : Nat} {cs zs : Array Value} {α : Type} {d : Kd α} {v : Value} {l : List α} (h : Cp w b c t cs zs Y) (r : Kd.R d e w1 Y.heap.size (fun k => Y.heap.size ≤ k) v l) : Kd.R d e w1 (c + 1) (fun k => c < k ∧ Y.heap.size ≤ k ∧ k < w1.heap.size) v l :=
 Kd.R_lower (Kd.R_mono (Kd.R_bound r) (fun k hk => ⟨Nat.lt_of_lt_of_le h.lt hk.1,hk.1,hk.2.2.1⟩)) h.lt
theorem copy_statute (x : Stt) (A1 : Option Addr) (c1 : Nat) (A2 : Option Addr) (c2 : Nat) (A3 : Option Addr) (c3 : Nat) (A4 : Option Addr) (c4 : Nat) (A5 : Option Addr) (c5 : Nat) (A6 : Option Addr) (c6 : Nat) (A7 : Option Addr) (c7 : Nat) (A8 : Option Addr) (c8 : Nat) (w : World) (g1 : Kd.C Kd.string w A1 x.kinds.length x.kinds) (g2 : Kd.C k54 w A2 x.members.length x.members) (g3 : Kd.C k85 w A3 x.preds.length x.preds) (g4 : Kd.C (Kd.slice 9 Kd.string) w A4 x.classes.length x.classes) (g5 : Kd.C k117 w A5 x.sources.length x.sources) (g6 : Kd.C k93 w A6 x.rules.length x.rules) (g7 : Kd.C k120 w A7 x.excepts.length x.excepts) (g8 : Kd.C k104 w A8 x.totals.length x.totals) (hs : smStt x) (hm : x.members.length ≤ 64) :
  Calls Tryz.prog 15 #[.agg #[.string x.title,.slice A1 x.kinds.length c1,.slice A2 x.members.length c2,.slice A3 x.preds.length c3,.slice A4 x.classes.length c4,.slice A5 x.sources.length c5,.slice A6 x.rules.length c6,.slice A7 x.excepts.length c7,.slice A8 x.totals.length c8]] w fun e w' => ∃ y,e = .returned y ∧ sttR w.heap.size x y w' ∧ Below w.heap.size w w' := by
 obtain ⟨X,b,c,hX,hb,hc,h0⟩ := Cp.mk0 w 32 #[.string x.title,.slice A1 x.kinds.length c1,.slice A2 x.members.length c2,.slice A3 x.preds.length c3,.slice A4 x.classes.length c4,.slice A5 x.sources.length c5,.slice A6 x.rules.length c6,.slice A7 x.excepts.length c7,.slice A8 x.totals.length c8] #[.string ⟨#[]⟩,.slice none 0 0,.slice none 0 0,.slice none 0 0,.slice none 0 0,.slice none 0 0,.slice none 0 0,.slice none 0 0,.slice none 0 0]
 have L0 := Lib.hid h0
 have G1 := Lib.hid g1
 have G2 := Lib.hid g2
 have G3 := Lib.hid g3
 have G4 := Lib.hid g4
 have G5 := Lib.hid g5
 have G6 := Lib.hid g6
 have G7 := Lib.hid g7
 have G8 := Lib.hid g8
 have HSM := Lib.hid hs
 have HMM := Lib.hid hm
 have HN := Lib.hid hb
 have HM := Lib.hid hc
 clear g1 g2 g3 g4 g5 g6 g7 g8 hs hm hb hc h0
 go_enter Tryz.func15,Tryz.ntmps15
 go_upto_region 1 with fail
 try rw [hX]
 try rw [HM.out]
 try rw [HN.out]
 clear hX
 have HC := Lib.hid (copy_strings x.kinds A1 c1 X (Kd.C_below G1.out L0.out.hb) (HSM.out.1))
 have y0 := blk_cell (v := .slice A1 x.kinds.length c1) L0.out.h0 1 rfl
 go_upto_region 2 with (first | (go_at_call 29;((with_reducible refine HC.out.mono ?_);rintro e w1 ⟨v,rfl,r,hb⟩;obtain ⟨B1,d1,rfl⟩ := Kd.R_slice r;have K := Lib.hid (L0.out.call hb);have R1 := Lib.hid (L0.out.newB r);have z0 := blk_cell (v := .slice A1 x.kinds.length c1) K.out.h0 1 rfl;have f0 := blk_free K.out.h0 1;have HZ1 := Lib.hid hb.size;clear r hb)))
 have R1 := Lib.hid (K.out.r0 R1.out (fun _ h => h.1) 1 (.slice B1 x.kinds.length d1))
 have L1 := Lib.hid (Cp.st0 (us := #[.string x.title,.slice B1 x.kinds.length d1,.slice A2 x.members.length c2,.slice A3 x.preds.length c3,.slice A4 x.classes.length c4,.slice A5 x.sources.length c5,.slice A6 x.rules.length c6,.slice A7 x.excepts.length c7,.slice A8 x.totals.length c8]) K.out 1 (.slice B1 x.kinds.length d1) rfl)
 obtain ⟨Y1,hY⟩ : ∃ Y,w1.setCell ⟨b,1,none⟩ (.slice B1 x.kinds.length d1) = Y := ⟨_,rfl⟩
 have hz : Y1.heap.size = w1.heap.size := by rw [← hY];exact World.size_setCell _ _ _
 try rw [hY]
 rw [hY] at L1 R1
 rw [← hz] at HZ1 R1
 clear hY hz K HC y0 z0 f0 L0
 have HC := Lib.hid (copy_members x.members A2 c2 Y1 (Kd.C_below G2.out L1.out.hb) (HSM.out.2.1))
 have y0 := blk_cell (v := .slice A2 x.members.length c2) L1.out.h0 2 rfl
 go_upto_region 3 with (first | (go_at_call 30;((with_reducible refine HC.out.mono ?_);rintro e w2 ⟨v,rfl,r,hb⟩;obtain ⟨B2,d2,rfl⟩ := Kd.R_slice r;have K := Lib.hid (L1.out.call hb);have R2 := Lib.hid (L1.out.newB r);have R1 := Lib.hid (Kd.R_below R1.out hb);have z0 := blk_cell (v := .slice A2 x.members.length c2) K.out.h0 2 rfl;have f0 := blk_free K.out.h0 2;have HZ2 := Lib.hid hb.size;clear r hb)))
 have R1 := Lib.hid (K.out.r0 R1.out (fun _ h => h.1) 2 (.slice B2 x.members.length d2))
 have R2 := Lib.hid (K.out.r0 R2.out (fun _ h => h.1) 2 (.slice B2 x.members.length d2))
 have L2 := Lib.hid (Cp.st0 (us := #[.string x.title,.slice B1 x.kinds.length d1,.slice B2 x.members.length d2,.slice A3 x.preds.length c3,.slice A4 x.classes.length c4,.slice A5 x.sources.length c5,.slice A6 x.rules.length c6,.slice A7 x.excepts.length c7,.slice A8 x.totals.length c8]) K.out 2 (.slice B2 x.members.length d2) rfl)
 obtain ⟨Y2,hY⟩ : ∃ Y,w2.setCell ⟨b,2,none⟩ (.slice B2 x.members.length d2) = Y := ⟨_,rfl⟩
 have hz : Y2.heap.size = w2.heap.size := by rw [← hY];exact World.size_setCell _ _ _
 try rw [hY]
 rw [hY] at L2 R1 R2
 rw [← hz] at HZ2 R2
 clear hY hz K HC y0 z0 f0 L1
 have HC := Lib.hid (copy_preds x.preds A3 c3 Y2 (Kd.C_below G3.out L2.out.hb) (HSM.out.2.2.1.1) (HSM.out.2.2.1.2))
 have y0 := blk_cell (v := .slice A3 x.preds.length c3) L2.out.h0 3 rfl
 go_upto_region 4 with (first | (go_at_call 31;((with_reducible refine HC.out.mono ?_);rintro e w3 ⟨v,rfl,r,hb⟩;obtain ⟨B3,d3,rfl⟩ := Kd.R_slice r;have K := Lib.hid (L2.out.call hb);have R3 := Lib.hid (L2.out.newB r);have R1 := Lib.hid (Kd.R_below R1.out hb);have R2 := Lib.hid (Kd.R_below R2.out hb);have z0 := blk_cell (v := .slice A3 x.preds.length c3) K.out.h0 3 rfl;have f0 := blk_free K.out.h0 3;have HZ3 := Lib.hid hb.size;clear r hb)))
 have R1 := Lib.hid (K.out.r0 R1.out (fun _ h => h.1) 3 (.slice B3 x.preds.length d3))
 have R2 := Lib.hid (K.out.r0 R2.out (fun _ h => h.1) 3 (.slice B3 x.preds.length d3))
 have R3 := Lib.hid (K.out.r0 R3.out (fun _ h => h.1) 3 (.slice B3 x.preds.length d3))
 have L3 := Lib.hid (Cp.st0 (us := #[.string x.title,.slice B1 x.kinds.length d1,.slice B2 x.members.length d2,.slice B3 x.preds.length d3,.slice A4 x.classes.length c4,.slice A5 x.sources.length c5,.slice A6 x.rules.length c6,.slice A7 x.excepts.length c7,.slice A8 x.totals.length c8]) K.out 3 (.slice B3 x.preds.length d3) rfl)
 obtain ⟨Y3,hY⟩ : ∃ Y,w3.setCell ⟨b,3,none⟩ (.slice B3 x.preds.length d3) = Y := ⟨_,rfl⟩
 have hz : Y3.heap.size = w3.heap.size := by rw [← hY];exact World.size_setCell _ _ _
 try rw [hY]
 rw [hY] at L3 R1 R2 R3
 rw [← hz] at HZ3 R3
 clear hY hz K HC y0 z0 f0 L2
 have HC := Lib.hid (copy_classes x.classes A4 c4 Y3 (Kd.C_below G4.out L3.out.hb) (HSM.out.2.2.2.1.1) (HSM.out.2.2.2.1.2))
 have y0 := blk_cell (v := .slice A4 x.classes.length c4) L3.out.h0 4 rfl
 go_upto_region 5 with (first | (go_at_call 32;((with_reducible refine HC.out.mono ?_);rintro e w4 ⟨v,rfl,r,hb⟩;obtain ⟨B4,d4,rfl⟩ := Kd.R_slice r;have K := Lib.hid (L3.out.call hb);have R4 := Lib.hid (L3.out.newB r);have R1 := Lib.hid (Kd.R_below R1.out hb);have R2 := Lib.hid (Kd.R_below R2.out hb);have R3 := Lib.hid (Kd.R_below R3.out hb);have z0 := blk_cell (v := .slice A4 x.classes.length c4) K.out.h0 4 rfl;have f0 := blk_free K.out.h0 4;have HZ4 := Lib.hid hb.size;clear r hb)))
 have R1 := Lib.hid (K.out.r0 R1.out (fun _ h => h.1) 4 (.slice B4 x.classes.length d4))
 have R2 := Lib.hid (K.out.r0 R2.out (fun _ h => h.1) 4 (.slice B4 x.classes.length d4))
 have R3 := Lib.hid (K.out.r0 R3.out (fun _ h => h.1) 4 (.slice B4 x.classes.length d4))
 have R4 := Lib.hid (K.out.r0 R4.out (fun _ h => h.1) 4 (.slice B4 x.classes.length d4))
 have L4 := Lib.hid (Cp.st0 (us := #[.string x.title,.slice B1 x.kinds.length d1,.slice B2 x.members.length d2,.slice B3 x.preds.length d3,.slice B4 x.classes.length d4,.slice A5 x.sources.length c5,.slice A6 x.rules.length c6,.slice A7 x.excepts.length c7,.slice A8 x.totals.length c8]) K.out 4 (.slice B4 x.classes.length d4) rfl)
 obtain ⟨Y4,hY⟩ : ∃ Y,w4.setCell ⟨b,4,none⟩ (.slice B4 x.classes.length d4) = Y := ⟨_,rfl⟩
 have hz : Y4.heap.size = w4.heap.size := by rw [← hY];exact World.size_setCell _ _ _
 try rw [hY]
 rw [hY] at L4 R1 R2 R3 R4
 rw [← hz] at HZ4 R4
 clear hY hz K HC y0 z0 f0 L3
 have HC := Lib.hid (copy_sources x.sources A5 c5 Y4 (Kd.C_below G5.out L4.out.hb) (HSM.out.2.2.2.2.1))
 have y0 := blk_cell (v := .slice A5 x.sources.length c5) L4.out.h0 5 rfl
 go_upto_region 6 with (first | (go_at_call 33;((with_reducible refine HC.out.mono ?_);rintro e w5 ⟨v,rfl,r,hb⟩;obtain ⟨B5,d5,rfl⟩ := Kd.R_slice r;have K := Lib.hid (L4.out.call hb);have R5 := Lib.hid (L4.out.newB r);have R1 := Lib.hid (Kd.R_below R1.out hb);have R2 := Lib.hid (Kd.R_below R2.out hb);have R3 := Lib.hid (Kd.R_below R3.out hb);have R4 := Lib.hid (Kd.R_below R4.out hb);have z0 := blk_cell (v := .slice A5 x.sources.length c5) K.out.h0 5 rfl;have f0 := blk_free K.out.h0 5;have HZ5 := Lib.hid hb.size;clear r hb)))
 have R1 := Lib.hid (K.out.r0 R1.out (fun _ h => h.1) 5 (.slice B5 x.sources.length d5))
 have R2 := Lib.hid (K.out.r0 R2.out (fun _ h => h.1) 5 (.slice B5 x.sources.length d5))
 have R3 := Lib.hid (K.out.r0 R3.out (fun _ h => h.1) 5 (.slice B5 x.sources.length d5))
 have R4 := Lib.hid (K.out.r0 R4.out (fun _ h => h.1) 5 (.slice B5 x.sources.length d5))
 have R5 := Lib.hid (K.out.r0 R5.out (fun _ h => h.1) 5 (.slice B5 x.sources.length d5))
 have L5 := Lib.hid (Cp.st0 (us := #[.string x.title,.slice B1 x.kinds.length d1,.slice B2 x.members.length d2,.slice B3 x.preds.length d3,.slice B4 x.classes.length d4,.slice B5 x.sources.length d5,.slice A6 x.rules.length c6,.slice A7 x.excepts.length c7,.slice A8 x.totals.length c8]) K.out 5 (.slice B5 x.sources.length d5) rfl)
 obtain ⟨Y5,hY⟩ : ∃ Y,w5.setCell ⟨b,5,none⟩ (.slice B5 x.sources.length d5) = Y := ⟨_,rfl⟩
 have hz : Y5.heap.size = w5.heap.size := by rw [← hY];exact World.size_setCell _ _ _
 try rw [hY]
 rw [hY] at L5 R1 R2 R3 R4 R5
 rw [← hz] at HZ5 R5
 clear hY hz K HC y0 z0 f0 L4
 have HC := Lib.hid (copy_rules x.rules A6 c6 Y5 (Kd.C_below G6.out L5.out.hb) (HSM.out.2.2.2.2.2.1.1) (HSM.out.2.2.2.2.2.1.2))
 have y0 := blk_cell (v := .slice A6 x.rules.length c6) L5.out.h0 6 rfl
 go_upto_region 7 with (first | (go_at_call 34;((with_reducible refine HC.out.mono ?_);rintro e w6 ⟨v,rfl,r,hb⟩;obtain ⟨B6,d6,rfl⟩ := Kd.R_slice r;have K := Lib.hid (L5.out.call hb);have R6 := Lib.hid (L5.out.newB r);have R1 := Lib.hid (Kd.R_below R1.out hb);have R2 := Lib.hid (Kd.R_below R2.out hb);have R3 := Lib.hid (Kd.R_below R3.out hb);have R4 := Lib.hid (Kd.R_below R4.out hb);have R5 := Lib.hid (Kd.R_below R5.out hb);have z0 := blk_cell (v := .slice A6 x.rules.length c6) K.out.h0 6 rfl;have f0 := blk_free K.out.h0 6;have HZ6 := Lib.hid hb.size;clear r hb)))
 have R1 := Lib.hid (K.out.r0 R1.out (fun _ h => h.1) 6 (.slice B6 x.rules.length d6))
 have R2 := Lib.hid (K.out.r0 R2.out (fun _ h => h.1) 6 (.slice B6 x.rules.length d6))
 have R3 := Lib.hid (K.out.r0 R3.out (fun _ h => h.1) 6 (.slice B6 x.rules.length d6))
 have R4 := Lib.hid (K.out.r0 R4.out (fun _ h => h.1) 6 (.slice B6 x.rules.length d6))
 have R5 := Lib.hid (K.out.r0 R5.out (fun _ h => h.1) 6 (.slice B6 x.rules.length d6))
 have R6 := Lib.hid (K.out.r0 R6.out (fun _ h => h.1) 6 (.slice B6 x.rules.length d6))
 have L6 := Lib.hid (Cp.st0 (us := #[.string x.title,.slice B1 x.kinds.length d1,.slice B2 x.members.length d2,.slice B3 x.preds.length d3,.slice B4 x.classes.length d4,.slice B5 x.sources.length d5,.slice B6 x.rules.length d6,.slice A7 x.excepts.length c7,.slice A8 x.totals.length c8]) K.out 6 (.slice B6 x.rules.length d6) rfl)
 obtain ⟨Y6,hY⟩ : ∃ Y,w6.setCell ⟨b,6,none⟩ (.slice B6 x.rules.length d6) = Y := ⟨_,rfl⟩
 have hz : Y6.heap.size = w6.heap.size := by rw [← hY];exact World.size_setCell _ _ _
 try rw [hY]
 rw [hY] at L6 R1 R2 R3 R4 R5 R6
 rw [← hz] at HZ6 R6
 clear hY hz K HC y0 z0 f0 L5
 have HC := Lib.hid (copy_excepts x.excepts A7 c7 Y6 (Kd.C_below G7.out L6.out.hb) (HSM.out.2.2.2.2.2.2.1))
 have y0 := blk_cell (v := .slice A7 x.excepts.length c7) L6.out.h0 7 rfl
 go_upto_region 8 with (first | (go_at_call 35;((with_reducible refine HC.out.mono ?_);rintro e w7 ⟨v,rfl,r,hb⟩;obtain ⟨B7,d7,rfl⟩ := Kd.R_slice r;have K := Lib.hid (L6.out.call hb);have R7 := Lib.hid (L6.out.newB r);have R1 := Lib.hid (Kd.R_below R1.out hb);have R2 := Lib.hid (Kd.R_below R2.out hb);have R3 := Lib.hid (Kd.R_below R3.out hb);have R4 := Lib.hid (Kd.R_below R4.out hb);have R5 := Lib.hid (Kd.R_below R5.out hb);have R6 := Lib.hid (Kd.R_below R6.out hb);have z0 := blk_cell (v := .slice A7 x.excepts.length c7) K.out.h0 7 rfl;have f0 := blk_free K.out.h0 7;have HZ7 := Lib.hid hb.size;clear r hb)))
 have R1 := Lib.hid (K.out.r0 R1.out (fun _ h => h.1) 7 (.slice B7 x.excepts.length d7))
 have R2 := Lib.hid (K.out.r0 R2.out (fun _ h => h.1) 7 (.slice B7 x.excepts.length d7))
 have R3 := Lib.hid (K.out.r0 R3.out (fun _ h => h.1) 7 (.slice B7 x.excepts.length d7))
 have R4 := Lib.hid (K.out.r0 R4.out (fun _ h => h.1) 7 (.slice B7 x.excepts.length d7))
 have R5 := Lib.hid (K.out.r0 R5.out (fun _ h => h.1) 7 (.slice B7 x.excepts.length d7))
 have R6 := Lib.hid (K.out.r0 R6.out (fun _ h => h.1) 7 (.slice B7 x.excepts.length d7))
 have R7 := Lib.hid (K.out.r0 R7.out (fun _ h => h.1) 7 (.slice B7 x.excepts.length d7))
 have L7 := Lib.hid (Cp.st0 (us := #[.string x.title,.slice B1 x.kinds.length d1,.slice B2 x.members.length d2,.slice B3 x.preds.length d3,.slice B4 x.classes.length d4,.slice B5 x.sources.length d5,.slice B6 x.rules.length d6,.slice B7 x.excepts.length d7,.slice A8 x.totals.length c8]) K.out 7 (.slice B7 x.excepts.length d7) rfl)
 obtain ⟨Y7,hY⟩ : ∃ Y,w7.setCell ⟨b,7,none⟩ (.slice B7 x.excepts.length d7) = Y := ⟨_,rfl⟩
 have hz : Y7.heap.size = w7.heap.size := by rw [← hY];exact World.size_setCell _ _ _
 try rw [hY]
 rw [hY] at L7 R1 R2 R3 R4 R5 R6 R7
 rw [← hz] at HZ7 R7
 clear hY hz K HC y0 z0 f0 L6
 have HC := Lib.hid (copy_totals x.totals A8 c8 Y7 (Kd.C_below G8.out L7.out.hb) (HSM.out.2.2.2.2.2.2.2.1) (HSM.out.2.2.2.2.2.2.2.2))
 have y0 := blk_cell (v := .slice A8 x.totals.length c8) L7.out.h0 8 rfl
 go_upto_region 9 with (first | (go_at_call 36;((with_reducible refine HC.out.mono ?_);rintro e w8 ⟨v,rfl,r,hb⟩;obtain ⟨B8,d8,rfl⟩ := Kd.R_slice r;have K := Lib.hid (L7.out.call hb);have R8 := Lib.hid (L7.out.newB r);have R1 := Lib.hid (Kd.R_below R1.out hb);have R2 := Lib.hid (Kd.R_below R2.out hb);have R3 := Lib.hid (Kd.R_below R3.out hb);have R4 := Lib.hid (Kd.R_below R4.out hb);have R5 := Lib.hid (Kd.R_below R5.out hb);have R6 := Lib.hid (Kd.R_below R6.out hb);have R7 := Lib.hid (Kd.R_below R7.out hb);have z0 := blk_cell (v := .slice A8 x.totals.length c8) K.out.h0 8 rfl;have f0 := blk_free K.out.h0 8;have HZ8 := Lib.hid hb.size;clear r hb)))
 have R1 := Lib.hid (K.out.r0 R1.out (fun _ h => h.1) 8 (.slice B8 x.totals.length d8))
 have R2 := Lib.hid (K.out.r0 R2.out (fun _ h => h.1) 8 (.slice B8 x.totals.length d8))
 have R3 := Lib.hid (K.out.r0 R3.out (fun _ h => h.1) 8 (.slice B8 x.totals.length d8))
 have R4 := Lib.hid (K.out.r0 R4.out (fun _ h => h.1) 8 (.slice B8 x.totals.length d8))
 have R5 := Lib.hid (K.out.r0 R5.out (fun _ h => h.1) 8 (.slice B8 x.totals.length d8))
 have R6 := Lib.hid (K.out.r0 R6.out (fun _ h => h.1) 8 (.slice B8 x.totals.length d8))
 have R7 := Lib.hid (K.out.r0 R7.out (fun _ h => h.1) 8 (.slice B8 x.totals.length d8))
 have R8 := Lib.hid (K.out.r0 R8.out (fun _ h => h.1) 8 (.slice B8 x.totals.length d8))
 have L8 := Lib.hid (Cp.st0 (us := #[.string x.title,.slice B1 x.kinds.length d1,.slice B2 x.members.length d2,.slice B3 x.preds.length d3,.slice B4 x.classes.length d4,.slice B5 x.sources.length d5,.slice B6 x.rules.length d6,.slice B7 x.excepts.length d7,.slice B8 x.totals.length d8]) K.out 8 (.slice B8 x.totals.length d8) rfl)
 obtain ⟨Y8,hY⟩ : ∃ Y,w8.setCell ⟨b,8,none⟩ (.slice B8 x.totals.length d8) = Y := ⟨_,rfl⟩
 have hz : Y8.heap.size = w8.heap.size := by rw [← hY];exact World.size_setCell _ _ _
 try rw [hY]
 rw [hY] at L8 R1 R2 R3 R4 R5 R6 R7 R8
 rw [← hz] at HZ8 R8
 clear hY hz K HC y0 z0 f0 L7
 have y0 := blk_cell (v := .string x.title) L8.out.h0 0 rfl
 have u0 := blk_cell (v := .string ⟨#[]⟩) L8.out.h1 0 rfl
 have f0 := blk_free L8.out.h1 0
 have y1 := blk_cell (v := .slice B1 x.kinds.length d1) L8.out.h0 1 rfl
 have u1 := blk_cell (v := .slice none 0 0) L8.out.h1 1 rfl
 have f1 := blk_free L8.out.h1 1
 have y2 := blk_cell (v := .slice B2 x.members.length d2) L8.out.h0 2 rfl
 have u2 := blk_cell (v := .slice none 0 0) L8.out.h1 2 rfl
 have f2 := blk_free L8.out.h1 2
 have y3 := blk_cell (v := .slice B3 x.preds.length d3) L8.out.h0 3 rfl
 have u3 := blk_cell (v := .slice none 0 0) L8.out.h1 3 rfl
 have f3 := blk_free L8.out.h1 3
 have y4 := blk_cell (v := .slice B4 x.classes.length d4) L8.out.h0 4 rfl
 have u4 := blk_cell (v := .slice none 0 0) L8.out.h1 4 rfl
 have f4 := blk_free L8.out.h1 4
 have y5 := blk_cell (v := .slice B5 x.sources.length d5) L8.out.h0 5 rfl
 have u5 := blk_cell (v := .slice none 0 0) L8.out.h1 5 rfl
 have f5 := blk_free L8.out.h1 5
 have y6 := blk_cell (v := .slice B6 x.rules.length d6) L8.out.h0 6 rfl
 have u6 := blk_cell (v := .slice none 0 0) L8.out.h1 6 rfl
 have f6 := blk_free L8.out.h1 6
 have y7 := blk_cell (v := .slice B7 x.excepts.length d7) L8.out.h0 7 rfl
 have u7 := blk_cell (v := .slice none 0 0) L8.out.h1 7 rfl
 have f7 := blk_free L8.out.h1 7
 have y8 := blk_cell (v := .slice B8 x.totals.length d8) L8.out.h0 8 rfl
 have u8 := blk_cell (v := .slice none 0 0) L8.out.h1 8 rfl
 have f8 := blk_free L8.out.h1 8
 go_wp2_with fail
 have HE := Lib.hid (Cp.st1 (us := #[.string x.title,.slice B1 x.kinds.length d1,.slice B2 x.members.length d2,.slice B3 x.preds.length d3,.slice B4 x.classes.length d4,.slice B5 x.sources.length d5,.slice B6 x.rules.length d6,.slice B7 x.excepts.length d7,.slice B8 x.totals.length d8]) (Cp.st1 (us := #[.string x.title,.slice B1 x.kinds.length d1,.slice B2 x.members.length d2,.slice B3 x.preds.length d3,.slice B4 x.classes.length d4,.slice B5 x.sources.length d5,.slice B6 x.rules.length d6,.slice B7 x.excepts.length d7,.slice none 0 0]) (Cp.st1 (us := #[.string x.title,.slice B1 x.kinds.length d1,.slice B2 x.members.length d2,.slice B3 x.preds.length d3,.slice B4 x.classes.length d4,.slice B5 x.sources.length d5,.slice B6 x.rules.length d6,.slice none 0 0,.slice none 0 0]) (Cp.st1 (us := #[.string x.title,.slice B1 x.kinds.length d1,.slice B2 x.members.length d2,.slice B3 x.preds.length d3,.slice B4 x.classes.length d4,.slice B5 x.sources.length d5,.slice none 0 0,.slice none 0 0,.slice none 0 0]) (Cp.st1 (us := #[.string x.title,.slice B1 x.kinds.length d1,.slice B2 x.members.length d2,.slice B3 x.preds.length d3,.slice B4 x.classes.length d4,.slice none 0 0,.slice none 0 0,.slice none 0 0,.slice none 0 0]) (Cp.st1 (us := #[.string x.title,.slice B1 x.kinds.length d1,.slice B2 x.members.length d2,.slice B3 x.preds.length d3,.slice none 0 0,.slice none 0 0,.slice none 0 0,.slice none 0 0,.slice none 0 0]) (Cp.st1 (us := #[.string x.title,.slice B1 x.kinds.length d1,.slice B2 x.members.length d2,.slice none 0 0,.slice none 0 0,.slice none 0 0,.slice none 0 0,.slice none 0 0,.slice none 0 0]) (Cp.st1 (us := #[.string x.title,.slice B1 x.kinds.length d1,.slice none 0 0,.slice none 0 0,.slice none 0 0,.slice none 0 0,.slice none 0 0,.slice none 0 0,.slice none 0 0]) (Cp.st1 (us := #[.string x.title,.slice none 0 0,.slice none 0 0,.slice none 0 0,.slice none 0 0,.slice none 0 0,.slice none 0 0,.slice none 0 0,.slice none 0 0]) L8.out 0 (.string x.title) rfl) 1 (.slice B1 x.kinds.length d1) rfl) 2 (.slice B2 x.members.length d2) rfl) 3 (.slice B3 x.preds.length d3) rfl) 4 (.slice B4 x.classes.length d4) rfl) 5 (.slice B5 x.sources.length d5) rfl) 6 (.slice B6 x.rules.length d6) rfl) 7 (.slice B7 x.excepts.length d7) rfl) 8 (.slice B8 x.totals.length d8) rfl)
 refine bodyPost_ret (results_cell_row rfl _ _ c 32 #[.string x.title,.slice B1 x.kinds.length d1,.slice B2 x.members.length d2,.slice B3 x.preds.length d3,.slice B4 x.classes.length d4,.slice B5 x.sources.length d5,.slice B6 x.rules.length d6,.slice B7 x.excepts.length d7,.slice B8 x.totals.length d8] (0,0) _ rfl HE.out.h1 Tryz.underlying32 rfl rfl) rfl ?_
 have hz1 := HZ1.out
 have hz2 := HZ2.out
 have hz3 := HZ3.out
 have hz4 := HZ4.out
 have hz5 := HZ5.out
 have hz6 := HZ6.out
 have hz7 := HZ7.out
 have hz8 := HZ8.out
 have hn := HN.out
 have hm := HM.out
 refine ⟨_,rfl,⟨own8 Y1.heap.size Y2.heap.size Y3.heap.size Y4.heap.size Y5.heap.size Y6.heap.size Y7.heap.size,⟨.slice B1 x.kinds.length d1,.slice B2 x.members.length d2,.slice B3 x.preds.length d3,.slice B4 x.classes.length d4,.slice B5 x.sources.length d5,.slice B6 x.rules.length d6,.slice B7 x.excepts.length d7,.slice B8 x.totals.length d8⟩,rfl,HMM.out,?_,?_,?_,?_,?_,?_,?_,?_⟩,HE.out.hb⟩
 ·exact Kd.R_lower (Kd.R_mono (Cp.r1 (Cp.r1 (Cp.r1 (Cp.r1 (Cp.r1 (Cp.r1 (Cp.r1 (Cp.r1 (Cp.r1 R1.out (fun _ h => h.1) 0 _) (fun _ h => h.1) 1 _) (fun _ h => h.1) 2 _) (fun _ h => h.1) 3 _) (fun _ h => h.1) 4 _) (fun _ h => h.1) 5 _) (fun _ h => h.1) 6 _) (fun _ h => h.1) 7 _) (fun _ h => h.1) 8 _) (fun k hk => ⟨by omega,by unfold own8;rw [if_pos (by omega)]⟩)) (by omega)
 ·exact Kd.R_lower (Kd.R_mono (Cp.r1 (Cp.r1 (Cp.r1 (Cp.r1 (Cp.r1 (Cp.r1 (Cp.r1 (Cp.r1 (Cp.r1 R2.out (fun _ h => h.1) 0 _) (fun _ h => h.1) 1 _) (fun _ h => h.1) 2 _) (fun _ h => h.1) 3 _) (fun _ h => h.1) 4 _) (fun _ h => h.1) 5 _) (fun _ h => h.1) 6 _) (fun _ h => h.1) 7 _) (fun _ h => h.1) 8 _) (fun k hk => ⟨by omega,by unfold own8;rw [if_neg (by omega),if_pos (by omega)]⟩)) (by omega)
 ·exact Kd.R_lower (Kd.R_mono (Cp.r1 (Cp.r1 (Cp.r1 (Cp.r1 (Cp.r1 (Cp.r1 (Cp.r1 (Cp.r1 (Cp.r1 R3.out (fun _ h => h.1) 0 _) (fun _ h => h.1) 1 _) (fun _ h => h.1) 2 _) (fun _ h => h.1) 3 _) (fun _ h => h.1) 4 _) (fun _ h => h.1) 5 _) (fun _ h => h.1) 6 _) (fun _ h => h.1) 7 _) (fun _ h => h.1) 8 _) (fun k hk => ⟨by omega,by unfold own8;rw [if_neg (by omega),if_neg (by omega),if_pos (by omega)]⟩)) (by omega)
 ·exact Kd.R_lower (Kd.R_mono (Cp.r1 (Cp.r1 (Cp.r1 (Cp.r1 (Cp.r1 (Cp.r1 (Cp.r1 (Cp.r1 (Cp.r1 R4.out (fun _ h => h.1) 0 _) (fun _ h => h.1) 1 _) (fun _ h => h.1) 2 _) (fun _ h => h.1) 3 _) (fun _ h => h.1) 4 _) (fun _ h => h.1) 5 _) (fun _ h => h.1) 6 _) (fun _ h => h.1) 7 _) (fun _ h => h.1) 8 _) (fun k hk => ⟨by omega,by unfold own8;rw [if_neg (by omega),if_neg (by omega),if_neg (by omega),if_pos (by omega)]⟩)) (by omega)
 ·exact Kd.R_lower (Kd.R_mono (Cp.r1 (Cp.r1 (Cp.r1 (Cp.r1 (Cp.r1 (Cp.r1 (Cp.r1 (Cp.r1 (Cp.r1 R5.out (fun _ h => h.1) 0 _) (fun _ h => h.1) 1 _) (fun _ h => h.1) 2 _) (fun _ h => h.1) 3 _) (fun _ h => h.1) 4 _) (fun _ h => h.1) 5 _) (fun _ h => h.1) 6 _) (fun _ h => h.1) 7 _) (fun _ h => h.1) 8 _) (fun k hk => ⟨by omega,by unfold own8;rw [if_neg (by omega),if_neg (by omega),if_neg (by omega),if_neg (by omega),if_pos (by omega)]⟩)) (by omega)
 ·exact Kd.R_lower (Kd.R_mono (Cp.r1 (Cp.r1 (Cp.r1 (Cp.r1 (Cp.r1 (Cp.r1 (Cp.r1 (Cp.r1 (Cp.r1 R6.out (fun _ h => h.1) 0 _) (fun _ h => h.1) 1 _) (fun _ h => h.1) 2 _) (fun _ h => h.1) 3 _) (fun _ h => h.1) 4 _) (fun _ h => h.1) 5 _) (fun _ h => h.1) 6 _) (fun _ h => h.1) 7 _) (fun _ h => h.1) 8 _) (fun k hk => ⟨by omega,by unfold own8;rw [if_neg (by omega),if_neg (by omega),if_neg (by omega),if_neg (by omega),if_neg (by omega),if_pos (by omega)]⟩)) (by omega)
 ·exact Kd.R_lower (Kd.R_mono (Cp.r1 (Cp.r1 (Cp.r1 (Cp.r1 (Cp.r1 (Cp.r1 (Cp.r1 (Cp.r1 (Cp.r1 R7.out (fun _ h => h.1) 0 _) (fun _ h => h.1) 1 _) (fun _ h => h.1) 2 _) (fun _ h => h.1) 3 _) (fun _ h => h.1) 4 _) (fun _ h => h.1) 5 _) (fun _ h => h.1) 6 _) (fun _ h => h.1) 7 _) (fun _ h => h.1) 8 _) (fun k hk => ⟨by omega,by unfold own8;rw [if_neg (by omega),if_neg (by omega),if_neg (by omega),if_neg (by omega),if_neg (by omega),if_neg (by omega),if_pos (by omega)]⟩)) (by omega)
 ·exact Kd.R_lower (Kd.R_mono (Cp.r1 (Cp.r1 (Cp.r1 (Cp.r1 (Cp.r1 (Cp.r1 (Cp.r1 (Cp.r1 (Cp.r1 R8.out (fun _ h => h.1) 0 _) (fun _ h => h.1) 1 _) (fun _ h => h.1) 2 _) (fun _ h => h.1) 3 _) (fun _ h => h.1) 4 _) (fun _ h => h.1) 5 _) (fun _ h => h.1) 6 _) (fun _ h => h.1) 7 _) (fun _ h => h.1) 8 _) (fun k hk => ⟨by omega,by unfold own8;rw [if_neg (by omega),if_neg (by omega),if_neg (by omega),if_neg (by omega),if_neg (by omega),if_neg (by omega),if_neg (by omega)]⟩)) (by omega)
namespace Sx.Mk
def Row (base t sz : Nat) (S : List (Nat × (World → Value → Prop))) (w : World) (v : Value) : Prop :=
 ∃ A n c,v = .slice A n c ∧ n ≤ 4294967296 ∧ (n = 0 ∨ ∃ g cs,A = some ⟨g,0,none⟩ ∧ base ≤ g ∧ w.heap[g]? = some (.cells cs t (0,0)) ∧ n * sz ≤ cs.size ∧ (∀ j,j < n * sz → ∀ u,cs[j]? = some u → u.oneCell' = true) ∧ ∀ k,k < n → ∀ p ∈ S,∃ u,cs[k * sz + p.1]? = some u ∧ p.2 w u)
section
variable {base t sz : Nat} {S : List (Nat × (World → Value → Prop))} {w w1 : World} {v : Value}
theorem Row.nil : Row base t sz S w (.slice none 0 0) := ⟨none,0,0,rfl,Nat.zero_le _,.inl rfl⟩
theorem Row.below (h : Row base t sz S w v) (hb : Below w.heap.size w w1) (hi : ∀ p ∈ S,∀ x,p.2 w x → p.2 w1 x) : Row base t sz S w1 v := by
 obtain ⟨A,n,c,rfl,hn,h⟩ := h
 refine ⟨A,n,c,rfl,hn,h.imp_right ?_⟩
 rintro ⟨g,cs,rfl,h1,h2,h3,ho,h4⟩
 refine ⟨g,cs,rfl,h1,(hb.block g (blk_lt h2)).trans h2,h3,ho,fun k hk p hp => ?_⟩
 obtain ⟨u,hu,hq⟩ := h4 k hk p hp
 exact ⟨u,hu,hi p hp u hq⟩
theorem Row.store (h : Row base t sz S w v) {g j t' : Nat} {cs' : Array Value} (u : Value) (hu : u.oneCell' = true) (hb : w.heap[g]? = some (.cells cs' t' (0,0))) (hs : ∀ p ∈ S,p.1 < sz) (hi : ∀ p ∈ S,∀ x,p.2 w x → p.2 (w.setCell ⟨g,j,none⟩ u) x)
  (hj : t = t' → ∀ p ∈ S,j % sz = p.1 → p.2 (w.setCell ⟨g,j,none⟩ u) u) : Row base t sz S (w.setCell ⟨g,j,none⟩ u) v := by
 obtain ⟨A,n,c,rfl,hn,h⟩ := h
 refine ⟨A,n,c,rfl,hn,h.imp_right ?_⟩
 rintro ⟨g2,cs,rfl,h1,h2,h3,ho,h4⟩
 by_cases e : g2 = g
 ·subst e
  rw [h2] at hb
  injection hb with hb
  injection hb with hb1 hb2
  subst hb1
  subst hb2
  refine ⟨g2,cs.setIfInBounds j u,rfl,h1,heap_setCell_same h2 j u,by rw [Array.size_setIfInBounds];exact h3,fun i hi x hx => ?_,fun k hk p hp => ?_⟩
  ·rw [Array.getElem?_setIfInBounds] at hx
   split at hx
   ·split at hx
    ·injection hx with hx;rw [← hx];exact hu
    ·cases hx
   ·exact ho i hi x hx
  have hsz : k * sz + p.1 < cs.size := by
   have e1 : (k + 1) * sz ≤ n * sz := Nat.mul_le_mul_right _ hk
   rw [Nat.succ_mul] at e1
   have e2 := hs p hp
   omega
  rw [Array.getElem?_setIfInBounds]
  by_cases e : j = k * sz + p.1
  ·rw [if_pos e,if_pos (by omega)]
   refine ⟨u,rfl,hj rfl p hp ?_⟩
   rw [e,Nat.mul_comm,Nat.mul_add_mod,Nat.mod_eq_of_lt (hs p hp)]
  ·rw [if_neg e]
   obtain ⟨x,hx,hq⟩ := h4 k hk p hp
   exact ⟨x,hx,hi p hp x hq⟩
 ·refine ⟨g2,cs,rfl,h1,(Below.heap_setCell w _ u g2 e).trans h2,h3,ho,fun k hk p hp => ?_⟩
  obtain ⟨x,hx,hq⟩ := h4 k hk p hp
  exact ⟨x,hx,hi p hp x hq⟩
theorem Row.open_ (h : Row base t sz S w v) : ∃ A n c,v = .slice A n c ∧ n ≤ 4294967296 := by
 obtain ⟨A,n,c,h1,h2,_⟩ := h
 exact ⟨A,n,c,h1,h2⟩
theorem Row.at_ {A : Option Addr} {n c : Nat} (h : Row base t sz S w (.slice A n c)) {i : Nat} (hi : i < n) :
  ∃ a g cs,A = some a ∧ a = ⟨g,0,none⟩ ∧ base ≤ g ∧ w.heap[g]? = some (.cells cs t (0,0)) ∧ (i + 1) * sz ≤ cs.size ∧ (∀ j,j < (i + 1) * sz → ∀ u,cs[j]? = some u → u.oneCell' = true) ∧ ∀ p ∈ S,∃ u,cs[i * sz + p.1]? = some u ∧ p.2 w u := by
 obtain ⟨A',n',c',e,hn,h⟩ := h
 injection e with e1 e2 e3
 subst e1
 subst e2
 rcases h with rfl | ⟨g,cs,e,h1,h2,h3,ho,h4⟩
 ·omega
 ·exact ⟨_,g,cs,e,rfl,h1,h2,Nat.le_trans (Nat.mul_le_mul_right _ hi) h3,fun j hj => ho j (Nat.lt_of_lt_of_le hj (Nat.mul_le_mul_right _ hi)),fun p hp => h4 i hi p hp⟩
end
theorem add0 (g i : Nat) : (⟨g,0,none⟩ : Addr).add i = ⟨g,i,none⟩ := by unfold Addr.add;split <;> simp_all
theorem ex_cell {cs : Array Value} {n j : Nat} (hn : n ≤ cs.size) (hj : j < n) : ∃ u,cs[j]? = some u := ⟨cs[j]'(by omega),Array.getElem?_eq_getElem _⟩
variable (base : Nat)
def R1 (t sz : Nat) : World → Value → Prop := Row base t sz []
def RP : World → Value → Prop := Row base 85 4 [(2,R1 base 9 1),(3,R1 base 86 1)]
def RC : World → Value → Prop := Row base 23 1 [(0,R1 base 9 1)]
def RQ : World → Value → Prop := Row base 100 11 [(3,R1 base 9 1),(6,R1 base 102 4)]
def RR : World → Value → Prop := Row base 93 11 [(4,RQ base)]
def RT : World → Value → Prop := Row base 104 5 [(2,R1 base 9 1)]
def hits (t j : Nat) : Prop := (t = 85 ∧ (j % 4 = 2 ∨ j % 4 = 3)) ∨ t = 23 ∨ (t = 100 ∧ (j % 11 = 3 ∨ j % 11 = 6)) ∨ (t = 93 ∧ j % 11 = 4) ∨ (t = 104 ∧ j % 5 = 2)
structure St (b : Nat) (t0 : ByteArray) (v1 v2 v3 v4 v5 v6 v7 v8 : Value) (w : World) : Prop where
 bx : w.heap[b]? = some (.cells #[.string t0,v1,v2,v3,v4,v5,v6,v7,v8] 32 (0,0))
 r1 : R1 base 9 1 w v1
 r2 : R1 base 54 2 w v2
 r3 : RP base w v3
 r4 : RC base w v4
 r6 : RR base w v6
 r8 : RT base w v8
theorem all1 {α : Type} {P : α → Prop} {a : α} (h : P a) : ∀ p ∈ [a],P p := fun p hp => by rw [List.mem_singleton.1 hp];exact h
theorem all2 {α : Type} {P : α → Prop} {a b : α} (h : P a) (k : P b) : ∀ p ∈ [a,b],P p := fun p hp => by
 rcases List.mem_cons.1 hp with rfl | hp
 ·exact h
 ·exact all1 k p hp
section
variable {base} {w w1 : World} {v : Value} {g j t' : Nat} {cs' : Array Value} {u : Value}
theorem R1.store {t sz : Nat} (h : R1 base t sz w v) (hu : u.oneCell' = true) (hb : w.heap[g]? = some (.cells cs' t' (0,0))) : R1 base t sz (w.setCell ⟨g,j,none⟩ u) v :=
 Row.store h u hu hb (fun _ h => by cases h) (fun _ h => by cases h) (fun _ _ h => by cases h)
theorem R1.below {t sz : Nat} (h : R1 base t sz w v) (hb : Below w.heap.size w w1) : R1 base t sz w1 v := Row.below h hb (fun _ h => by cases h)
theorem RQ.store (h : RQ base w v) (hu : u.oneCell' = true) (hb : w.heap[g]? = some (.cells cs' t' (0,0))) (hz : hits t' j → u = .slice none 0 0) : RQ base (w.setCell ⟨g,j,none⟩ u) v := by
 refine Row.store h u hu hb (all2 (show (3 : Nat) < 11 by decide) (show (6 : Nat) < 11 by decide)) (all2 (fun x hx => R1.store hx hu hb) (fun x hx => R1.store hx hu hb)) fun e => all2 (fun hj => ?_) (fun hj => ?_) <;> (rw [hz (.inr (.inr (.inl ⟨e.symm,by omega⟩)))];exact Row.nil)
theorem RQ.below (h : RQ base w v) (hb : Below w.heap.size w w1) : RQ base w1 v := Row.below h hb (all2 (fun x hx => R1.below hx hb) (fun x hx => R1.below hx hb))
variable {b : Nat} {t0 : ByteArray} {v1 v2 v3 v4 v5 v6 v7 v8 : Value}
theorem St.store (h : St base b t0 v1 v2 v3 v4 v5 v6 v7 v8 w) (hu : u.oneCell' = true) (hb : w.heap[g]? = some (.cells cs' t' (0,0))) (ht : t' ≠ 32) (hz : hits t' j → u = .slice none 0 0) : St base b t0 v1 v2 v3 v4 v5 v6 v7 v8 (w.setCell ⟨g,j,none⟩ u) := by
 refine ⟨(Below.heap_setCell w _ u b ?_).trans h.bx,R1.store h.r1 hu hb,R1.store h.r2 hu hb,
  Row.store h.r3 u hu hb (all2 (show (2 : Nat) < 4 by decide) (show (3 : Nat) < 4 by decide)) (all2 (fun x hx => R1.store hx hu hb) (fun x hx => R1.store hx hu hb)) fun e => all2 (fun hj => ?_) (fun hj => ?_),
  Row.store h.r4 u hu hb (all1 (show (0 : Nat) < 1 by decide)) (all1 (fun x hx => R1.store hx hu hb)) fun e => all1 (fun hj => ?_),
  Row.store h.r6 u hu hb (all1 (show (4 : Nat) < 11 by decide)) (all1 (fun x hx => RQ.store hx hu hb hz)) fun e => all1 (fun hj => ?_),
  Row.store h.r8 u hu hb (all1 (show (2 : Nat) < 5 by decide)) (all1 (fun x hx => R1.store hx hu hb)) fun e => all1 (fun hj => ?_)⟩
 ·intro e
  have e2 : b = g := e
  have hx := h.bx
  rw [e2,hb] at hx
  injection hx with hx
  injection hx with _ hx
  exact ht hx
 ·rw [hz (.inl ⟨e.symm,by omega⟩)];exact Row.nil
 ·rw [hz (.inl ⟨e.symm,by omega⟩)];exact Row.nil
 ·rw [hz (.inr (.inl e.symm))];exact Row.nil
 ·rw [hz (.inr (.inr (.inr (.inl ⟨e.symm,by omega⟩))))];exact Row.nil
 ·rw [hz (.inr (.inr (.inr (.inr ⟨e.symm,by omega⟩))))];exact Row.nil
theorem St.below (h : St base b t0 v1 v2 v3 v4 v5 v6 v7 v8 w) (hb : Below w.heap.size w w1) : St base b t0 v1 v2 v3 v4 v5 v6 v7 v8 w1 :=
 ⟨(hb.block b (blk_lt h.bx)).trans h.bx,R1.below h.r1 hb,R1.below h.r2 hb,Row.below h.r3 hb (all2 (fun x hx => R1.below hx hb) (fun x hx => R1.below hx hb)),Row.below h.r4 hb (all1 (fun x hx => R1.below hx hb)),Row.below h.r6 hb (all1 (fun x hx => RQ.below hx hb)),Row.below h.r8 hb (all1 (fun x hx => R1.below hx hb))⟩
end
def Cl (ex : List Nat) (base : Nat) (P : World → Prop) : Prop := ∀ wr g j t cs u,u.oneCell' = true → P wr → base ≤ g → wr.heap[g]? = some (.cells cs t (0,0)) → t ∉ ex → (hits t j → u = .slice none 0 0) → P (wr.setCell ⟨g,j,none⟩ u)
def Cb (P : World → Prop) : Prop := ∀ wr w1,P wr → Below wr.heap.size wr w1 → P w1
section
variable {base : Nat} {ex ex' : List Nat} {P Q : World → Prop}
theorem Cl.and (h : Cl ex base P) (k : Cl ex base Q) : Cl ex base (fun w => P w ∧ Q w) := fun wr g j t cs u hu hp hg hh ht hz => ⟨h wr g j t cs u hu hp.1 hg hh ht hz,k wr g j t cs u hu hp.2 hg hh ht hz⟩
theorem Cl.mono (h : Cl ex base P) (hs : ∀ t,t ∉ ex' → t ∉ ex) : Cl ex' base P := fun wr g j t cs u hu hp hg hh ht hz => h wr g j t cs u hu hp hg hh (hs t ht) hz
theorem Cl.blk (g0 t0 : Nat) (cs0 : Array Value) (h0 : t0 ∈ ex) : Cl ex base (fun w => w.heap[g0]? = some (.cells cs0 t0 (0,0))) := fun wr g j t cs u hu hp hg hh ht hz => by
 refine (Below.heap_setCell wr _ u g0 ?_).trans hp
 intro e
 have e2 : g0 = g := e
 rw [e2,hh] at hp
 injection hp with hp
 injection hp with _ hp
 exact ht (hp ▸ h0)
theorem Cl.r1 (t sz : Nat) (v : Value) : Cl ex base (fun w => R1 base t sz w v) := fun wr g j t cs u hu hp hg hh ht hz => R1.store hp hu hh
theorem Cl.rq (v : Value) : Cl ex base (fun w => RQ base w v) := fun wr g j t cs u hu hp hg hh ht hz => RQ.store hp hu hh hz
theorem Cl.below (w0 : World) : Cl ex base (fun w => Below base w0 w) := fun wr g j t cs u hu hp hg hh ht hz => hp.setCell hg u
theorem Cl.st {b : Nat} {t0 : ByteArray} {v1 v2 v3 v4 v5 v6 v7 v8 : Value} (h0 : 32 ∈ ex) : Cl ex base (St base b t0 v1 v2 v3 v4 v5 v6 v7 v8) := fun wr g j t cs u hu hp hg hh ht hz => St.store hp hu hh (fun e => ht (e ▸ h0)) hz
theorem Cb.and (h : Cb P) (k : Cb Q) : Cb (fun w => P w ∧ Q w) := fun wr w1 hp hb => ⟨h wr w1 hp.1 hb,k wr w1 hp.2 hb⟩
theorem Cb.blk (g0 t0 : Nat) (cs0 : Array Value) : Cb (fun w => w.heap[g0]? = some (.cells cs0 t0 (0,0))) := fun wr w1 hp hb => (hb.block g0 (blk_lt hp)).trans hp
theorem Cb.rq (v : Value) : Cb (fun w => RQ base w v) := fun wr w1 hp hb => RQ.below hp hb
theorem Cb.st {b : Nat} {t0 : ByteArray} {v1 v2 v3 v4 v5 v6 v7 v8 : Value} : Cb (St base b t0 v1 v2 v3 v4 v5 v6 v7 v8) := fun wr w1 hp hb => St.below hp hb
theorem Cb.below (w0 : World) (hw : base ≤ w0.heap.size) : Cb (fun w => Below base w0 w) := fun wr w1 hp hb => hp.trans (hb.mono (Nat.le_trans hw hp.size))
structure Wr (P : World → Prop) (ex : List Nat) (base g t : Nat) (wr : World) : Prop where
 p : P wr
 hg : base ≤ g
 ht : t ∉ ex
 hh : ∃ cs,wr.heap[g]? = some (.cells cs t (0,0))
theorem Wr.st {g t : Nat} {wr : World} (h : Wr P ex base g t wr) (c : Cl ex base P) (a : Addr) (j : Nat) (u : Value) (hu : u.oneCell' = true) (ha : a = ⟨g,j,none⟩) (hz : hits t j → u = .slice none 0 0) : Wr P ex base g t (wr.setCell a u) := by
 subst ha
 obtain ⟨cs,hh⟩ := h.hh
 exact ⟨c wr g j t cs u hu h.p h.hg hh h.ht hz,h.hg,h.ht,_,heap_setCell_same hh j u⟩
end
end Sx.Mk
end Go.Proofs.YtcakgennlliejaaGreatDoor
namespace Go.Proofs.YtcakgennlliejaaGreatDoor
open Go.Shelf Go.RowKit Go.Lib
open Go.Proofs.YtcakgennlliejaaGreatDoorW.PrintWords
open Go.Proofs.YtcakgennlliejaaGreatDoor.PSyntaxJoined
set_option linter.unusedVariables false
set_option linter.unusedSimpArgs false
namespace Sx
def Al {α : Type} (P : α → Prop) : Res α → Prop
 | .ok v _ => P v
 | .bad _ _ => True
section
variable {α β : Type} {P : α → Prop} {Q : β → Prop}
theorem Al.bnd {r : Res α} {k : α → Nat → Res β} (h : Al P r) (hk : ∀ v q,P v → Al Q (k v q)) : Al Q (r.bnd k) := by
 cases r with
 | ok v q => exact hk v q h
 | bad e a => trivial
theorem Al.cond {b : Bool} {x y : Res α} (hx : Al P x) (hy : Al P y) : Al P (if b then x else y) := by cases b;exact hy;exact hx
theorem Al.ite {b : Prop} [Decidable b] {x y : Res α} (hx : Al P x) (hy : Al P y) : Al P (if b then x else y) := by
 by_cases c : b
 ·rw [if_pos c];exact hx
 ·rw [if_neg c];exact hy
theorem Al.any (r : Res α) : Al (fun _ => True) r := by cases r <;> trivial
end
section
variable (V : Env)
theorem Al_room (n most : Int) (p : Nat) : Al (fun _ => n < most) (V.room n most p) := by
 unfold Env.room
 by_cases h : most ≤ n
 ·rw [if_pos h];trivial
 ·rw [if_neg h];show n < most;omega
theorem Al_listM {α : Type} {P : α → Prop} {g : Nat → Res α} (hg : ∀ p,Al P (g p)) (N : Nat) : ∀ (n : Nat) (out : List α) (p : Nat),out.length + n ≤ N → (∀ x ∈ out,P x) → Al (fun l => l.length ≤ N ∧ ∀ x ∈ l,P x) (V.listM g n out p)
 | 0,out,p,_,_ => trivial
 | n + 1,out,p,hn,ho => by
  unfold Env.listM
  refine (hg p).bnd fun v q hv => ?_
  have h2 : ∀ x ∈ out ++ [v],P x := fun x hx => by
   rcases List.mem_append.1 hx with hx | hx
   ·exact ho x hx
   ·rw [List.mem_singleton.1 hx];exact hv
  have h3 : (out ++ [v]).length = out.length + 1 := by rw [List.length_append,List.length_singleton]
  exact Al.cond (Al_listM hg N n _ _ (by omega) h2) ⟨by omega,h2⟩
theorem Al_list {α : Type} {P : α → Prop} {g : Nat → Res α} (hg : ∀ p,Al P (g p)) (n most : Int) (p : Nat) (N : Nat) (h : (most - n).toNat ≤ N) : Al (fun l => l.length ≤ N ∧ ∀ x ∈ l,P x) (V.list g n most p) :=
 Al_listM V hg N _ _ _ (by simpa using h) (fun _ h => by cases h)
theorem sm_of {α : Type} {l : List α} {N : Nat} (h : l.length ≤ N) (hN : N ≤ 4294967296) : sm l := Nat.le_trans h hN
theorem Al_brackets (g : Nat → Res ByteArray) (p : Nat) : Al (fun l => sm l) (V.brackets g p) := by
 unfold Env.brackets
 refine Al.cond ?_ (show sm [] from Nat.zero_le _)
 exact (Al_list V (P := fun _ => True) (fun p => Al.any _) 0 4 (p + 1) 4 (by decide)).bnd fun l q hl => (Al.any (V.must 6 ⟨#[41]⟩ q)).bnd fun _ _ _ => sm_of hl.1 (by decide)
theorem Al_literal (p : Nat) : Al smLit (V.literal p) := by
 unfold Env.literal
 refine (Al.any _).bnd fun n q2 _ => (Al_brackets V _ _).bnd fun l q3 hl => Al.cond ?_ hl
 exact (Al.any _).bnd fun m q4 _ => hl
theorem Al_term (sg : Int) (p : Nat) : Al smTerm (V.term sg p) := by
 unfold Env.term
 refine Al.cond ((Al.any _).bnd fun c q _ => (Al.any _).bnd fun n q2 _ => (Al_brackets V _ _).bnd fun l q3 hl => hl) (Al.cond ((Al.any _).bnd fun m q _ => ?_) ((Al.any _).bnd fun n q2 _ => (Al_brackets V _ _).bnd fun l q3 hl => hl))
 exact Nat.zero_le _
theorem Al_sumM : ∀ (n : Nat) (out : List S102) (p : Nat),out.length + n ≤ 8 → (∀ x ∈ out,smTerm x) → Al smTerms (V.sumM n out p)
 | 0,out,p,hn,ho => by
  unfold Env.sumM
  exact Al.cond trivial ⟨sm_of (N := 8) (by omega) (by decide),ho⟩
 | n + 1,out,p,hn,ho => by
  unfold Env.sumM
  have hk : ∀ t q,smTerm t → Al smTerms (V.sumM n (out ++ [t]) q) := fun t q ht => Al_sumM n _ _ (by rw [List.length_append,List.length_singleton];omega) (fun x hx => by
   rcases List.mem_append.1 hx with hx | hx
   ·exact ho x hx
   ·rw [List.mem_singleton.1 hx];exact ht)
  exact Al.cond ((Al_term V _ _).bnd hk) (Al.cond ((Al_term V _ _).bnd hk) ⟨sm_of (N := 8) (by omega) (by decide),ho⟩)
theorem Al_sum (p : Nat) : Al smTerms (V.sum p) := (Al_term V 1 p).bnd fun t q ht => Al_sumM V 7 [t] q (Nat.le_refl 8) (fun x hx => by rw [List.mem_singleton.1 hx];exact ht)
theorem smNoLit : smLit noLit := Nat.zero_le _
theorem smNoGuard : smGuard noGuard := ⟨⟨Nat.zero_le _,fun _ h => by cases h⟩,⟨Nat.zero_le _,fun _ h => by cases h⟩⟩
theorem Al_premise (p : Nat) : Al smPrem (V.premise p) := by
 unfold Env.premise
 refine Al.cond ((Al_sum V _).bnd fun l q hl => (Al.any _).bnd fun o q2 _ => (Al_sum V _).bnd fun r q3 hr => (Al.any _).bnd fun _ q4 _ => ⟨smNoLit,hl,hr⟩) (Al.cond ((Al.any _).bnd fun a q _ => (Al.any _).bnd fun _ q2 _ => (Al.any _).bnd fun b q3 _ => ⟨smNoLit,smNoGuard⟩) ((Al_literal V _).bnd fun l q hl => ⟨hl,smNoGuard⟩))
theorem Al_rule (cal : ByteArray → Int × Int) (p : Nat) : Al smRule (V.rule cal p) := by
 unfold Env.rule
 refine (Al.any _).bnd fun n q1 _ => (Al.any _).bnd fun _ q2 _ => (Al.any _).bnd fun s q3 _ => (Al.any _).bnd fun _ q4 _ => (Al.any _).bnd fun a q5 _ => (Al.any _).bnd fun u q6 _ => (Al.any _).bnd fun _ q7 _ => ?_
 unfold Env.ruleT
 refine Al.bnd (P := fun b => smPrems b) (Al.ite ?_ ⟨Nat.zero_le _,fun _ h => by cases h⟩) fun b q hb => Al.ite trivial ((Al_literal V _).bnd fun h q9 hh => ⟨hb,hh⟩)
 have h := Al_list V (P := smPrem) (fun p => Al_premise V p) 0 16 q7 16 (by decide)
 cases hr : V.list V.premise 0 16 q7 with
 | bad e a => trivial
 | ok v q => rw [hr] at h;exact ⟨sm_of h.1 (by decide),h.2⟩
theorem Al_pred (n : Nat) (sort : Int) (p : Nat) : Al (fun x => smPred x ∧ n < 256) (V.pred n sort p) := by
 unfold Env.pred
 refine (Al_room V _ _ _).bnd fun _ q0 hn => (Al.any _).bnd fun nm q1 _ => (Al_brackets V _ _).bnd fun ks q2 hk => Al.cond ((Al.any _).bnd fun _ q3 _ => (Al_list V (P := fun _ => True) (fun p => Al.any _) 0 64 q3 64 (by decide)).bnd fun vs q4 hv => ⟨⟨hk,sm_of hv.1 (by decide)⟩,by omega⟩) ⟨⟨hk,Nat.zero_le _⟩,by omega⟩
theorem Al_total (p : Nat) : Al smTotal (V.total p) := by
 unfold Env.total
 refine (Al.any _).bnd fun n q1 _ => (Al.any _).bnd fun _ q2 _ => (Al.any _).bnd fun k q3 _ => (Al.any _).bnd fun _ q4 _ => (Al.any _).bnd fun _ q5 _ => (Al_list V (P := fun _ => True) (fun p => Al.any _) 0 16 q5 16 (by decide)).bnd fun l q6 hl => Al.cond ((Al.any _).bnd fun m q7 _ => sm_of hl.1 (by decide)) (sm_of hl.1 (by decide))
end
structure Sh (s : Stt) : Prop where
 n1 : s.kinds.length ≤ 1000
 n2 : s.members.length ≤ 1000
 n3 : s.preds.length ≤ 1000
 n4 : s.classes.length ≤ 1000
 n5 : s.sources.length ≤ 1000
 n6 : s.rules.length ≤ 1000
 n7 : s.excepts.length ≤ 1000
 n8 : s.totals.length ≤ 1000
 a3 : ∀ x ∈ s.preds,smPred x
 a4 : ∀ x ∈ s.classes,sm x
 a6 : ∀ x ∈ s.rules,smRule x
 a8 : ∀ x ∈ s.totals,smTotal x
theorem Sh.sm {s : Stt} (h : Sh s) : smStt s :=
 ⟨sm_of h.n1 (by decide),sm_of h.n2 (by decide),⟨sm_of h.n3 (by decide),h.a3⟩,⟨sm_of h.n4 (by decide),h.a4⟩,sm_of h.n5 (by decide),⟨sm_of h.n6 (by decide),h.a6⟩,sm_of h.n7 (by decide),⟨sm_of h.n8 (by decide),h.a8⟩⟩
theorem Sh.none (t : ByteArray) : Sh ⟨t,[],[],[],[],[],[],[],[]⟩ :=
 ⟨Nat.zero_le _,Nat.zero_le _,Nat.zero_le _,Nat.zero_le _,Nat.zero_le _,Nat.zero_le _,Nat.zero_le _,Nat.zero_le _,fun _ h => (by cases h),fun _ h => (by cases h),fun _ h => (by cases h),fun _ h => (by cases h)⟩
theorem all_one {α : Type} {P : α → Prop} {l : List α} {v : α} (h : ∀ x ∈ l,P x) (hv : P v) : ∀ x ∈ l ++ [v],P x := fun x hx => by
 rcases List.mem_append.1 hx with hx | hx
 ·exact h x hx
 ·rw [List.mem_singleton.1 hx];exact hv
theorem len_one {α : Type} (l : List α) (v : α) {N : Nat} {most : Int} (h : (l.length : Int) < most) (hN : most ≤ N) : (l ++ [v]).length ≤ N := by rw [List.length_append,List.length_singleton];omega
theorem Al_item (V : Env) (cal : ByteArray → Int × Int) (s : Stt) (hs : Sh s) (p : Nat) : Al Sh (V.item cal s p) := by
 unfold Env.item
 refine Al.cond ?_ trivial
 refine Al.cond ((Al_room V _ _ _).bnd fun _ q hn => (Al.any _).bnd fun n q2 _ => { hs with n1 := len_one _ _ hn (by decide) }) ?_
 refine Al.cond ((Al_list V (P := fun _ => True) (fun p => Al.any _) _ 64 _ (64 - (s.members.length : Int)).toNat (Nat.le_refl _)).bnd fun l q hl => (Al.any _).bnd fun _ q2 _ => (Al.any _).bnd fun k q3 _ => { hs with n2 := by rw [List.length_append,List.length_map];have h1 := hl.1;have h2 := hs.n2;omega }) ?_
 refine Al.cond ((Al_pred V _ _ _).bnd fun x q hx => { hs with n3 := len_one _ _ (most := 256) (by have := hx.2;omega) (by decide),a3 := all_one hs.a3 hx.1 }) ?_
 refine Al.cond ((Al_pred V _ _ _).bnd fun x q hx => { hs with n3 := len_one _ _ (most := 256) (by have := hx.2;omega) (by decide),a3 := all_one hs.a3 hx.1 }) ?_
 refine Al.cond ((Al_pred V _ _ _).bnd fun x q hx => { hs with n3 := len_one _ _ (most := 256) (by have := hx.2;omega) (by decide),a3 := all_one hs.a3 hx.1 }) ?_
 refine Al.cond ((Al_room V _ _ _).bnd fun _ q hn => (Al.any _).bnd fun f q2 _ => (Al.any _).bnd fun _ q3 _ => (Al_list V (P := fun _ => True) (fun p => Al.any _) 1 16 q3 16 (by decide)).bnd fun l q4 hl => { hs with n4 := len_one _ _ hn (by decide),a4 := all_one hs.a4 (sm_of (N := 17) (by rw [List.length_cons];have := hl.1;omega) (by decide)) }) ?_
 refine Al.cond ((Al_room V _ _ _).bnd fun _ q hn => (Al.any _).bnd fun f q2 _ => (Al.any _).bnd fun _ q3 _ => (Al.any _).bnd fun l q4 _ => { hs with n5 := len_one _ _ hn (by decide) }) ?_
 refine Al.cond ((Al_room V _ _ _).bnd fun _ q hn => (Al_rule V cal _).bnd fun x q2 hx => { hs with n6 := len_one _ _ hn (by decide),a6 := all_one hs.a6 hx }) ?_
 refine Al.cond ((Al_room V _ _ _).bnd fun _ q hn => (Al.any _).bnd fun f q2 _ => (Al.any _).bnd fun _ q3 _ => (Al.any _).bnd fun l q4 _ => { hs with n7 := len_one _ _ hn (by decide) }) ?_
 exact Al.cond ((Al_room V _ _ _).bnd fun _ q hn => (Al_total V _).bnd fun x q2 hx => { hs with n8 := len_one _ _ hn (by decide),a8 := all_one hs.a8 hx }) trivial
theorem Al_items (V : Env) (cal : ByteArray → Int × Int) : ∀ (n : Nat) (s : Stt),Sh s → ∀ p,Al Sh (V.items cal n s p)
 | 0,s,hs,p => hs
 | n + 1,s,hs,p => by
  unfold Env.items
  exact Al.ite ((Al_item V cal s hs p).bnd fun s2 q h2 => (Al.any _).bnd fun _ q2 _ => Al_items V cal n s2 h2 q2) hs
theorem Al_statute (V : Env) (cal : ByteArray → Int × Int) (p : Nat) : Al Sh (V.statute cal p) := (Al.any _).bnd fun t q _ => Al_items V cal _ _ (Sh.none t) q
theorem prs_sm {cal : ByteArray → Int × Int} {X : Lx} {n : Int} {st : Stt} {er a : Int} (h : PrsIs cal X n st er a) : smStt st := by
 rcases h with ⟨_,h,_⟩ | ⟨_,rb,A,c,hm⟩
 ·rw [h];exact (Sh.none _).sm
 ·have h2 := Al_statute ⟨rb,A,c,toks X.l,n⟩ cal 0
  cases hs : (⟨rb,A,c,toks X.l,n⟩ : Env).statute cal 0 with
  | ok v q => rw [hs] at hm h2;rw [hm.1];exact h2.sm
  | bad e b => rw [hs] at hm;rw [hm.1];exact (Sh.none _).sm
end Sx
open Sx
namespace Sx.Mk
section
variable {α : Type} {d : Kd α} {e base : Nat} {ok : Nat → Prop} {S : List (Nat × (World → Value → Prop))} {w : World} {v : Value} {l : List α}
theorem Row.of (h : d.R e w base ok v l) (hl : l.length ≤ 4294967296) (hS : ∀ x ∈ l,∀ ok' cs,d.M w base ok' x cs → ∀ p ∈ S,p.1 < d.sz ∧ ∃ u,cs[p.1]? = some u ∧ p.2 w u) : Row base e d.sz S w v := by
 obtain ⟨h0,inner,⟨hlen,hown⟩,hr⟩ := h
 rcases hown with ⟨rfl,hn⟩ | ⟨g,cap,cur,rfl,hg,hh,hnc,_,hcs,htk⟩
 ·exact Row.nil
 ·refine ⟨_,_,cap,rfl,hl,.inr ⟨g,cur,rfl,hg,hh,by rw [hcs];exact Nat.mul_le_mul_right _ hnc,fun j hj u hu => ?_,fun k hk p hp => ?_⟩⟩
  ·have hz : 0 < d.sz := Nat.pos_of_ne_zero (fun e => by rw [e] at hj;omega)
   have hk : j / d.sz < l.length := Nat.div_lt_of_lt_mul (by rw [Nat.mul_comm];exact hj)
   refine d.K_one (d.K_of_M (hr.2 _ l[j / d.sz] (List.getElem?_eq_getElem hk))) u (List.mem_of_getElem? (i := j % d.sz) ?_)
   rw [List.getElem?_take,if_pos (Nat.mod_lt _ hz),List.getElem?_drop,← htk,List.getElem?_take]
   have e : j / d.sz * d.sz + j % d.sz = j := by rw [Nat.mul_comm];exact Nat.div_add_mod j d.sz
   rw [e,if_pos hj,Array.getElem?_toList]
   exact hu
  obtain ⟨hp1,u,hu,hq⟩ := hS l[k] (List.getElem_mem hk) _ _ (hr.2 k l[k] (List.getElem?_eq_getElem hk)) p hp
  refine ⟨u,?_,hq⟩
  rw [List.getElem?_take,if_pos hp1,List.getElem?_drop,← htk,List.getElem?_take] at hu
  split at hu
  ·rw [← Array.getElem?_toList];exact hu
  ·cases hu
theorem R1.of (h : d.R e w base ok v l) (hl : l.length ≤ 4294967296) : R1 base e d.sz w v := Row.of h hl (fun _ _ _ _ _ _ h => by cases h)
end
variable {base : Nat} {ok : Nat → Prop} {w : World} {v : Value}
theorem RP.of {l : List S85} (h : k85.R 85 w base ok v l) (hs : smPreds l) : RP base w v := Row.of h hs.1 fun x hx ok' cs hm => by
 obtain ⟨v2,v3,rfl,g2,g3⟩ := k85_openM hm
 exact all2 ⟨show (2 : Nat) < 4 by decide,v2,rfl,R1.of g2 (hs.2 x hx).1⟩ ⟨show (3 : Nat) < 4 by decide,v3,rfl,R1.of g3 (hs.2 x hx).2⟩
theorem RC.of {l : List (List ByteArray)} (h : (Kd.slice 9 Kd.string).R 23 w base ok v l) (hs : smClasses l) : RC base w v := Row.of h hs.1 fun x hx ok' cs hm => by
 obtain ⟨v0,rfl,g0⟩ := hm
 exact all1 ⟨show (0 : Nat) < 1 by decide,v0,rfl,R1.of g0 (hs.2 x hx)⟩
theorem RQ.of {l : List S100} (h : k100.R 100 w base ok v l) (hs : smPrems l) : RQ base w v := Row.of h hs.1 fun x hx ok' cs hm => by
 obtain ⟨v3,v6,v8,rfl,g3,g6,g8⟩ := k100_openM hm
 exact all2 ⟨show (3 : Nat) < 11 by decide,v3,rfl,R1.of g3 (hs.2 x hx).1⟩ ⟨show (6 : Nat) < 11 by decide,v6,rfl,R1.of g6 (hs.2 x hx).2.1.1⟩
theorem RR.of {l : List S93} (h : k93.R 93 w base ok v l) (hs : smRules l) : RR base w v := Row.of h hs.1 fun x hx ok' cs hm => by
 obtain ⟨v4,v8,rfl,g4,g8⟩ := k93_openM hm
 exact all1 ⟨show (4 : Nat) < 11 by decide,v4,rfl,RQ.of g4 (hs.2 x hx).1⟩
theorem RT.of {l : List S104} (h : k104.R 104 w base ok v l) (hs : smTotals l) : RT base w v := Row.of h hs.1 fun x hx ok' cs hm => by
 obtain ⟨v2,rfl,g2⟩ := k104_openM hm
 exact all1 ⟨show (2 : Nat) < 5 by decide,v2,rfl,R1.of g2 (hs.2 x hx)⟩
theorem St.of {s : Stt} {x : Value} {w1 : World} {b : Nat} (h : sttR base s x w) (hs : smStt s) : ∃ v1 v2 v3 v4 v5 v6 v7 v8,x = .agg #[.string s.title,v1,v2,v3,v4,v5,v6,v7,v8] ∧
  St base w.heap.size s.title v1 v2 v3 v4 v5 v6 v7 v8 (w.alloc (.cells #[.string s.title,v1,v2,v3,v4,v5,v6,v7,v8] 32)) := by
 obtain ⟨own,⟨v1,v2,v3,v4,v5,v6,v7,v8⟩,rfl,hm,g1,g2,g3,g4,g5,g6,g7,g8⟩ := h
 obtain ⟨s1,s2,s3,s4,s5,s6,s7,s8⟩ := hs
 have hb := fun o => (Below.refl w.heap.size w).alloc (Nat.le_refl _) o
 exact ⟨v1,v2,v3,v4,v5,v6,v7,v8,rfl,heap_alloc_new w _,(R1.of g1 s1).below (hb _),(R1.of g2 s2).below (hb _),Row.below (RP.of g3 s3) (hb _) (all2 (fun x hx => R1.below hx (hb _)) (fun x hx => R1.below hx (hb _))),
  Row.below (RC.of g4 s4) (hb _) (all1 (fun x hx => R1.below hx (hb _))),Row.below (RR.of g6 s6) (hb _) (all1 (fun x hx => RQ.below hx (hb _))),Row.below (RT.of g8 s8) (hb _) (all1 (fun x hx => R1.below hx (hb _)))⟩
end Sx.Mk
end Go.Proofs.YtcakgennlliejaaGreatDoor
