import Derived.Test.YtcakgennlliejaaGreatDoorSynK20
import Derived.Test.YtcakgennlliejaaGreatDoorSynK25
set_option maxHeartbeats 8000000
set_option maxRecDepth 100000
namespace Go.Proofs.YtcakgennlliejaaGreatDoor
open Go.Shelf Go.RowKit Go.Lib
open Go.Proofs.YtcakgennlliejaaGreatDoorW.PrintWords
open Go.Proofs.YtcakgennlliejaaGreatDoor.PSyntaxJoined
open Sx
set_option linter.unusedVariables false
set_option linter.unusedSimpArgs false
theorem Sx.sttR_below {base : Nat} {s : Stt} {x : Value} {w w1 : World} (h : sttR base s x w) (hb : Below w.heap.size w w1) : sttR base s x w1 := by
 obtain ⟨own,v,hx,hm,g1,g2,g3,g4,g5,g6,g7,g8⟩ := h
 exact ⟨own,v,hx,hm,Kd.R_below g1 hb,Kd.R_below g2 hb,Kd.R_below g3 hb,Kd.R_below g4 hb,Kd.R_below g5 hb,Kd.R_below g6 hb,Kd.R_below g7 hb,Kd.R_below g8 hb⟩
theorem own_walk (s : ByteArray) (w : World) (hg : ∃ m,w.cell? ⟨0,0,none⟩ = some (.int .i64 m)) :
  Calls Tryz.prog 6 #[.string s] w fun e w' => e = .returned (.bool true) ∧ Below w.heap.size w w' := by
 have HA := Lib.hid (alive_calls w hg)
 have HG := Lib.hid hg
 have HPP := Lib.hid (fun w hg => show Calls Tryz.prog 8 #[.string s] w _ from sp_calls s w hg)
 clear hg
 go_enter Tryz.func6,Tryz.ntmps6
 go_upto_region 3 with (first | (go_at_call 7;((with_reducible refine HA.out.mono ?_);rintro e w1 ⟨rfl,hb1⟩)))
 have HB1 := Lib.hid hb1
 have HP := Lib.hid (HPP.out w1 (HG.out.imp fun m hm => keep_cell hm hb1))
 clear hb1
 go_upto_region 4 with (first | (go_at_call 8;((with_reducible refine HP.out.mono ?_);rintro e w2 ⟨hb2,x,er,a,st,rfl,hx2,hp2⟩;obtain ⟨ow,⟨u1,u2,u3,u4,u5,u6,u7,u8⟩,rfl,hlm,g1,g2,g3,g4,g5,g6,g7,g8⟩ := hx2;have HB2 := Lib.hid (show Below w.heap.size w w2 from HB1.out.trans (hb2.mono HB1.out.size));have HSM := Lib.hid (prs_sm hp2);have HLM := Lib.hid hlm;obtain ⟨C1,q1,rfl,_,gc1⟩ := Kd.R_reads g1;have G1 := Lib.hid gc1;obtain ⟨C2,q2,rfl,_,gc2⟩ := Kd.R_reads g2;have G2 := Lib.hid gc2;obtain ⟨C3,q3,rfl,_,gc3⟩ := Kd.R_reads g3;have G3 := Lib.hid gc3;obtain ⟨C4,q4,rfl,_,gc4⟩ := Kd.R_reads g4;have G4 := Lib.hid gc4;obtain ⟨C5,q5,rfl,_,gc5⟩ := Kd.R_reads g5;have G5 := Lib.hid gc5;obtain ⟨C6,q6,rfl,_,gc6⟩ := Kd.R_reads g6;have G6 := Lib.hid gc6;obtain ⟨C7,q7,rfl,_,gc7⟩ := Kd.R_reads g7;have G7 := Lib.hid gc7;obtain ⟨C8,q8,rfl,_,gc8⟩ := Kd.R_reads g8;have G8 := Lib.hid gc8;clear g1 g2 g3 g4 g5 g6 g7 g8 gc1 gc2 gc3 gc4 gc5 gc6 gc7 gc8;clear hb2 hp2 hlm)))
 obtain ⟨Y,hY⟩ : ∃ Y,w2.alloc (.cells #[.string st.title,.slice C1 st.kinds.length q1,.slice C2 st.members.length q2,.slice C3 st.preds.length q3,.slice C4 st.classes.length q4,.slice C5 st.sources.length q5,.slice C6 st.rules.length q6,.slice C7 st.excepts.length q7,.slice C8 st.totals.length q8] 32) = Y := ⟨_,rfl⟩
 obtain ⟨b,hb⟩ : ∃ b,w2.heap.size = b := ⟨_,rfl⟩
 have HY2 := Lib.hid (show Below w2.heap.size w2 Y by rw [← hY];exact (Below.refl _ w2).alloc (Nat.le_refl _) _)
 have HBY := Lib.hid (show Below w.heap.size w Y from HB2.out.trans (HY2.out.mono HB2.out.size))
 have HBB := Lib.hid (show Y.heap[b]? = some (.cells #[.string st.title,.slice C1 st.kinds.length q1,.slice C2 st.members.length q2,.slice C3 st.preds.length q3,.slice C4 st.classes.length q4,.slice C5 st.sources.length q5,.slice C6 st.rules.length q6,.slice C7 st.excepts.length q7,.slice C8 st.totals.length q8] 32 (0,0)) by rw [← hY,← hb];exact heap_alloc_new w2 _)
 try rw [hY]
 try rw [hb]
 clear hY hb
 have G1 := Lib.hid (Kd.C_below G1.out HY2.out)
 have G2 := Lib.hid (Kd.C_below G2.out HY2.out)
 have G3 := Lib.hid (Kd.C_below G3.out HY2.out)
 have G4 := Lib.hid (Kd.C_below G4.out HY2.out)
 have G5 := Lib.hid (Kd.C_below G5.out HY2.out)
 have G6 := Lib.hid (Kd.C_below G6.out HY2.out)
 have G7 := Lib.hid (Kd.C_below G7.out HY2.out)
 have G8 := Lib.hid (Kd.C_below G8.out HY2.out)
 have HCS := Lib.hid (copy_statute st C1 q1 C2 q2 C3 q3 C4 q4 C5 q5 C6 q6 C7 q7 C8 q8 Y G1.out G2.out G3.out G4.out G5.out G6.out G7.out G8.out HSM.out HLM.out)
 have y0 := blk_cell (v := .string st.title) HBB.out 0 rfl
 have y1 := blk_cell (v := .slice C1 st.kinds.length q1) HBB.out 1 rfl
 have y2 := blk_cell (v := .slice C2 st.members.length q2) HBB.out 2 rfl
 have y3 := blk_cell (v := .slice C3 st.preds.length q3) HBB.out 3 rfl
 have y4 := blk_cell (v := .slice C4 st.classes.length q4) HBB.out 4 rfl
 have y5 := blk_cell (v := .slice C5 st.sources.length q5) HBB.out 5 rfl
 have y6 := blk_cell (v := .slice C6 st.rules.length q6) HBB.out 6 rfl
 have y7 := blk_cell (v := .slice C7 st.excepts.length q7) HBB.out 7 rfl
 have y8 := blk_cell (v := .slice C8 st.totals.length q8) HBB.out 8 rfl
 go_upto_region 5 with (first | (go_at_call 15;((with_reducible refine HCS.out.mono ?_);rintro e w3 ⟨x,rfl,hx3,hb3⟩;obtain ⟨ow,⟨u1,u2,u3,u4,u5,u6,u7,u8⟩,rfl,hlm,g1,g2,g3,g4,g5,g6,g7,g8⟩ := hx3;have HB3 := Lib.hid (show Below Y.heap.size Y w3 from hb3);obtain ⟨D1,k1,rfl,_,gc1⟩ := Kd.R_reads g1;have K1 := Lib.hid gc1;obtain ⟨D2,k2,rfl,_,gc2⟩ := Kd.R_reads g2;have K2 := Lib.hid gc2;obtain ⟨D3,k3,rfl,_,gc3⟩ := Kd.R_reads g3;have K3 := Lib.hid gc3;obtain ⟨D4,k4,rfl,_,gc4⟩ := Kd.R_reads g4;have K4 := Lib.hid gc4;obtain ⟨D5,k5,rfl,_,gc5⟩ := Kd.R_reads g5;have K5 := Lib.hid gc5;obtain ⟨D6,k6,rfl,_,gc6⟩ := Kd.R_reads g6;have K6 := Lib.hid gc6;obtain ⟨D7,k7,rfl,_,gc7⟩ := Kd.R_reads g7;have K7 := Lib.hid gc7;obtain ⟨D8,k8,rfl,_,gc8⟩ := Kd.R_reads g8;have K8 := Lib.hid gc8;clear g1 g2 g3 g4 g5 g6 g7 g8 gc1 gc2 gc3 gc4 gc5 gc6 gc7 gc8;clear hb3 hlm)))
 obtain ⟨Z,hZ⟩ : ∃ Y,w3.alloc (.cells #[.string st.title,.slice D1 st.kinds.length k1,.slice D2 st.members.length k2,.slice D3 st.preds.length k3,.slice D4 st.classes.length k4,.slice D5 st.sources.length k5,.slice D6 st.rules.length k6,.slice D7 st.excepts.length k7,.slice D8 st.totals.length k8] 32) = Y := ⟨_,rfl⟩
 obtain ⟨c,hb⟩ : ∃ b,w3.heap.size = b := ⟨_,rfl⟩
 have HZ3 := Lib.hid (show Below w3.heap.size w3 Z by rw [← hZ];exact (Below.refl _ w3).alloc (Nat.le_refl _) _)
 have HYZ := Lib.hid (show Below Y.heap.size Y Z from HB3.out.trans (HZ3.out.mono HB3.out.size))
 have HBZ := Lib.hid (show Below w.heap.size w Z from HBY.out.trans (HYZ.out.mono HBY.out.size))
 have HZZ := Lib.hid (show Z.heap[c]? = some (.cells #[.string st.title,.slice D1 st.kinds.length k1,.slice D2 st.members.length k2,.slice D3 st.preds.length k3,.slice D4 st.classes.length k4,.slice D5 st.sources.length k5,.slice D6 st.rules.length k6,.slice D7 st.excepts.length k7,.slice D8 st.totals.length k8] 32 (0,0)) by rw [← hZ,← hb];exact heap_alloc_new w3 _)
 try rw [hZ]
 try rw [hb]
 clear hZ hb y0 y1 y2 y3 y4 y5 y6 y7 y8
 have HP2 := Lib.hid (HPP.out Z (HG.out.imp fun m hm => keep_cell hm HBZ.out))
 go_upto_region 6 with (first | (go_at_call 8;((with_reducible refine HP2.out.mono ?_);rintro e w4 ⟨hb4,x,er2,a2,st2,rfl,hx4,hp4⟩;have HX4 := hx4;obtain ⟨ow,⟨u1,u2,u3,u4,u5,u6,u7,u8⟩,rfl,hlm,g1,g2,g3,g4,g5,g6,g7,g8⟩ := hx4;have HB4 := Lib.hid (show Below Z.heap.size Z w4 from hb4);have HS4 := Lib.hid (prs_sm hp4);obtain ⟨E1,j1,rfl⟩ := Kd.R_slice g1;obtain ⟨E2,j2,rfl⟩ := Kd.R_slice g2;obtain ⟨E3,j3,rfl⟩ := Kd.R_slice g3;obtain ⟨E4,j4,rfl⟩ := Kd.R_slice g4;obtain ⟨E5,j5,rfl⟩ := Kd.R_slice g5;obtain ⟨E6,j6,rfl⟩ := Kd.R_slice g6;obtain ⟨E7,j7,rfl⟩ := Kd.R_slice g7;obtain ⟨E8,j8,rfl⟩ := Kd.R_slice g8;clear hb4 hp4 hlm g1 g2 g3 g4 g5 g6 g7 g8)))
 have HX4 := Lib.hid HX4
 obtain ⟨T,hT⟩ : ∃ Y,w4.alloc (.cells #[.string st2.title,.slice E1 st2.kinds.length j1,.slice E2 st2.members.length j2,.slice E3 st2.preds.length j3,.slice E4 st2.classes.length j4,.slice E5 st2.sources.length j5,.slice E6 st2.rules.length j6,.slice E7 st2.excepts.length j7,.slice E8 st2.totals.length j8] 32) = Y := ⟨_,rfl⟩
 obtain ⟨d,hb⟩ : ∃ b,w4.heap.size = b := ⟨_,rfl⟩
 have HT4 := Lib.hid (show Below w4.heap.size w4 T by rw [← hT];exact (Below.refl _ w4).alloc (Nat.le_refl _) _)
 have HTT := Lib.hid (show T.heap[d]? = some (.cells #[.string st2.title,.slice E1 st2.kinds.length j1,.slice E2 st2.members.length j2,.slice E3 st2.preds.length j3,.slice E4 st2.classes.length j4,.slice E5 st2.sources.length j5,.slice E6 st2.rules.length j6,.slice E7 st2.excepts.length j7,.slice E8 st2.totals.length j8] 32 (0,0)) by rw [← hT,← hb];exact heap_alloc_new w4 _)
 try rw [hT]
 try rw [hb]
 clear hT hb
 have HZT := Lib.hid (show Below Z.heap.size Z T from HB4.out.trans (HT4.out.mono HB4.out.size))
 have HMK := Lib.hid (omark_calls Z.heap.size st2 _ T (sttR_below HX4.out HT4.out) HS4.out HZT.out.size)
 have y0 := blk_cell (v := .string st2.title) HTT.out 0 rfl
 have y1 := blk_cell (v := .slice E1 st2.kinds.length j1) HTT.out 1 rfl
 have y2 := blk_cell (v := .slice E2 st2.members.length j2) HTT.out 2 rfl
 have y3 := blk_cell (v := .slice E3 st2.preds.length j3) HTT.out 3 rfl
 have y4 := blk_cell (v := .slice E4 st2.classes.length j4) HTT.out 4 rfl
 have y5 := blk_cell (v := .slice E5 st2.sources.length j5) HTT.out 5 rfl
 have y6 := blk_cell (v := .slice E6 st2.rules.length j6) HTT.out 6 rfl
 have y7 := blk_cell (v := .slice E7 st2.excepts.length j7) HTT.out 7 rfl
 have y8 := blk_cell (v := .slice E8 st2.totals.length j8) HTT.out 8 rfl
 go_upto_region 7 with (first | (go_at_call 16;((with_reducible refine HMK.out.mono ?_);rintro e w5 ⟨rfl,hb5⟩)))
 have HB5 := Lib.hid (show Below Z.heap.size Z w5 from HZT.out.trans hb5)
 have HBW := Lib.hid (show Below w.heap.size w w5 from HBZ.out.trans (HB5.out.mono HBZ.out.size))
 have HY5 := Lib.hid (show Below Y.heap.size Y w5 from HYZ.out.trans (HB5.out.mono HYZ.out.size))
 have H35 := Lib.hid (show Below w3.heap.size w3 w5 from HZ3.out.trans (HB5.out.mono HZ3.out.size))
 clear hb5 y0 y1 y2 y3 y4 y5 y6 y7 y8
 have HSS := Lib.hid (same_statute st C1 D1 q1 k1 C2 D2 q2 k2 C3 D3 q3 k3 C4 D4 q4 k4 C5 D5 q5 k5 C6 D6 q6 k6 C7 D7 q7 k7 C8 D8 q8 k8 w5 (Kd.C_below G1.out HY5.out) (Kd.C_below K1.out H35.out) (Kd.C_below G2.out HY5.out) (Kd.C_below K2.out H35.out) (Kd.C_below G3.out HY5.out) (Kd.C_below K3.out H35.out) (Kd.C_below G4.out HY5.out) (Kd.C_below K4.out H35.out) (Kd.C_below G5.out HY5.out) (Kd.C_below K5.out H35.out) (Kd.C_below G6.out HY5.out) (Kd.C_below K6.out H35.out) (Kd.C_below G7.out HY5.out) (Kd.C_below K7.out H35.out) (Kd.C_below G8.out HY5.out) (Kd.C_below K8.out H35.out) HSM.out)
 have hbl := (HY5.out.block b (blk_lt HBB.out)).trans HBB.out
 have hbl2 := (HB5.out.block c (blk_lt HZZ.out)).trans HZZ.out
 have y0 := blk_cell (v := .string st.title) hbl 0 rfl
 have y1 := blk_cell (v := .slice C1 st.kinds.length q1) hbl 1 rfl
 have y2 := blk_cell (v := .slice C2 st.members.length q2) hbl 2 rfl
 have y3 := blk_cell (v := .slice C3 st.preds.length q3) hbl 3 rfl
 have y4 := blk_cell (v := .slice C4 st.classes.length q4) hbl 4 rfl
 have y5 := blk_cell (v := .slice C5 st.sources.length q5) hbl 5 rfl
 have y6 := blk_cell (v := .slice C6 st.rules.length q6) hbl 6 rfl
 have y7 := blk_cell (v := .slice C7 st.excepts.length q7) hbl 7 rfl
 have y8 := blk_cell (v := .slice C8 st.totals.length q8) hbl 8 rfl
 have v0 := blk_cell (v := .string st.title) hbl2 0 rfl
 have v1 := blk_cell (v := .slice D1 st.kinds.length k1) hbl2 1 rfl
 have v2 := blk_cell (v := .slice D2 st.members.length k2) hbl2 2 rfl
 have v3 := blk_cell (v := .slice D3 st.preds.length k3) hbl2 3 rfl
 have v4 := blk_cell (v := .slice D4 st.classes.length k4) hbl2 4 rfl
 have v5 := blk_cell (v := .slice D5 st.sources.length k5) hbl2 5 rfl
 have v6 := blk_cell (v := .slice D6 st.rules.length k6) hbl2 6 rfl
 have v7 := blk_cell (v := .slice D7 st.excepts.length k7) hbl2 7 rfl
 have v8 := blk_cell (v := .slice D8 st.totals.length k8) hbl2 8 rfl
 clear hbl hbl2
 go_wp2_with (first | (go_at_call 10;((with_reducible refine HSS.out.mono ?_);rintro e w6 ⟨rfl,hb6⟩)))
 go_ret
 exact ⟨rfl,HBW.out.trans (hb6.mono HBW.out.size)⟩
end Go.Proofs.YtcakgennlliejaaGreatDoor
