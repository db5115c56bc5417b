import Derived.Deep.RegionHeldLaw
import Derived.Test.YtcakgennlliejaaGreatDoorSynK20
import Derived.Test.YtcakgennlliejaaGreatDoorSynK26
set_option maxHeartbeats 8000000
set_option maxRecDepth 100000
namespace Go.Proofs.YtcakgennlliejaaGreatDoor
open Go.Shelf Go.RowKit Go.Lib
open Go.Proofs.YtcakgennlliejaaGreatDoorW.PrintWords
open Go.Proofs.YtcakgennlliejaaGreatDoor.PSyntaxJoined
open Sx
set_option linter.unusedVariables false
set_option linter.unusedSimpArgs false
theorem Sx.sttR_below {base:Nat} {s:Stt} {x:Value} {w w1:World} (h:sttR base s x w) (hb:Below w.heap.size w w1):sttR base s x w1:=by
 obtain ⟨own,v,hx,hm,g1,g2,g3,g4,g5,g6,g7,g8⟩:=h
 exact ⟨own,v,hx,hm,Kd.R_below g1 hb,Kd.R_below g2 hb,Kd.R_below g3 hb,Kd.R_below g4 hb,Kd.R_below g5 hb,Kd.R_below g6 hb,Kd.R_below g7 hb,Kd.R_below g8 hb⟩
theorem str_empty {s:ByteArray} (h:s.toList.isEmpty=true):s=⟨#[]⟩:=by
 rw [Lib.toList_data] at h
 cases s with
 | mk d=>cases d with
  | mk l=>cases l with
   | nil=>rfl
   | cons x l=>cases h
theorem joined_walk (a b:ByteArray) (w:World) (hg:∃ m,w.cell? ⟨0,0,none⟩=some (.int .i64 m)) :
  Calls Tryz.prog 5 #[.string a,.string b] w fun e w'=>e=.returned (.bool true)∧Below w.heap.size w w':=by
 have HA:=Lib.hid (alive_calls w hg)
 have HG:=Lib.hid hg
 have HPP:=Lib.hid (fun s w hg=>show Calls Tryz.prog 8 #[.string s] w _ from sp_calls s w hg)
 clear hg
 go_enter Tryz.func5,Tryz.ntmps5
 go_upto_region 3 with (first | (go_at_call 7;((with_reducible refine HA.out.mono ?_);rintro e w1 ⟨rfl,hb1⟩)))
 have HB1:=Lib.hid hb1
 have HP:=Lib.hid (HPP.out a w1 (HG.out.imp fun m hm=>keep_cell hm hb1))
 clear hb1
 go_upto_region 4 with (first | (go_at_call 8;((with_reducible refine HP.out.mono ?_);rintro e w2 ⟨hb2,x,er,ea,st,rfl,hx2,hp2⟩;obtain ⟨ow,⟨u1,u2,u3,u4,u5,u6,u7,u8⟩,rfl,hlm,g1,g2,g3,g4,g5,g6,g7,g8⟩:=hx2;have HB2:=Lib.hid (show Below w.heap.size w w2 from HB1.out.trans (hb2.mono HB1.out.size));have HPA:=Lib.hid hp2;have HLM:=Lib.hid hlm;obtain ⟨C1,q1,rfl,_,gc1⟩:=Kd.R_reads g1;have G1:=Lib.hid gc1;obtain ⟨C2,q2,rfl,_,gc2⟩:=Kd.R_reads g2;have G2:=Lib.hid gc2;obtain ⟨C3,q3,rfl,_,gc3⟩:=Kd.R_reads g3;have G3:=Lib.hid gc3;obtain ⟨C4,q4,rfl,_,gc4⟩:=Kd.R_reads g4;have G4:=Lib.hid gc4;obtain ⟨C5,q5,rfl,_,gc5⟩:=Kd.R_reads g5;have G5:=Lib.hid gc5;obtain ⟨C6,q6,rfl,_,gc6⟩:=Kd.R_reads g6;have G6:=Lib.hid gc6;obtain ⟨C7,q7,rfl,_,gc7⟩:=Kd.R_reads g7;have G7:=Lib.hid gc7;obtain ⟨C8,q8,rfl,_,gc8⟩:=Kd.R_reads g8;have G8:=Lib.hid gc8;clear g1 g2 g3 g4 g5 g6 g7 g8 gc1 gc2 gc3 gc4 gc5 gc6 gc7 gc8;clear hb2 hp2 hlm)))
 obtain ⟨Y,hY⟩:∃ Y,w2.alloc (.cells #[.string st.title,.slice C1 st.kinds.length q1,.slice C2 st.members.length q2,.slice C3 st.preds.length q3,.slice C4 st.classes.length q4,.slice C5 st.sources.length q5,.slice C6 st.rules.length q6,.slice C7 st.excepts.length q7,.slice C8 st.totals.length q8] 32)=Y:=⟨_,rfl⟩
 obtain ⟨p5,hb⟩:∃ b,w2.heap.size=b:=⟨_,rfl⟩
 have HBYo:=Lib.hid (show Below w2.heap.size w2 Y by rw [← hY];exact (Below.refl _ w2).alloc (Nat.le_refl _) _)
 have HBY:=Lib.hid (show Below w.heap.size w Y from HB2.out.trans (HBYo.out.mono HB2.out.size))
 have HH5:=Lib.hid (show Y.heap[p5]?=some (.cells #[.string st.title,.slice C1 st.kinds.length q1,.slice C2 st.members.length q2,.slice C3 st.preds.length q3,.slice C4 st.classes.length q4,.slice C5 st.sources.length q5,.slice C6 st.rules.length q6,.slice C7 st.excepts.length q7,.slice C8 st.totals.length q8] 32 (0,0)) by rw [← hY,← hb];exact heap_alloc_new w2 _)
 try rw [hY]
 try rw [hb]
 clear hY hb
 have HP2:=Lib.hid (HPP.out b Y (HG.out.imp fun m hm=>keep_cell hm HBY.out))
 go_upto_region 5 with (first | (go_at_call 8;((with_reducible refine HP2.out.mono ?_);rintro e w3 ⟨hb3,x,er2,ea2,st2,rfl,hx3,hp3⟩;have HX3:=hx3;obtain ⟨ow,⟨u1,u2,u3,u4,u5,u6,u7,u8⟩,rfl,hlm,g1,g2,g3,g4,g5,g6,g7,g8⟩:=hx3;have HB3o:=Lib.hid (show Below Y.heap.size Y w3 from hb3);have HB3:=Lib.hid (show Below w.heap.size w w3 from HBY.out.trans (hb3.mono HBY.out.size));have HPB:=Lib.hid hp3;obtain ⟨D1,k1,rfl,_,gc1⟩:=Kd.R_reads g1;have K1:=Lib.hid gc1;obtain ⟨D2,k2,rfl,_,gc2⟩:=Kd.R_reads g2;have K2:=Lib.hid gc2;obtain ⟨D3,k3,rfl,_,gc3⟩:=Kd.R_reads g3;have K3:=Lib.hid gc3;obtain ⟨D4,k4,rfl,_,gc4⟩:=Kd.R_reads g4;have K4:=Lib.hid gc4;obtain ⟨D5,k5,rfl,_,gc5⟩:=Kd.R_reads g5;have K5:=Lib.hid gc5;obtain ⟨D6,k6,rfl,_,gc6⟩:=Kd.R_reads g6;have K6:=Lib.hid gc6;obtain ⟨D7,k7,rfl,_,gc7⟩:=Kd.R_reads g7;have K7:=Lib.hid gc7;obtain ⟨D8,k8,rfl,_,gc8⟩:=Kd.R_reads g8;have K8:=Lib.hid gc8;clear g1 g2 g3 g4 g5 g6 g7 g8 gc1 gc2 gc3 gc4 gc5 gc6 gc7 gc8;clear hb3 hp3 hlm)))
 have HX3:=Lib.hid HX3
 obtain ⟨Z,hY⟩:∃ Y,w3.alloc (.cells #[.string st2.title,.slice D1 st2.kinds.length k1,.slice D2 st2.members.length k2,.slice D3 st2.preds.length k3,.slice D4 st2.classes.length k4,.slice D5 st2.sources.length k5,.slice D6 st2.rules.length k6,.slice D7 st2.excepts.length k7,.slice D8 st2.totals.length k8] 32)=Y:=⟨_,rfl⟩
 obtain ⟨p8,hb⟩:∃ b,w3.heap.size=b:=⟨_,rfl⟩
 have HBZo:=Lib.hid (show Below w3.heap.size w3 Z by rw [← hY];exact (Below.refl _ w3).alloc (Nat.le_refl _) _)
 have HBZ:=Lib.hid (show Below w.heap.size w Z from HB3.out.trans (HBZo.out.mono HB3.out.size))
 have HH8:=Lib.hid (show Z.heap[p8]?=some (.cells #[.string st2.title,.slice D1 st2.kinds.length k1,.slice D2 st2.members.length k2,.slice D3 st2.preds.length k3,.slice D4 st2.classes.length k4,.slice D5 st2.sources.length k5,.slice D6 st2.rules.length k6,.slice D7 st2.excepts.length k7,.slice D8 st2.totals.length k8] 32 (0,0)) by rw [← hY,← hb];exact heap_alloc_new w3 _)
 try rw [hY]
 try rw [hb]
 clear hY hb
 have HYZ:=Lib.hid (show Below Y.heap.size Y Z from HB3o.out.trans (HBZo.out.mono HB3o.out.size))
 have hbl:=(HYZ.out.block p5 (blk_lt HH5.out)).trans HH5.out
 have y0:=blk_cell (v:=.string st.title) hbl 0 rfl
 have y1:=blk_cell (v:=.slice C1 st.kinds.length q1) hbl 1 rfl
 have y2:=blk_cell (v:=.slice C2 st.members.length q2) hbl 2 rfl
 have y3:=blk_cell (v:=.slice C3 st.preds.length q3) hbl 3 rfl
 have y4:=blk_cell (v:=.slice C4 st.classes.length q4) hbl 4 rfl
 have y5:=blk_cell (v:=.slice C5 st.sources.length q5) hbl 5 rfl
 have y6:=blk_cell (v:=.slice C6 st.rules.length q6) hbl 6 rfl
 have y7:=blk_cell (v:=.slice C7 st.excepts.length q7) hbl 7 rfl
 have y8:=blk_cell (v:=.slice C8 st.totals.length q8) hbl 8 rfl
 have v0:=blk_cell (v:=.string st2.title) HH8.out 0 rfl
 have v1:=blk_cell (v:=.slice D1 st2.kinds.length k1) HH8.out 1 rfl
 have v2:=blk_cell (v:=.slice D2 st2.members.length k2) HH8.out 2 rfl
 have v3:=blk_cell (v:=.slice D3 st2.preds.length k3) HH8.out 3 rfl
 have v4:=blk_cell (v:=.slice D4 st2.classes.length k4) HH8.out 4 rfl
 have v5:=blk_cell (v:=.slice D5 st2.sources.length k5) HH8.out 5 rfl
 have v6:=blk_cell (v:=.slice D6 st2.rules.length k6) HH8.out 6 rfl
 have v7:=blk_cell (v:=.slice D7 st2.excepts.length k7) HH8.out 7 rfl
 have v8:=blk_cell (v:=.slice D8 st2.totals.length k8) HH8.out 8 rfl
 clear hbl
 have HSM:=Lib.hid (prs_sm HPA.out)
 have HSM2:=Lib.hid (prs_sm HPB.out)
 by_cases he:er=0
 case neg =>
  have z1:(er != 0)=true:=by simpa using he
  clear he
  go_wp2_with (first | (go_at_call 9;((with_reducible refine (lnum_calls _ _).mono ?_);rintro e w6 ⟨rfl,rfl⟩)))
  go_ret
  exact ⟨rfl,HBZ.out⟩
 have z1:(er != 0)=false:=by rw [he];rfl
 have HE1:=Lib.hid he
 clear he
 by_cases he:er2=0
 case neg =>
  have z2:(er2 != 0)=true:=by simpa using he
  clear he
  go_wp2_with (first | (go_at_call 9;((with_reducible refine (lnum_calls _ _).mono ?_);rintro e w6 ⟨rfl,rfl⟩)))
  go_ret
  exact ⟨rfl,HBZ.out⟩
 have z2:(er2 != 0)=false:=by rw [he];rfl
 have HE2:=Lib.hid he
 clear he
 cases hti:st2.title.toList.isEmpty
 case false =>
  go_wp2_with (first | (go_at_call 9;((with_reducible refine (lnum_calls _ _).mono ?_);rintro e w6 ⟨rfl,rfl⟩)))
  go_ret
  exact ⟨rfl,HBZ.out⟩
 have HTI:=Lib.hid (str_empty hti)
 have HS1:=Lib.hid (short_calls st C1 q1 C2 q2 C3 q3 C4 q4 C5 q5 C6 q6 C7 q7 C8 q8 Z HSM.out)
 have HS2:=Lib.hid (fun W=>short_calls st2 D1 k1 D2 k2 D3 k3 D4 k4 D5 k5 D6 k6 D7 k7 D8 k8 W HSM2.out)
 cases hs1:shtB st
 case false =>
  rw [hs1] at HS1
  go_wp2_with (first | (go_at_call 9;((with_reducible refine (lnum_calls _ _).mono ?_);rintro e w6 ⟨rfl,rfl⟩)) | (go_at_call 13;((with_reducible refine HS1.out.mono ?_);rintro e w6 ⟨rfl,hb6⟩;have HB6:=Lib.hid (show Below Z.heap.size Z w6 from hb6);have t0:=keep_cell v0 hb6;have t1:=keep_cell v1 hb6;have t2:=keep_cell v2 hb6;have t3:=keep_cell v3 hb6;have t4:=keep_cell v4 hb6;have t5:=keep_cell v5 hb6;have t6:=keep_cell v6 hb6;have t7:=keep_cell v7 hb6;have t8:=keep_cell v8 hb6;clear hb6)))
  go_ret
  exact ⟨rfl,HBZ.out.trans (HB6.out.mono HBZ.out.size)⟩
 rw [hs1] at HS1
 have HT1:=Lib.hid (shtB_sht hs1)
 clear hs1
 cases hs2:shtB st2
 case false =>
  rw [hs2] at HS2
  go_wp2_with (first | (go_at_call 9;((with_reducible refine (lnum_calls _ _).mono ?_);rintro e w6 ⟨rfl,rfl⟩)) | (go_at_call 13;((with_reducible refine HS1.out.mono ?_);rintro e w6 ⟨rfl,hb6⟩;have HB6:=Lib.hid (show Below Z.heap.size Z w6 from hb6);have t0:=keep_cell v0 hb6;have t1:=keep_cell v1 hb6;have t2:=keep_cell v2 hb6;have t3:=keep_cell v3 hb6;have t4:=keep_cell v4 hb6;have t5:=keep_cell v5 hb6;have t6:=keep_cell v6 hb6;have t7:=keep_cell v7 hb6;have t8:=keep_cell v8 hb6;clear hb6)) | (go_at_call 13;((with_reducible refine (HS2.out _).mono ?_);rintro e w7 ⟨rfl,hb7⟩;have HB7:=Lib.hid (show Below Z.heap.size Z w7 from HB6.out.trans (hb7.mono HB6.out.size));clear hb7)))
  go_ret
  exact ⟨rfl,HBZ.out.trans (HB7.out.mono HBZ.out.size)⟩
 rw [hs2] at HS2
 have HT2:=Lib.hid (shtB_sht hs2)
 clear hs2
 have HZA:=Lib.hid (lex_big a (prs_good (HE1.out ▸ HPA.out)).1)
 have HZB:=Lib.hid (lex_big b (prs_good (HE2.out ▸ HPB.out)).1)
 have x1:(a.size:Int)≤65536:=by have:=HZA.out;omega
 have x2:(b.size:Int)≤65536:=by have:=HZB.out;omega
 by_cases hl:a.size+b.size≤65000
 case neg =>
  have z3:(65000:Int)<(a.size:Int)+(b.size:Int):=by omega
  have z4:decide ((65000:Int)<(a.size:Int)+(b.size:Int))=true:=decide_eq_true z3
  clear hl
  go_wp2_with (first | (go_at_call 9;((with_reducible refine (lnum_calls _ _).mono ?_);rintro e w6 ⟨rfl,rfl⟩)) | (go_at_call 13;((with_reducible refine HS1.out.mono ?_);rintro e w6 ⟨rfl,hb6⟩;have HB6:=Lib.hid (show Below Z.heap.size Z w6 from hb6);have t0:=keep_cell v0 hb6;have t1:=keep_cell v1 hb6;have t2:=keep_cell v2 hb6;have t3:=keep_cell v3 hb6;have t4:=keep_cell v4 hb6;have t5:=keep_cell v5 hb6;have t6:=keep_cell v6 hb6;have t7:=keep_cell v7 hb6;have t8:=keep_cell v8 hb6;clear hb6)) | (go_at_call 13;((with_reducible refine (HS2.out _).mono ?_);rintro e w7 ⟨rfl,hb7⟩;have HB7:=Lib.hid (show Below Z.heap.size Z w7 from HB6.out.trans (hb7.mono HB6.out.size));clear hb7)))
  go_ret
  exact ⟨rfl,HBZ.out.trans (HB7.out.mono HBZ.out.size)⟩
 have z3:¬ ((65000:Int)<(a.size:Int)+(b.size:Int)):=by omega
 have z4:decide ((65000:Int)<(a.size:Int)+(b.size:Int))=false:=decide_eq_false z3
 have HLL:=Lib.hid hl
 clear hl
 go_upto_region 7 with (first | (go_at_call 9;((with_reducible refine (lnum_calls _ _).mono ?_);rintro e w6 ⟨rfl,rfl⟩)) | (go_at_call 13;((with_reducible refine HS1.out.mono ?_);rintro e w6 ⟨rfl,hb6⟩;have HB6:=Lib.hid (show Below Z.heap.size Z w6 from hb6);have t0:=keep_cell v0 hb6;have t1:=keep_cell v1 hb6;have t2:=keep_cell v2 hb6;have t3:=keep_cell v3 hb6;have t4:=keep_cell v4 hb6;have t5:=keep_cell v5 hb6;have t6:=keep_cell v6 hb6;have t7:=keep_cell v7 hb6;have t8:=keep_cell v8 hb6;clear hb6)) | (go_at_call 13;((with_reducible refine (HS2.out _).mono ?_);rintro e w7 ⟨rfl,hb7⟩;have HB7:=Lib.hid (show Below Z.heap.size Z w7 from HB6.out.trans (hb7.mono HB6.out.size));clear hb7)))
 clear y0 y1 y2 y3 y4 y5 y6 y7 y8 v0 v1 v2 v3 v4 v5 v6 v7 v8 t0 t1 t2 t3 t4 t5 t6 t7 t8 hti z1 z2 z3 z4
 have HRT:=Lib.hid (rtokens_calls b w7)
 have HKB:=Lib.hid (HE2.out ▸ HPB.out)
 have HKA:=Lib.hid (HE1.out ▸ HPA.out)
 obtain ⟨X,hX⟩:∃ X,lex b=X:=⟨_,rfl⟩
 rw [hX] at HRT HKB
 have HX:=Lib.hid hX
 clear hX
 go_upto_region 8 with (first | (go_at_call 11;((with_reducible refine HRT.out.mono ?_);rintro e w8 ⟨tv,rfl,hr,hb8⟩;obtain ⟨A0,c0,rfl,_,hc⟩:=Kd.R_reads hr;have HC0:=Lib.hid hc;have HB8:=Lib.hid (show Below Z.heap.size Z w8 from HB7.out.trans (hb8.mono HB7.out.size));clear hr hc hb8)))
 have HW8:=Lib.hid (show Below w.heap.size w w8 from HBZ.out.trans (HB8.out.mono HBZ.out.size))
 have hcs:(X.l.length=0∨(0<X.l.length∧∃ a0 f0 f1,A0=some a0∧w8.cell? a0=some (.int .i64 f0)∧w8.cell? ⟨a0.block,a0.off+1,none⟩=some (.string f1)∧X.l.getD 0 z48=⟨f0,f1,(X.l.getD 0 z48).f2⟩) ):=by
  rcases Nat.eq_zero_or_pos X.l.length with h | h
  ·exact .inl h
  ·obtain ⟨a0,e0,t0,t1,t2⟩:=at_T48 HC0.out 0 (by decide) (by omega)
   have t0':w8.cell? (a0.add (Int.toNat 0*3))=some (.int .i64 (X.l.getD 0 z48).f0):=t0
   have t1':w8.cell? ⟨(a0.add (Int.toNat 0*3)).block,(a0.add (Int.toNat 0*3)).off+1,none⟩=some (.string (X.l.getD 0 z48).f1):=t1
   obtain ⟨zz,hzz⟩:∃ z,X.l.getD 0 z48=z:=⟨_,rfl⟩
   rw [hzz] at t0' t1' ⊢
   exact .inr ⟨h,a0,_,_,e0,by simpa [Addr.add] using t0',by simpa [Addr.add] using t1',rfl⟩
 rcases hcs with hn | ⟨hn,a0,f0,f1,rfl,t0,t1,hz⟩
 (case' inl =>
  have z1:decide ((0:Int)<(X.l.length:Int))=false:=decide_eq_false (by omega)
  have z3:decide (0<X.l.length)=false:=decide_eq_false (by omega)
  have HWD:=Lib.hid (show ¬ (0<X.l.length∧(X.l.getD 0 z48).f0=1∧(X.l.getD 0 z48).f1=sword) from fun h=>by have:=h.1;omega)
  go_upto_region 10 with fail
  clear z1 z3 hn)
 (case' inr =>
  have z1:decide ((0:Int)<(X.l.length:Int))=true:=decide_eq_true (by omega)
  have z3:decide (0<X.l.length)=true:=decide_eq_true hn
  by_cases hf:f0=1∧f1=sword
  (case pos =>
   obtain ⟨rfl,rfl⟩:=hf
   unfold sword at t1
   go_wp2_with fail
   go_ret
   exact ⟨rfl,HW8.out⟩)
  have HWD:=Lib.hid (show ¬ (0<X.l.length∧(X.l.getD 0 z48).f0=1∧(X.l.getD 0 z48).f1=sword) from fun h=>hf (by have h1:=h.2;rw [hz] at h1;exact h1))
  by_cases hf0:f0=1
  (case' pos =>
   have z4:(f0==1)=true:=by simpa using hf0
   have z5:(f1.toList==[115,116,97,116,117,116,101])=false:=by
    rw [beq_eq_false_iff_ne]
    intro h
    refine hf ⟨hf0,?_⟩
    have h4:f1.toList=sword.toList:=h.trans (by rw [Lib.toList_data];rfl)
    rw [Lib.toList_data,Lib.toList_data] at h4
    exact (show f1=⟨f1.data⟩ by cases f1;rfl).trans (by rw [Array.toList_inj.1 h4])
   go_upto_region 10 with fail
   clear z4 z5)
  (case' neg =>
   have z4:(f0==1)=false:=by simpa using hf0
   go_upto_region 10 with fail
   clear z4)
  all_goals clear z1 z3 hn t0 t1 hz hf hf0)
 all_goals
  have HPO:=Lib.hid (HPP.out (a++⟨#[10]⟩++b) w8 (HG.out.imp fun m hm=>keep_cell hm HW8.out))
  have x1:a.size≤65536:=HZA.out
  have x2:b.size≤65536:=HZB.out
  have hlj:=lex_join (a:=a) (b:=b) (o:=a++⟨#[10]⟩++b) (by rw [ByteArray.data_append,ByteArray.data_append,Array.toList_append,Array.toList_append,List.append_assoc];rfl) (prs_good HKA.out).1 (by rw [HX.out];exact (prs_good HKB.out).1) (by have h1:=HLL.out;show (a++⟨#[10]⟩++b:ByteArray).data.size≤65536;rw [ByteArray.data_append,ByteArray.data_append,Array.size_append,Array.size_append];show a.size+1+b.size≤65536;omega)
  rw [HX.out] at hlj
  have HLJ:=Lib.hid hlj
  clear hlj
  go_upto_region 11 with (first | (go_at_call 8;((with_reducible refine HPO.out.mono ?_);rintro e w9 ⟨hb9,x,er3,ea3,st3,rfl,hx9,hp9⟩;obtain ⟨rfl,rfl⟩:=prs_join HKA.out HKB.out hp9 HLJ.out.1 HLJ.out.2 HT1.out HT2.out HWD.out;obtain ⟨ow,⟨u1,u2,u3,u4,u5,u6,u7,u8⟩,rfl,hlm,g1,g2,g3,g4,g5,g6,g7,g8⟩:=hx9;have HS3:=Lib.hid (prs_sm hp9);have HB9:=Lib.hid (show Below w8.heap.size w8 w9 from hb9);obtain ⟨E1,j1,rfl,_,gc1⟩:=Kd.R_reads g1;have L1:=Lib.hid gc1;obtain ⟨E2,j2,rfl,_,gc2⟩:=Kd.R_reads g2;have L2:=Lib.hid gc2;obtain ⟨E3,j3,rfl,_,gc3⟩:=Kd.R_reads g3;have L3:=Lib.hid gc3;obtain ⟨E4,j4,rfl,_,gc4⟩:=Kd.R_reads g4;have L4:=Lib.hid gc4;obtain ⟨E5,j5,rfl,_,gc5⟩:=Kd.R_reads g5;have L5:=Lib.hid gc5;obtain ⟨E6,j6,rfl,_,gc6⟩:=Kd.R_reads g6;have L6:=Lib.hid gc6;obtain ⟨E7,j7,rfl,_,gc7⟩:=Kd.R_reads g7;have L7:=Lib.hid gc7;obtain ⟨E8,j8,rfl,_,gc8⟩:=Kd.R_reads g8;have L8:=Lib.hid gc8;clear hb9 hp9 hlm g1 g2 g3 g4 g5 g6 g7 g8 gc1 gc2 gc3 gc4 gc5 gc6 gc7  gc8)))
  obtain ⟨V,hY⟩:∃ Y,w9.alloc (.cells #[.string (jn st st2).title,.slice E1 (jn st st2).kinds.length j1,.slice E2 (jn st st2).members.length j2,.slice E3 (jn st st2).preds.length j3,.slice E4 (jn st st2).classes.length j4,.slice E5 (jn st st2).sources.length j5,.slice E6 (jn st st2).rules.length j6,.slice E7 (jn st st2).excepts.length j7,.slice E8 (jn st st2).totals.length j8] 32)=Y:=⟨_,rfl⟩
  obtain ⟨p9,hb⟩:∃ b,w9.heap.size=b:=⟨_,rfl⟩
  have HV9:=Lib.hid (show Below w9.heap.size w9 V by rw [← hY];exact (Below.refl _ w9).alloc (Nat.le_refl _) _)
  have HZV:=Lib.hid (show Below Z.heap.size Z V from HB8.out.trans ((HB9.out.trans (HV9.out.mono HB9.out.size)).mono HB8.out.size))
  have HBV:=Lib.hid (show Below w.heap.size w V from HBZ.out.trans (HZV.out.mono HBZ.out.size))
  have HYV:=Lib.hid (show Below Y.heap.size Y V from HYZ.out.trans (HZV.out.mono HYZ.out.size))
  have H3V:=Lib.hid (show Below w3.heap.size w3 V from HBZo.out.trans (HZV.out.mono HBZo.out.size))
  have H2V:=Lib.hid (show Below w2.heap.size w2 V from HBYo.out.trans (HYV.out.mono HBYo.out.size))
  have H9:=Lib.hid (show V.heap[p9]?=some (.cells #[.string (jn st st2).title,.slice E1 (jn st st2).kinds.length j1,.slice E2 (jn st st2).members.length j2,.slice E3 (jn st st2).preds.length j3,.slice E4 (jn st st2).classes.length j4,.slice E5 (jn st st2).sources.length j5,.slice E6 (jn st st2).rules.length j6,.slice E7 (jn st st2).excepts.length j7,.slice E8 (jn st st2).totals.length j8] 32 (0,0)) by rw [← hY,← hb];exact heap_alloc_new w9 _)
  try rw [hY]
  try rw [hb]
  clear hY hb
  have h5:=(HYV.out.block p5 (blk_lt HH5.out)).trans HH5.out
  have h8:=(HZV.out.block p8 (blk_lt HH8.out)).trans HH8.out
  have HS:=Lib.hid (show (fun w':World=>w'.cell? ⟨p9,0,none⟩=some (.string (jn st st2).title)∧w'.cell? ⟨p9,1,none⟩=some (.slice E1 (jn st st2).kinds.length j1)∧w'.cell? ⟨p9,2,none⟩=some (.slice E2 (jn st st2).members.length j2)∧w'.cell? ⟨p9,3,none⟩=some (.slice E3 (jn st st2).preds.length j3)∧w'.cell? ⟨p9,4,none⟩=some (.slice E4 (jn st st2).classes.length j4)∧w'.cell? ⟨p9,5,none⟩=some (.slice E5 (jn st st2).sources.length j5)∧w'.cell? ⟨p9,6,none⟩=some (.slice E6 (jn st st2).rules.length j6)∧w'.cell? ⟨p9,7,none⟩=some (.slice E7 (jn st st2).excepts.length j7)∧w'.cell? ⟨p9,8,none⟩=some (.slice E8 (jn st st2).totals.length j8)∧w'.cell? ⟨p5,0,none⟩=some (.string st.title)∧w'.cell? ⟨p5,1,none⟩=some (.slice C1 st.kinds.length q1)∧w'.cell? ⟨p5,2,none⟩=some (.slice C2 st.members.length q2)∧w'.cell? ⟨p5,3,none⟩=some (.slice C3 st.preds.length q3)∧w'.cell? ⟨p5,4,none⟩=some (.slice C4 st.classes.length q4)∧w'.cell? ⟨p5,5,none⟩=some (.slice C5 st.sources.length q5)∧w'.cell? ⟨p5,6,none⟩=some (.slice C6 st.rules.length q6)∧w'.cell? ⟨p5,7,none⟩=some (.slice C7 st.excepts.length q7)∧w'.cell? ⟨p5,8,none⟩=some (.slice C8 st.totals.length q8)∧w'.cell? ⟨p8,0,none⟩=some (.string st2.title)∧w'.cell? ⟨p8,1,none⟩=some (.slice D1 st2.kinds.length k1)∧w'.cell? ⟨p8,2,none⟩=some (.slice D2 st2.members.length k2)∧w'.cell? ⟨p8,3,none⟩=some (.slice D3 st2.preds.length k3)∧w'.cell? ⟨p8,4,none⟩=some (.slice D4 st2.classes.length k4)∧w'.cell? ⟨p8,5,none⟩=some (.slice D5 st2.sources.length k5)∧w'.cell? ⟨p8,6,none⟩=some (.slice D6 st2.rules.length k6)∧w'.cell? ⟨p8,7,none⟩=some (.slice D7 st2.excepts.length k7)∧w'.cell? ⟨p8,8,none⟩=some (.slice D8 st2.totals.length k8)) V from ⟨blk_cell H9.out 0 rfl,blk_cell H9.out 1 rfl,blk_cell H9.out 2 rfl,blk_cell H9.out 3 rfl,blk_cell H9.out 4 rfl,blk_cell H9.out 5 rfl,blk_cell H9.out 6 rfl,blk_cell H9.out 7 rfl,blk_cell H9.out 8 rfl,blk_cell h5 0 rfl,blk_cell h5 1 rfl,blk_cell h5 2 rfl,blk_cell h5 3 rfl,blk_cell h5 4 rfl,blk_cell h5 5 rfl,blk_cell h5 6 rfl,blk_cell h5 7 rfl,blk_cell h5 8 rfl,blk_cell h8 0 rfl,blk_cell h8 1 rfl,blk_cell h8 2 rfl,blk_cell h8 3 rfl,blk_cell h8 4 rfl,blk_cell h8 5 rfl,blk_cell h8 6 rfl,blk_cell h8 7 rfl,blk_cell h8 8 rfl⟩)
  clear h5 h8
  go_region_held_law (fun w':World=>w'.cell? ⟨p9,0,none⟩=some (.string (jn st st2).title)∧w'.cell? ⟨p9,1,none⟩=some (.slice E1 (jn st st2).kinds.length j1)∧w'.cell? ⟨p9,2,none⟩=some (.slice E2 (jn st st2).members.length j2)∧w'.cell? ⟨p9,3,none⟩=some (.slice E3 (jn st st2).preds.length j3)∧w'.cell? ⟨p9,4,none⟩=some (.slice E4 (jn st st2).classes.length j4)∧w'.cell? ⟨p9,5,none⟩=some (.slice E5 (jn st st2).sources.length j5)∧w'.cell? ⟨p9,6,none⟩=some (.slice E6 (jn st st2).rules.length j6)∧w'.cell? ⟨p9,7,none⟩=some (.slice E7 (jn st st2).excepts.length j7)∧w'.cell? ⟨p9,8,none⟩=some (.slice E8 (jn st st2).totals.length j8)∧w'.cell? ⟨p5,0,none⟩=some (.string st.title)∧w'.cell? ⟨p5,1,none⟩=some (.slice C1 st.kinds.length q1)∧w'.cell? ⟨p5,2,none⟩=some (.slice C2 st.members.length q2)∧w'.cell? ⟨p5,3,none⟩=some (.slice C3 st.preds.length q3)∧w'.cell? ⟨p5,4,none⟩=some (.slice C4 st.classes.length q4)∧w'.cell? ⟨p5,5,none⟩=some (.slice C5 st.sources.length q5)∧w'.cell? ⟨p5,6,none⟩=some (.slice C6 st.rules.length q6)∧w'.cell? ⟨p5,7,none⟩=some (.slice C7 st.excepts.length q7)∧w'.cell? ⟨p5,8,none⟩=some (.slice C8 st.totals.length q8)∧w'.cell? ⟨p8,0,none⟩=some (.string st2.title)∧w'.cell? ⟨p8,1,none⟩=some (.slice D1 st2.kinds.length k1)∧w'.cell? ⟨p8,2,none⟩=some (.slice D2 st2.members.length k2)∧w'.cell? ⟨p8,3,none⟩=some (.slice D3 st2.preds.length k3)∧w'.cell? ⟨p8,4,none⟩=some (.slice D4 st2.classes.length k4)∧w'.cell? ⟨p8,5,none⟩=some (.slice D5 st2.sources.length k5)∧w'.cell? ⟨p8,6,none⟩=some (.slice D6 st2.rules.length k6)∧w'.cell? ⟨p8,7,none⟩=some (.slice D7 st2.excepts.length k7)∧w'.cell? ⟨p8,8,none⟩=some (.slice D8 st2.totals.length k8)) (first | exact HS.out | (obtain ⟨r0,r1,r2,r3,r4,r5,r6,r7,r8,r9,r10,r11,r12,r13,r14,r15,r16,r17,r18,r19,r20,r21,r22,r23,r24,r25,r26⟩:=HS.out;exact ⟨keep_cell r0 HBJ.out,keep_cell r1 HBJ.out,keep_cell r2 HBJ.out,keep_cell r3 HBJ.out,keep_cell r4 HBJ.out,keep_cell r5 HBJ.out,keep_cell r6 HBJ.out,keep_cell r7 HBJ.out,keep_cell r8 HBJ.out,keep_cell r9 HBJ.out,keep_cell r10 HBJ.out,keep_cell r11 HBJ.out,keep_cell r12 HBJ.out,keep_cell r13 HBJ.out,keep_cell r14 HBJ.out,keep_cell r15 HBJ.out,keep_cell r16 HBJ.out,keep_cell r17 HBJ.out,keep_cell r18 HBJ.out,keep_cell r19 HBJ.out,keep_cell r20 HBJ.out,keep_cell r21 HBJ.out,keep_cell r22 HBJ.out,keep_cell r23 HBJ.out,keep_cell r24 HBJ.out,keep_cell r25 HBJ.out,keep_cell r26 HBJ.out⟩) | (obtain ⟨r0,r1,r2,r3,r4,r5,r6,r7,r8,r9,r10,r11,r12,r13,r14,r15,r16,r17,r18,r19,r20,r21,r22,r23,r24,r25,r26⟩:=HS.out;exact ⟨keep_cell r0 HBS.out,keep_cell r1 HBS.out,keep_cell r2 HBS.out,keep_cell r3 HBS.out,keep_cell r4 HBS.out,keep_cell r5 HBS.out,keep_cell r6 HBS.out,keep_cell r7 HBS.out,keep_cell r8 HBS.out,keep_cell r9 HBS.out,keep_cell r10 HBS.out,keep_cell r11 HBS.out,keep_cell r12 HBS.out,keep_cell r13 HBS.out,keep_cell r14 HBS.out,keep_cell r15 HBS.out,keep_cell r16 HBS.out,keep_cell r17 HBS.out,keep_cell r18 HBS.out,keep_cell r19 HBS.out,keep_cell r20 HBS.out,keep_cell r21 HBS.out,keep_cell r22 HBS.out,keep_cell r23 HBS.out,keep_cell r24 HBS.out,keep_cell r25 HBS.out,keep_cell r26 HBS.out⟩)) (first | (go_at_call 9;((with_reducible refine (lnum_calls _ _).mono ?_);rintro e w6 ⟨rfl,rfl⟩)) | (go_at_call 14;((with_reducible refine (joined_calls st st2 C1 q1 C2 q2 C3 q3 C4 q4 C5 q5 C6 q6 C7 q7 C8 q8 _ (Kd.C_below G1.out (H2V.out.trans ((Below.refl _ V).drew.mono H2V.out.size))) (Kd.C_below G2.out (H2V.out.trans ((Below.refl _ V).drew.mono H2V.out.size))) (Kd.C_below G3.out (H2V.out.trans ((Below.refl _ V).drew.mono H2V.out.size))) (Kd.C_below G4.out (H2V.out.trans ((Below.refl _ V).drew.mono H2V.out.size))) (Kd.C_below G5.out (H2V.out.trans ((Below.refl _ V).drew.mono H2V.out.size))) (Kd.C_below G6.out (H2V.out.trans ((Below.refl _ V).drew.mono H2V.out.size))) (Kd.C_below G7.out (H2V.out.trans ((Below.refl _ V).drew.mono H2V.out.size))) (Kd.C_below G8.out (H2V.out.trans ((Below.refl _ V).drew.mono H2V.out.size))) HSM.out HLM.out HT1.out HT2.out _ Y.heap.size (sttR_below HX3.out (H3V.out.trans ((Below.refl _ V).drew.mono H3V.out.size)))).mono ?_);rintro e wj ⟨y,rfl,⟨I1,i1,I2,i2,I3,i3,I4,i4,I5,i5,I6,i6,I7,i7,I8,i8,rfl,gj1,gj2,gj3,gj4,gj5,gj6,gj7,gj8⟩,hbj⟩;have HBJ:=Lib.hid (show Below V.heap.size V wj from (Below.refl _ V).drew.trans hbj);have HSS:=Lib.hid (same_statute (jn st st2) E1 I1 j1 i1 E2 I2 j2 i2 E3 I3 j3 i3 E4 I4 j4 i4 E5 I5 j5 i5 E6 I6 j6 i6 E7 I7 j7 i7 E8 I8 j8 i8 wj (Kd.C_below L1.out (HV9.out.trans (HBJ.out.mono HV9.out.size))) gj1 (Kd.C_below L2.out (HV9.out.trans (HBJ.out.mono HV9.out.size))) gj2 (Kd.C_below L3.out (HV9.out.trans (HBJ.out.mono HV9.out.size))) gj3 (Kd.C_below L4.out (HV9.out.trans (HBJ.out.mono HV9.out.size))) gj4 (Kd.C_below L5.out (HV9.out.trans (HBJ.out.mono HV9.out.size))) gj5 (Kd.C_below L6.out (HV9.out.trans (HBJ.out.mono HV9.out.size))) gj6 (Kd.C_below L7.out (HV9.out.trans (HBJ.out.mono HV9.out.size))) gj7 (Kd.C_below L8.out (HV9.out.trans (HBJ.out.mono HV9.out.size))) gj8 HS3.out);clear hbj gj1 gj2 gj3 gj4 gj5 gj6 gj7 gj8)) | (go_at_call 10;((with_reducible refine HSS.out.mono ?_);rintro e ws ⟨rfl,hbs⟩;have HBS:=Lib.hid (show Below V.heap.size V ws from HBJ.out.trans (hbs.mono HBJ.out.size));clear hbs)))
  go_wp2_with fail
  go_ret
  exact ⟨rfl,HBV.out.trans (HBS.out.mono HBV.out.size)⟩
end Go.Proofs.YtcakgennlliejaaGreatDoor
