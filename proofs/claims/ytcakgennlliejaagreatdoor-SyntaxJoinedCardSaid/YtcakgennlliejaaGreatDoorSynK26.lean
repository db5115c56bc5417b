import Derived.Test.YtcakgennlliejaaGreatDoorSynK24
import Derived.Test.YtcakgennlliejaaGreatDoorSynK25
set_option maxHeartbeats 8000000
set_option maxRecDepth 100000
namespace Go.Proofs.YtcakgennlliejaaGreatDoor
open Go.Shelf Go.RowKit Go.Lib
open Go.Proofs.YtcakgennlliejaaGreatDoorW.PrintWords
open Go.Proofs.YtcakgennlliejaaGreatDoor.PSyntaxJoined
open Sx
set_option linter.unusedVariables false
set_option linter.unusedSimpArgs false
def Sx.sttC (s:Stt) (y:Value) (w:World):Prop:=∃ A1 c1 A2 c2 A3 c3 A4 c4 A5 c5 A6 c6 A7 c7 A8 c8,y=.agg #[.string s.title,.slice A1 s.kinds.length c1,.slice A2 s.members.length c2,.slice A3 s.preds.length c3,.slice A4 s.classes.length c4,.slice A5 s.sources.length c5,.slice A6 s.rules.length c6,.slice A7 s.excepts.length c7,.slice A8 s.totals.length c8]∧Kd.C Kd.string w A1 s.kinds.length s.kinds∧Kd.C k54 w A2 s.members.length s.members∧Kd.C k85 w A3 s.preds.length s.preds∧Kd.C (Kd.slice 9 Kd.string) w A4 s.classes.length s.classes∧Kd.C k117 w A5 s.sources.length s.sources∧Kd.C k93 w A6 s.rules.length s.rules∧Kd.C k120 w A7 s.excepts.length s.excepts∧Kd.C k104 w A8 s.totals.length s.totals
theorem Sx.rows_of {α:Type} {d:Kd α} {e base c:Nat} {ok:Nat→Prop} {w W:World} {A:Option Addr} {l:List α} (h:d.R e w base ok (.slice A l.length c) l) (hb:Below w.heap.size w W):ReadsRow (d.M W 0 (fun k=>k<w.heap.size)) d.sz W A l.length l:=by
 obtain ⟨A',c',e1,_,hr⟩:=OwnRow.reads h.2
 injection e1 with e1 e2 e3
 subst e1
 refine ReadsRow.imp_ hr hb fun p cs hp=>?_
 have h1:=d.M_bound hp
 have h2:d.M W base _ p cs:=d.M_move (fun k hk=>hb.block k hk.2.2.1) h1
 exact d.M_lower (Nat.zero_le _) (d.M_mono (fun k hk=>hk.2.2.1) h2)
structure Sx.Jo (w:World) (lo b1 b2 b3:Nat) (ts zs cs:Array Value) (W:World):Prop where
 o1:w.heap.size≤b1
 o2:b1<b2
 o3:b2<lo
 o4:lo≤b3
 hb:Below w.heap.size w W
 h1:W.heap[b1]?=some (.cells ts 32 (0,0))
 h2:W.heap[b2]?=some (.cells zs 32 (0,0))
 h3:W.heap[b3]?=some (.cells cs 32 (0,0))
namespace Sx.Jo
variable {w W w1:World} {lo b1 b2 b3 e:Nat} {ts zs cs us:Array Value} {α:Type} {d:Kd α} {v:Value} {l:List α} {ok:Nat→Prop} {row:Option Nat}
def SR (lo hi:Nat) (own:Nat→Nat) (j k:Nat):Prop:=(lo≤k∧own k=j)∧k<hi
def OK (n lo hi:Nat) (own:Nat→Nat) (j k:Nat):Prop:=k<n∨SR lo hi own j k∨hi<k
theorem grown (h:Jo w lo b1 b2 b3 ts zs cs W) (hg:W.grownBy w1 row) (hr:∀ k,row=some k→lo≤k∧k<b3):Jo w lo b1 b2 b3 ts zs cs w1:=by
 have o1:=h.o1
 have o2:=h.o2
 have o3:=h.o3
 have hk:∀ k,k<W.heap.size→(k<lo∨b3≤k)→w1.heap[k]?=W.heap[k]?:=fun k hk hn=>hg.block k hk (fun e=>by have:=hr k e.symm;omega)
 exact ⟨h.o1,h.o2,h.o3,h.o4,h.hb.grown hg h.hb.size (fun k hk=>by have:=hr k hk;omega),(hk b1 (blk_lt h.h1) (.inl (by omega))).trans h.h1,(hk b2 (blk_lt h.h2) (.inl o3)).trans h.h2,(hk b3 (blk_lt h.h3) (.inr (Nat.le_refl _))).trans h.h3⟩
theorem st3 (h:Jo w lo b1 b2 b3 ts zs cs W) (j:Nat) (v:Value) (e:cs.setIfInBounds j v=us):Jo w lo b1 b2 b3 ts zs us (W.setCell ⟨b3,j,none⟩ v):=by
 have o1:=h.o1
 have o2:=h.o2
 have o3:=h.o3
 have o4:=h.o4
 subst e
 exact ⟨h.o1,h.o2,h.o3,h.o4,h.hb.setCell (by show _≤b3;omega) _,(Below.heap_setCell W _ _ b1 (by show b1≠b3;omega)).trans h.h1,(Below.heap_setCell W _ _ b2 (by show b2≠b3;omega)).trans h.h2,heap_setCell_same h.h3 j _⟩
theorem st2 (h:Jo w lo b1 b2 b3 ts zs cs W) (j:Nat) (v:Value) (e:zs.setIfInBounds j v=us):Jo w lo b1 b2 b3 ts us cs (W.setCell ⟨b2,j,none⟩ v):=by
 have o1:=h.o1
 have o2:=h.o2
 have o3:=h.o3
 have o4:=h.o4
 subst e
 exact ⟨h.o1,h.o2,h.o3,h.o4,h.hb.setCell (by show _≤b2;omega) _,(Below.heap_setCell W _ _ b1 (by show b1≠b2;omega)).trans h.h1,heap_setCell_same h.h2 j _,(Below.heap_setCell W _ _ b3 (by show b3≠b2;omega)).trans h.h3⟩
theorem keep (r:Kd.R d e W 0 ok v l) (hg:W.grownBy w1 row) (j:Nat) (u:Value) (hok:∀ k,ok k→some k≠row∧k≠b3):Kd.R d e (w1.setCell ⟨b3,j,none⟩ u) 0 ok v l :=
 Kd.R_far (Kd.R_grown r hg (fun k hk=>(hok k hk).1)) (fun k hk=>(hok k hk).2) u
theorem sr_sr (h:Jo w lo b1 b2 b3 ts zs cs W) {own:Nat→Nat} {i j:Nat} (hij:i≠j) (hr:∀ k,row=some k→SR lo b3 own j k):∀ k,SR lo b3 own i k→some k≠row∧k≠b3:=fun k hk =>
 ⟨fun e=>hij (hk.1.2.symm.trans (hr k e.symm).1.2),Nat.ne_of_lt hk.2⟩
theorem ok_sr (h:Jo w lo b1 b2 b3 ts zs cs W) {own:Nat→Nat} {i j:Nat} (hij:i≠j) (hr:∀ k,row=some k→SR lo b3 own j k):∀ k,OK w.heap.size lo b3 own i k→some k≠row∧k≠b3:=fun k hk=>by
 have o1:=h.o1
 have o2:=h.o2
 have o3:=h.o3
 have o4:=h.o4
 rcases hk with hk | hk | hk
 ·exact ⟨fun e=>by have h1:=(hr k e.symm).1.1;omega,by omega⟩
 ·exact sr_sr h hij hr k hk
 ·exact ⟨fun e=>by have h1:=(hr k e.symm).2;omega,by omega⟩
theorem ok_ne (h:Jo w lo b1 b2 b3 ts zs cs W) {own:Nat→Nat} {j:Nat}:∀ k,OK w.heap.size lo b3 own j k→k≠b3∧k≠b2:=fun k hk=>by
 have o1:=h.o1
 have o2:=h.o2
 have o3:=h.o3
 have o4:=h.o4
 rcases hk with hk | hk | hk
 ·omega
 ·have h1:=hk.1.1;have h2:=hk.2;omega
 ·omega
theorem fin (h:Jo w lo b1 b2 b3 ts zs cs W) {own:Nat→Nat} {j:Nat} (r:Kd.R d e w1 0 (OK w.heap.size lo b3 own j) v l) (i:Nat) (u:Value):Kd.R d e (w1.setCell ⟨b2,i,none⟩ u) 0 (OK w.heap.size lo b3 own j) v l :=
 Kd.R_far r (fun k hk=>(ok_ne h k hk).2) u
end Sx.Jo
theorem joined_calls (s t:Stt) (A1:Option Addr) (c1:Nat) (A2:Option Addr) (c2:Nat) (A3:Option Addr) (c3:Nat) (A4:Option Addr) (c4:Nat) (A5:Option Addr) (c5:Nat) (A6:Option Addr) (c6:Nat) (A7:Option Addr) (c7:Nat) (A8:Option Addr) (c8:Nat) (w:World) (g1:Kd.C Kd.string w A1 s.kinds.length s.kinds) (g2:Kd.C k54 w A2 s.members.length s.members) (g3:Kd.C k85 w A3 s.preds.length s.preds) (g4:Kd.C (Kd.slice 9 Kd.string) w A4 s.classes.length s.classes) (g5:Kd.C k117 w A5 s.sources.length s.sources) (g6:Kd.C k93 w A6 s.rules.length s.rules) (g7:Kd.C k120 w A7 s.excepts.length s.excepts) (g8:Kd.C k104 w A8 s.totals.length s.totals) (hs:smStt s) (hm:s.members.length≤64) (h1:Sht s) (h2:Sht t) (x:Value) (base:Nat) (hx:sttR base t x w) :
  Calls Tryz.prog 14 #[.agg #[.string s.title,.slice A1 s.kinds.length c1,.slice A2 s.members.length c2,.slice A3 s.preds.length c3,.slice A4 s.classes.length c4,.slice A5 s.sources.length c5,.slice A6 s.rules.length c6,.slice A7 s.excepts.length c7,.slice A8 s.totals.length c8],x] w fun e w'=>∃ y,e=.returned y∧sttC (jn s t) y w'∧Below w.heap.size w w':=by
 obtain ⟨ow,⟨u1,u2,u3,u4,u5,u6,u7,u8⟩,rfl,hlm,q1,q2,q3,q4,q5,q6,q7,q8⟩:=hx
 obtain ⟨C1,e1,rfl⟩:=Kd.R_slice q1
 have Q1:=Lib.hid q1
 obtain ⟨C2,e2,rfl⟩:=Kd.R_slice q2
 have Q2:=Lib.hid q2
 obtain ⟨C3,e3,rfl⟩:=Kd.R_slice q3
 have Q3:=Lib.hid q3
 obtain ⟨C4,e4,rfl⟩:=Kd.R_slice q4
 have Q4:=Lib.hid q4
 obtain ⟨C5,e5,rfl⟩:=Kd.R_slice q5
 have Q5:=Lib.hid q5
 obtain ⟨C6,e6,rfl⟩:=Kd.R_slice q6
 have Q6:=Lib.hid q6
 obtain ⟨C7,e7,rfl⟩:=Kd.R_slice q7
 have Q7:=Lib.hid q7
 obtain ⟨C8,e8,rfl⟩:=Kd.R_slice q8
 have Q8:=Lib.hid q8
 have HL:=Lib.hid (show (s.kinds.length+t.kinds.length)*16≤140737488355328∧(s.members.length+t.members.length)*32≤140737488355328∧(s.preds.length+t.preds.length)*72≤140737488355328∧(s.classes.length+t.classes.length)*24≤140737488355328∧(s.sources.length+t.sources.length)*24≤140737488355328∧(s.rules.length+t.rules.length)*144≤140737488355328∧(s.excepts.length+t.excepts.length)*32≤140737488355328∧(s.totals.length+t.totals.length)*72≤140737488355328 from ⟨by have:=h1.n1;have:=h2.n1;omega,by have:=h1.n2;have:=h2.n2;omega,by have:=h1.n3;have:=h2.n3;omega,by have:=h1.n4;have:=h2.n4;omega,by have:=h1.n5;have:=h2.n5;omega,by have:=h1.n6;have:=h2.n6;omega,by have:=h1.n7;have:=h2.n7;omega,by have:=h1.n8;have:=h2.n8;omega⟩)
 obtain ⟨N1,hN1⟩:∃ n,(s.kinds++t.kinds).length=n:=⟨_,rfl⟩
 have HM1:=Lib.hid hN1
 obtain ⟨N2,hN2⟩:∃ n,(s.members++t.members).length=n:=⟨_,rfl⟩
 have HM2:=Lib.hid hN2
 obtain ⟨N3,hN3⟩:∃ n,(s.preds++t.preds).length=n:=⟨_,rfl⟩
 have HM3:=Lib.hid hN3
 obtain ⟨N4,hN4⟩:∃ n,(s.classes++t.classes).length=n:=⟨_,rfl⟩
 have HM4:=Lib.hid hN4
 obtain ⟨N5,hN5⟩:∃ n,(s.sources++t.sources).length=n:=⟨_,rfl⟩
 have HM5:=Lib.hid hN5
 obtain ⟨N6,hN6⟩:∃ n,(s.rules++t.rules).length=n:=⟨_,rfl⟩
 have HM6:=Lib.hid hN6
 obtain ⟨N7,hN7⟩:∃ n,(s.excepts++t.excepts).length=n:=⟨_,rfl⟩
 have HM7:=Lib.hid hN7
 obtain ⟨N8,hN8⟩:∃ n,(s.totals++t.totals).length=n:=⟨_,rfl⟩
 have HM8:=Lib.hid hN8
 clear hN1 hN2 hN3 hN4 hN5 hN6 hN7 hN8
 obtain ⟨X0,hX0⟩:∃ X,w.alloc (.cells #[.string s.title,.slice A1 s.kinds.length c1,.slice A2 s.members.length c2,.slice A3 s.preds.length c3,.slice A4 s.classes.length c4,.slice A5 s.sources.length c5,.slice A6 s.rules.length c6,.slice A7 s.excepts.length c7,.slice A8 s.totals.length c8] 32)=X:=⟨_,rfl⟩
 obtain ⟨X1,hX1⟩:∃ X,X0.alloc (.cells #[.string t.title,.slice C1 t.kinds.length e1,.slice C2 t.members.length e2,.slice C3 t.preds.length e3,.slice C4 t.classes.length e4,.slice C5 t.sources.length e5,.slice C6 t.rules.length e6,.slice C7 t.excepts.length e7,.slice C8 t.totals.length e8] 32)=X:=⟨_,rfl⟩
 obtain ⟨X,hX⟩:∃ X,X1.alloc (.cells #[.string ⟨#[]⟩,.slice none 0 0,.slice none 0 0,.slice none 0 0,.slice none 0 0,.slice none 0 0,.slice none 0 0,.slice none 0 0,.slice none 0 0] 32)=X:=⟨_,rfl⟩
 obtain ⟨b0,hb0⟩:∃ b,w.heap.size=b:=⟨_,rfl⟩
 obtain ⟨b1,hb1⟩:∃ b,b0+1=b:=⟨_,rfl⟩
 obtain ⟨b2,hb2⟩:∃ b,b1+1=b:=⟨_,rfl⟩
 have z0:X0.heap.size=b1:=by rw [← hX0,World.size_alloc,hb0,hb1]
 have z1:X1.heap.size=b2:=by rw [← hX1,World.size_alloc,z0,hb2]
 have z2:X.heap.size=b2+1:=by rw [← hX,World.size_alloc,z1]
 have k0:X0.heap[b0]?=some (.cells #[.string s.title,.slice A1 s.kinds.length c1,.slice A2 s.members.length c2,.slice A3 s.preds.length c3,.slice A4 s.classes.length c4,.slice A5 s.sources.length c5,.slice A6 s.rules.length c6,.slice A7 s.excepts.length c7,.slice A8 s.totals.length c8] 32 (0,0)):=by rw [← hX0,← hb0];exact heap_alloc_new w _
 have w0:Below w.heap.size w X0:=by rw [← hX0];exact (Below.refl _ w).alloc (Nat.le_refl _) _
 have w1:Below X0.heap.size X0 X1:=by rw [← hX1];exact (Below.refl _ X0).alloc (Nat.le_refl _) _
 have w2:Below X1.heap.size X1 X:=by rw [← hX];exact (Below.refl _ X1).alloc (Nat.le_refl _) _
 have k1:X1.heap[b1]?=some (.cells #[.string t.title,.slice C1 t.kinds.length e1,.slice C2 t.members.length e2,.slice C3 t.preds.length e3,.slice C4 t.classes.length e4,.slice C5 t.sources.length e5,.slice C6 t.rules.length e6,.slice C7 t.excepts.length e7,.slice C8 t.totals.length e8] 32 (0,0)):=by rw [← hX1,← z0];exact heap_alloc_new X0 _
 have k2:X.heap[b2]?=some (.cells #[.string ⟨#[]⟩,.slice none 0 0,.slice none 0 0,.slice none 0 0,.slice none 0 0,.slice none 0 0,.slice none 0 0,.slice none 0 0,.slice none 0 0] 32 (0,0)):=by rw [← hX,← z1];exact heap_alloc_new X1 _
 have HWX:=Lib.hid (show Below w.heap.size w X from w0.trans ((w1.mono w0.size).trans (w2.mono (Nat.le_trans w0.size w1.size))))
 have K1:=Lib.hid ((w2.block b1 (blk_lt k1)).trans k1)
 have K2:=Lib.hid k2
 have k9:=(w2.block b0 (by omega)).trans ((w1.block b0 (by omega)).trans k0)
 have HZ:=Lib.hid (show X.heap.size=b2+1∧w.heap.size≤b1∧b1<b2 from ⟨z2,by omega,by omega⟩)
 have y0:=blk_cell (v:=.string s.title) k9 0 rfl
 have y1:=blk_cell (v:=.slice A1 s.kinds.length c1) k9 1 rfl
 have y2:=blk_cell (v:=.slice A2 s.members.length c2) k9 2 rfl
 have y3:=blk_cell (v:=.slice A3 s.preds.length c3) k9 3 rfl
 have y4:=blk_cell (v:=.slice A4 s.classes.length c4) k9 4 rfl
 have y5:=blk_cell (v:=.slice A5 s.sources.length c5) k9 5 rfl
 have y6:=blk_cell (v:=.slice A6 s.rules.length c6) k9 6 rfl
 have y7:=blk_cell (v:=.slice A7 s.excepts.length c7) k9 7 rfl
 have y8:=blk_cell (v:=.slice A8 s.totals.length c8) k9 8 rfl
 have HC:=Lib.hid (copy_statute s A1 c1 A2 c2 A3 c3 A4 c4 A5 c5 A6 c6 A7 c7 A8 c8 X (Kd.C_below g1 HWX.out) (Kd.C_below g2 HWX.out) (Kd.C_below g3 HWX.out) (Kd.C_below g4 HWX.out) (Kd.C_below g5 HWX.out) (Kd.C_below g6 HWX.out) (Kd.C_below g7 HWX.out) (Kd.C_below g8 HWX.out) hs hm)
 have HN0:=Lib.hid hb0
 have HN1:=Lib.hid z0
 have HN2:=Lib.hid z1
 clear hs hm h1 h2 hlm g1 q1 g2 q2 g3 q3 g4 q4 g5 q5 g6 q6 g7 q7 g8 q8 z0 z1 z2 k0 w0 w1 w2 k1 k2 k9 hb0 hb1 hb2
 go_enter Tryz.func14,Tryz.ntmps14
 go_upto_region 1 with fail
 try rw [hX0]
 try rw [hX1]
 try rw [hX]
 try rw [HN0.out]
 try rw [HN1.out]
 try rw [HN2.out]
 clear hX0 hX1 hX
 go_upto_region 2 with (first | (go_at_call 15;((with_reducible refine HC.out.mono ?_);rintro e w1 ⟨y,rfl,hy,hb⟩;obtain ⟨own,⟨u1,u2,u3,u4,u5,u6,u7,u8⟩,rfl,hlm,r1,r2,r3,r4,r5,r6,r7,r8⟩:=hy;obtain ⟨B1,d1,rfl⟩:=Kd.R_slice r1;have R1:=Lib.hid r1;obtain ⟨B2,d2,rfl⟩:=Kd.R_slice r2;have R2:=Lib.hid r2;obtain ⟨B3,d3,rfl⟩:=Kd.R_slice r3;have R3:=Lib.hid r3;obtain ⟨B4,d4,rfl⟩:=Kd.R_slice r4;have R4:=Lib.hid r4;obtain ⟨B5,d5,rfl⟩:=Kd.R_slice r5;have R5:=Lib.hid r5;obtain ⟨B6,d6,rfl⟩:=Kd.R_slice r6;have R6:=Lib.hid r6;obtain ⟨B7,d7,rfl⟩:=Kd.R_slice r7;have R7:=Lib.hid r7;obtain ⟨B8,d8,rfl⟩:=Kd.R_slice r8;have R8:=Lib.hid r8;have HB1:=Lib.hid hb;clear hb hlm r1 r2 r3 r4 r5 r6 r7 r8)))
 obtain ⟨Y0,hY⟩:∃ Y,w1.alloc (.cells #[.string s.title,.slice B1 s.kinds.length d1,.slice B2 s.members.length d2,.slice B3 s.preds.length d3,.slice B4 s.classes.length d4,.slice B5 s.sources.length d5,.slice B6 s.rules.length d6,.slice B7 s.excepts.length d7,.slice B8 s.totals.length d8] 32)=Y:=⟨_,rfl⟩
 obtain ⟨b3,hb3⟩:∃ b,w1.heap.size=b:=⟨_,rfl⟩
 have HY0:=Lib.hid (show Below w1.heap.size w1 Y0 by rw [← hY];exact (Below.refl _ w1).alloc (Nat.le_refl _) _)
 have J0:=Lib.hid (show Jo w X.heap.size b1 b2 b3 #[.string t.title,.slice C1 t.kinds.length e1,.slice C2 t.members.length e2,.slice C3 t.preds.length e3,.slice C4 t.classes.length e4,.slice C5 t.sources.length e5,.slice C6 t.rules.length e6,.slice C7 t.excepts.length e7,.slice C8 t.totals.length e8] #[.string ⟨#[]⟩,.slice none 0 0,.slice none 0 0,.slice none 0 0,.slice none 0 0,.slice none 0 0,.slice none 0 0,.slice none 0 0,.slice none 0 0] #[.string s.title,.slice B1 s.kinds.length d1,.slice B2 s.members.length d2,.slice B3 s.preds.length d3,.slice B4 s.classes.length d4,.slice B5 s.sources.length d5,.slice B6 s.rules.length d6,.slice B7 s.excepts.length d7,.slice B8 s.totals.length d8] Y0 by
  have hz:=HZ.out
  have hx:=HB1.out.size
  refine ⟨hz.2.1,hz.2.2,by omega,by omega,HWX.out.trans ((HB1.out.mono HWX.out.size).trans (HY0.out.mono (Nat.le_trans HWX.out.size HB1.out.size))),?_,?_,?_⟩
  ·exact (HY0.out.block b1 (by omega)).trans ((HB1.out.block b1 (by omega)).trans K1.out)
  ·exact (HY0.out.block b2 (by omega)).trans ((HB1.out.block b2 (by omega)).trans K2.out)
  ·rw [← hY,← hb3];exact heap_alloc_new w1 _)
 have R1:=Lib.hid (show Kd.R Kd.string 9 Y0 0 (Jo.SR X.heap.size b3 own 1) (.slice B1 s.kinds.length d1) s.kinds from Kd.R_lower (Kd.R_mono (Kd.R_below (Kd.R_bound R1.out) HY0.out) (fun k hk=>⟨hk.1,by rw [← hb3];exact hk.2.2.1⟩)) (Nat.zero_le _))
 have R2:=Lib.hid (show Kd.R k54 54 Y0 0 (Jo.SR X.heap.size b3 own 2) (.slice B2 s.members.length d2) s.members from Kd.R_lower (Kd.R_mono (Kd.R_below (Kd.R_bound R2.out) HY0.out) (fun k hk=>⟨hk.1,by rw [← hb3];exact hk.2.2.1⟩)) (Nat.zero_le _))
 have R3:=Lib.hid (show Kd.R k85 85 Y0 0 (Jo.SR X.heap.size b3 own 3) (.slice B3 s.preds.length d3) s.preds from Kd.R_lower (Kd.R_mono (Kd.R_below (Kd.R_bound R3.out) HY0.out) (fun k hk=>⟨hk.1,by rw [← hb3];exact hk.2.2.1⟩)) (Nat.zero_le _))
 have R4:=Lib.hid (show Kd.R (Kd.slice 9 Kd.string) 23 Y0 0 (Jo.SR X.heap.size b3 own 4) (.slice B4 s.classes.length d4) s.classes from Kd.R_lower (Kd.R_mono (Kd.R_below (Kd.R_bound R4.out) HY0.out) (fun k hk=>⟨hk.1,by rw [← hb3];exact hk.2.2.1⟩)) (Nat.zero_le _))
 have R5:=Lib.hid (show Kd.R k117 117 Y0 0 (Jo.SR X.heap.size b3 own 5) (.slice B5 s.sources.length d5) s.sources from Kd.R_lower (Kd.R_mono (Kd.R_below (Kd.R_bound R5.out) HY0.out) (fun k hk=>⟨hk.1,by rw [← hb3];exact hk.2.2.1⟩)) (Nat.zero_le _))
 have R6:=Lib.hid (show Kd.R k93 93 Y0 0 (Jo.SR X.heap.size b3 own 6) (.slice B6 s.rules.length d6) s.rules from Kd.R_lower (Kd.R_mono (Kd.R_below (Kd.R_bound R6.out) HY0.out) (fun k hk=>⟨hk.1,by rw [← hb3];exact hk.2.2.1⟩)) (Nat.zero_le _))
 have R7:=Lib.hid (show Kd.R k120 120 Y0 0 (Jo.SR X.heap.size b3 own 7) (.slice B7 s.excepts.length d7) s.excepts from Kd.R_lower (Kd.R_mono (Kd.R_below (Kd.R_bound R7.out) HY0.out) (fun k hk=>⟨hk.1,by rw [← hb3];exact hk.2.2.1⟩)) (Nat.zero_le _))
 have R8:=Lib.hid (show Kd.R k104 104 Y0 0 (Jo.SR X.heap.size b3 own 8) (.slice B8 s.totals.length d8) s.totals from Kd.R_lower (Kd.R_mono (Kd.R_below (Kd.R_bound R8.out) HY0.out) (fun k hk=>⟨hk.1,by rw [← hb3];exact hk.2.2.1⟩)) (Nat.zero_le _))
 try rw [hY]
 try rw [hb3]
 clear hY hb3 K1 K2 HC y0 y1 y2 y3 y4 y5 y6 y7 y8
 have y1:=blk_cell (v:=.slice B1 s.kinds.length d1) J0.out.h3 1 rfl
 have y2:=blk_cell (v:=.slice C1 t.kinds.length e1) J0.out.h1 1 rfl
 have HR:=Lib.hid (rows_of Q1.out J0.out.hb)
 go_upto_region 3 with (first | (at_builtin;refine Kd.R_append_rows Kd.string (w0:=Y0) 0 rfl (.tmp 9) (.tmp 11) 23 9 (.string ⟨#[]⟩) 16 rfl Tryz.underlying23 info_st rfl (by decide) (by decide) (.slice B1 s.kinds.length d1) s.kinds t.kinds C1 t.kinds.length e1 (Jo.OK w.heap.size X.heap.size b3 own 1) (fun k=>k<w.heap.size) rfl rfl (Kd.R_mono R1.out (fun k hk=>.inr (.inl hk))) HR.out (fun _ _ h=>h) (fun k hk=>⟨.inl hk,fun e=>by have h1:=(R1.out.1 k e.symm).1.1;have:=J0.out.o1;have:=J0.out.o2;have:=J0.out.o3;omega⟩) (fun k hk=>.inr (.inr (Nat.lt_of_lt_of_le (blk_lt J0.out.h3) hk))) (Below.refl _ _) (Nat.zero_le _) HL.out.1 ?_;intro v3 w3 hs3 hb3 hg3 hat3;obtain ⟨G1,h1,rfl⟩:=Kd.R_slice hs3;rw [HM1.out] at hs3 ⊢;have HV:=Lib.hid hs3;have HG:=Lib.hid hg3;have K:=Lib.hid (J0.out.grown hg3 (fun k hk=>⟨(R1.out.1 k hk).1.1,(R1.out.1 k hk).2⟩));have z1:=blk_cell (v:=.slice B1 s.kinds.length d1) K.out.h3 1 rfl;have f1:=blk_free K.out.h3 1;clear hs3 hb3 hg3 hat3))
 have L:=Lib.hid (K.out.st3 (us:=#[.string s.title,.slice G1 N1 h1,.slice B2 s.members.length d2,.slice B3 s.preds.length d3,.slice B4 s.classes.length d4,.slice B5 s.sources.length d5,.slice B6 s.rules.length d6,.slice B7 s.excepts.length d7,.slice B8 s.totals.length d8]) 1 (.slice G1 N1 h1) rfl)
 have V1:=Lib.hid (Kd.R_far HV.out (fun k hk=>(Jo.ok_ne K.out k hk).1) (.slice G1 N1 h1) (p:=⟨b3,1,none⟩))
 have S2:=Lib.hid (Jo.keep R2.out HG.out 1 (.slice G1 N1 h1) (Jo.sr_sr J0.out (by decide) (R1.out.1)))
 have S3:=Lib.hid (Jo.keep R3.out HG.out 1 (.slice G1 N1 h1) (Jo.sr_sr J0.out (by decide) (R1.out.1)))
 have S4:=Lib.hid (Jo.keep R4.out HG.out 1 (.slice G1 N1 h1) (Jo.sr_sr J0.out (by decide) (R1.out.1)))
 have S5:=Lib.hid (Jo.keep R5.out HG.out 1 (.slice G1 N1 h1) (Jo.sr_sr J0.out (by decide) (R1.out.1)))
 have S6:=Lib.hid (Jo.keep R6.out HG.out 1 (.slice G1 N1 h1) (Jo.sr_sr J0.out (by decide) (R1.out.1)))
 have S7:=Lib.hid (Jo.keep R7.out HG.out 1 (.slice G1 N1 h1) (Jo.sr_sr J0.out (by decide) (R1.out.1)))
 have S8:=Lib.hid (Jo.keep R8.out HG.out 1 (.slice G1 N1 h1) (Jo.sr_sr J0.out (by decide) (R1.out.1)))
 obtain ⟨Y1,hY⟩:∃ Y,w3.setCell ⟨b3,1,none⟩ (.slice G1 N1 h1)=Y:=⟨_,rfl⟩
 try rw [hY]
 rw [hY] at L V1 S2 S3 S4 S5 S6 S7 S8
 have R2:=Lib.hid S2.out
 have R3:=Lib.hid S3.out
 have R4:=Lib.hid S4.out
 have R5:=Lib.hid S5.out
 have R6:=Lib.hid S6.out
 have R7:=Lib.hid S7.out
 have R8:=Lib.hid S8.out
 have J1:=Lib.hid L.out
 clear hY L HV HG K HR y1 y2 z1 f1 R1 S2 S3 S4 S5 S6 S7 S8 J0
 have y1:=blk_cell (v:=.slice B2 s.members.length d2) J1.out.h3 2 rfl
 have y2:=blk_cell (v:=.slice C2 t.members.length e2) J1.out.h1 2 rfl
 have HR:=Lib.hid (rows_of Q2.out J1.out.hb)
 go_upto_region 4 with (first | (at_builtin;refine Kd.R_append_rows k54 (w0:=Y1) 0 rfl (.tmp 15) (.tmp 17) 24 54 (.agg #[.string ⟨#[]⟩,.string ⟨#[]⟩]) 32 rfl Tryz.underlying24 info_mb rfl (by decide) (by decide) (.slice B2 s.members.length d2) s.members t.members C2 t.members.length e2 (Jo.OK w.heap.size X.heap.size b3 own 2) (fun k=>k<w.heap.size) rfl rfl (Kd.R_mono R2.out (fun k hk=>.inr (.inl hk))) HR.out (fun _ _ h=>h) (fun k hk=>⟨.inl hk,fun e=>by have h1:=(R2.out.1 k e.symm).1.1;have:=J1.out.o1;have:=J1.out.o2;have:=J1.out.o3;omega⟩) (fun k hk=>.inr (.inr (Nat.lt_of_lt_of_le (blk_lt J1.out.h3) hk))) (Below.refl _ _) (Nat.zero_le _) HL.out.2.1 ?_;intro v3 w3 hs3 hb3 hg3 hat3;obtain ⟨G2,h2,rfl⟩:=Kd.R_slice hs3;rw [HM2.out] at hs3 ⊢;have HV:=Lib.hid hs3;have HG:=Lib.hid hg3;have K:=Lib.hid (J1.out.grown hg3 (fun k hk=>⟨(R2.out.1 k hk).1.1,(R2.out.1 k hk).2⟩));have z1:=blk_cell (v:=.slice B2 s.members.length d2) K.out.h3 2 rfl;have f1:=blk_free K.out.h3 2;clear hs3 hb3 hg3 hat3))
 have L:=Lib.hid (K.out.st3 (us:=#[.string s.title,.slice G1 N1 h1,.slice G2 N2 h2,.slice B3 s.preds.length d3,.slice B4 s.classes.length d4,.slice B5 s.sources.length d5,.slice B6 s.rules.length d6,.slice B7 s.excepts.length d7,.slice B8 s.totals.length d8]) 2 (.slice G2 N2 h2) rfl)
 have V1:=Lib.hid (Jo.keep V1.out HG.out 2 (.slice G2 N2 h2) (Jo.ok_sr J1.out (by decide) (R2.out.1)))
 have V2:=Lib.hid (Kd.R_far HV.out (fun k hk=>(Jo.ok_ne K.out k hk).1) (.slice G2 N2 h2) (p:=⟨b3,2,none⟩))
 have S3:=Lib.hid (Jo.keep R3.out HG.out 2 (.slice G2 N2 h2) (Jo.sr_sr J1.out (by decide) (R2.out.1)))
 have S4:=Lib.hid (Jo.keep R4.out HG.out 2 (.slice G2 N2 h2) (Jo.sr_sr J1.out (by decide) (R2.out.1)))
 have S5:=Lib.hid (Jo.keep R5.out HG.out 2 (.slice G2 N2 h2) (Jo.sr_sr J1.out (by decide) (R2.out.1)))
 have S6:=Lib.hid (Jo.keep R6.out HG.out 2 (.slice G2 N2 h2) (Jo.sr_sr J1.out (by decide) (R2.out.1)))
 have S7:=Lib.hid (Jo.keep R7.out HG.out 2 (.slice G2 N2 h2) (Jo.sr_sr J1.out (by decide) (R2.out.1)))
 have S8:=Lib.hid (Jo.keep R8.out HG.out 2 (.slice G2 N2 h2) (Jo.sr_sr J1.out (by decide) (R2.out.1)))
 obtain ⟨Y2,hY⟩:∃ Y,w3.setCell ⟨b3,2,none⟩ (.slice G2 N2 h2)=Y:=⟨_,rfl⟩
 try rw [hY]
 rw [hY] at L V1 V2 S3 S4 S5 S6 S7 S8
 have R3:=Lib.hid S3.out
 have R4:=Lib.hid S4.out
 have R5:=Lib.hid S5.out
 have R6:=Lib.hid S6.out
 have R7:=Lib.hid S7.out
 have R8:=Lib.hid S8.out
 have J2:=Lib.hid L.out
 clear hY L HV HG K HR y1 y2 z1 f1 R2 S3 S4 S5 S6 S7 S8 J1
 have y1:=blk_cell (v:=.slice B3 s.preds.length d3) J2.out.h3 3 rfl
 have y2:=blk_cell (v:=.slice C3 t.preds.length e3) J2.out.h1 3 rfl
 have HR:=Lib.hid (rows_of Q3.out J2.out.hb)
 go_upto_region 5 with (first | (at_builtin;refine Kd.R_append_rows k85 (w0:=Y2) 0 rfl (.tmp 21) (.tmp 23) 25 85 (.agg #[.string ⟨#[]⟩,.int .i64 0,.slice none 0 0,.slice none 0 0]) 72 rfl Tryz.underlying25 info_pd rfl (by decide) (by decide) (.slice B3 s.preds.length d3) s.preds t.preds C3 t.preds.length e3 (Jo.OK w.heap.size X.heap.size b3 own 3) (fun k=>k<w.heap.size) rfl rfl (Kd.R_mono R3.out (fun k hk=>.inr (.inl hk))) HR.out (fun _ _ h=>h) (fun k hk=>⟨.inl hk,fun e=>by have h1:=(R3.out.1 k e.symm).1.1;have:=J2.out.o1;have:=J2.out.o2;have:=J2.out.o3;omega⟩) (fun k hk=>.inr (.inr (Nat.lt_of_lt_of_le (blk_lt J2.out.h3) hk))) (Below.refl _ _) (Nat.zero_le _) HL.out.2.2.1 ?_;intro v3 w3 hs3 hb3 hg3 hat3;obtain ⟨G3,h3,rfl⟩:=Kd.R_slice hs3;rw [HM3.out] at hs3 ⊢;have HV:=Lib.hid hs3;have HG:=Lib.hid hg3;have K:=Lib.hid (J2.out.grown hg3 (fun k hk=>⟨(R3.out.1 k hk).1.1,(R3.out.1 k hk).2⟩));have z1:=blk_cell (v:=.slice B3 s.preds.length d3) K.out.h3 3 rfl;have f1:=blk_free K.out.h3 3;clear hs3 hb3 hg3 hat3))
 have L:=Lib.hid (K.out.st3 (us:=#[.string s.title,.slice G1 N1 h1,.slice G2 N2 h2,.slice G3 N3 h3,.slice B4 s.classes.length d4,.slice B5 s.sources.length d5,.slice B6 s.rules.length d6,.slice B7 s.excepts.length d7,.slice B8 s.totals.length d8]) 3 (.slice G3 N3 h3) rfl)
 have V1:=Lib.hid (Jo.keep V1.out HG.out 3 (.slice G3 N3 h3) (Jo.ok_sr J2.out (by decide) (R3.out.1)))
 have V2:=Lib.hid (Jo.keep V2.out HG.out 3 (.slice G3 N3 h3) (Jo.ok_sr J2.out (by decide) (R3.out.1)))
 have V3:=Lib.hid (Kd.R_far HV.out (fun k hk=>(Jo.ok_ne K.out k hk).1) (.slice G3 N3 h3) (p:=⟨b3,3,none⟩))
 have S4:=Lib.hid (Jo.keep R4.out HG.out 3 (.slice G3 N3 h3) (Jo.sr_sr J2.out (by decide) (R3.out.1)))
 have S5:=Lib.hid (Jo.keep R5.out HG.out 3 (.slice G3 N3 h3) (Jo.sr_sr J2.out (by decide) (R3.out.1)))
 have S6:=Lib.hid (Jo.keep R6.out HG.out 3 (.slice G3 N3 h3) (Jo.sr_sr J2.out (by decide) (R3.out.1)))
 have S7:=Lib.hid (Jo.keep R7.out HG.out 3 (.slice G3 N3 h3) (Jo.sr_sr J2.out (by decide) (R3.out.1)))
 have S8:=Lib.hid (Jo.keep R8.out HG.out 3 (.slice G3 N3 h3) (Jo.sr_sr J2.out (by decide) (R3.out.1)))
 obtain ⟨Y3,hY⟩:∃ Y,w3.setCell ⟨b3,3,none⟩ (.slice G3 N3 h3)=Y:=⟨_,rfl⟩
 try rw [hY]
 rw [hY] at L V1 V2 V3 S4 S5 S6 S7 S8
 have R4:=Lib.hid S4.out
 have R5:=Lib.hid S5.out
 have R6:=Lib.hid S6.out
 have R7:=Lib.hid S7.out
 have R8:=Lib.hid S8.out
 have J3:=Lib.hid L.out
 clear hY L HV HG K HR y1 y2 z1 f1 R3 S4 S5 S6 S7 S8 J2
 have y1:=blk_cell (v:=.slice B4 s.classes.length d4) J3.out.h3 4 rfl
 have y2:=blk_cell (v:=.slice C4 t.classes.length e4) J3.out.h1 4 rfl
 have HR:=Lib.hid (rows_of Q4.out J3.out.hb)
 go_upto_region 6 with (first | (at_builtin;refine Kd.R_append_rows (Kd.slice 9 Kd.string) (w0:=Y3) 0 rfl (.tmp 27) (.tmp 29) 26 23 (.slice none 0 0) 24 rfl Tryz.underlying26 info_sl rfl (by decide) (by decide) (.slice B4 s.classes.length d4) s.classes t.classes C4 t.classes.length e4 (Jo.OK w.heap.size X.heap.size b3 own 4) (fun k=>k<w.heap.size) rfl rfl (Kd.R_mono R4.out (fun k hk=>.inr (.inl hk))) HR.out (fun _ _ h=>h) (fun k hk=>⟨.inl hk,fun e=>by have h1:=(R4.out.1 k e.symm).1.1;have:=J3.out.o1;have:=J3.out.o2;have:=J3.out.o3;omega⟩) (fun k hk=>.inr (.inr (Nat.lt_of_lt_of_le (blk_lt J3.out.h3) hk))) (Below.refl _ _) (Nat.zero_le _) HL.out.2.2.2.1 ?_;intro v3 w3 hs3 hb3 hg3 hat3;obtain ⟨G4,h4,rfl⟩:=Kd.R_slice hs3;rw [HM4.out] at hs3 ⊢;have HV:=Lib.hid hs3;have HG:=Lib.hid hg3;have K:=Lib.hid (J3.out.grown hg3 (fun k hk=>⟨(R4.out.1 k hk).1.1,(R4.out.1 k hk).2⟩));have z1:=blk_cell (v:=.slice B4 s.classes.length d4) K.out.h3 4 rfl;have f1:=blk_free K.out.h3 4;clear hs3 hb3 hg3 hat3))
 have L:=Lib.hid (K.out.st3 (us:=#[.string s.title,.slice G1 N1 h1,.slice G2 N2 h2,.slice G3 N3 h3,.slice G4 N4 h4,.slice B5 s.sources.length d5,.slice B6 s.rules.length d6,.slice B7 s.excepts.length d7,.slice B8 s.totals.length d8]) 4 (.slice G4 N4 h4) rfl)
 have V1:=Lib.hid (Jo.keep V1.out HG.out 4 (.slice G4 N4 h4) (Jo.ok_sr J3.out (by decide) (R4.out.1)))
 have V2:=Lib.hid (Jo.keep V2.out HG.out 4 (.slice G4 N4 h4) (Jo.ok_sr J3.out (by decide) (R4.out.1)))
 have V3:=Lib.hid (Jo.keep V3.out HG.out 4 (.slice G4 N4 h4) (Jo.ok_sr J3.out (by decide) (R4.out.1)))
 have V4:=Lib.hid (Kd.R_far HV.out (fun k hk=>(Jo.ok_ne K.out k hk).1) (.slice G4 N4 h4) (p:=⟨b3,4,none⟩))
 have S5:=Lib.hid (Jo.keep R5.out HG.out 4 (.slice G4 N4 h4) (Jo.sr_sr J3.out (by decide) (R4.out.1)))
 have S6:=Lib.hid (Jo.keep R6.out HG.out 4 (.slice G4 N4 h4) (Jo.sr_sr J3.out (by decide) (R4.out.1)))
 have S7:=Lib.hid (Jo.keep R7.out HG.out 4 (.slice G4 N4 h4) (Jo.sr_sr J3.out (by decide) (R4.out.1)))
 have S8:=Lib.hid (Jo.keep R8.out HG.out 4 (.slice G4 N4 h4) (Jo.sr_sr J3.out (by decide) (R4.out.1)))
 obtain ⟨Y4,hY⟩:∃ Y,w3.setCell ⟨b3,4,none⟩ (.slice G4 N4 h4)=Y:=⟨_,rfl⟩
 try rw [hY]
 rw [hY] at L V1 V2 V3 V4 S5 S6 S7 S8
 have R5:=Lib.hid S5.out
 have R6:=Lib.hid S6.out
 have R7:=Lib.hid S7.out
 have R8:=Lib.hid S8.out
 have J4:=Lib.hid L.out
 clear hY L HV HG K HR y1 y2 z1 f1 R4 S5 S6 S7 S8 J3
 have y1:=blk_cell (v:=.slice B5 s.sources.length d5) J4.out.h3 5 rfl
 have y2:=blk_cell (v:=.slice C5 t.sources.length e5) J4.out.h1 5 rfl
 have HR:=Lib.hid (rows_of Q5.out J4.out.hb)
 go_upto_region 7 with (first | (at_builtin;refine Kd.R_append_rows k117 (w0:=Y4) 0 rfl (.tmp 33) (.tmp 35) 27 117 (.agg #[.string ⟨#[]⟩,.int .i64 0]) 24 rfl Tryz.underlying27 info_sc rfl (by decide) (by decide) (.slice B5 s.sources.length d5) s.sources t.sources C5 t.sources.length e5 (Jo.OK w.heap.size X.heap.size b3 own 5) (fun k=>k<w.heap.size) rfl rfl (Kd.R_mono R5.out (fun k hk=>.inr (.inl hk))) HR.out (fun _ _ h=>h) (fun k hk=>⟨.inl hk,fun e=>by have h1:=(R5.out.1 k e.symm).1.1;have:=J4.out.o1;have:=J4.out.o2;have:=J4.out.o3;omega⟩) (fun k hk=>.inr (.inr (Nat.lt_of_lt_of_le (blk_lt J4.out.h3) hk))) (Below.refl _ _) (Nat.zero_le _) HL.out.2.2.2.2.1 ?_;intro v3 w3 hs3 hb3 hg3 hat3;obtain ⟨G5,h5,rfl⟩:=Kd.R_slice hs3;rw [HM5.out] at hs3 ⊢;have HV:=Lib.hid hs3;have HG:=Lib.hid hg3;have K:=Lib.hid (J4.out.grown hg3 (fun k hk=>⟨(R5.out.1 k hk).1.1,(R5.out.1 k hk).2⟩));have z1:=blk_cell (v:=.slice B5 s.sources.length d5) K.out.h3 5 rfl;have f1:=blk_free K.out.h3 5;clear hs3 hb3 hg3 hat3))
 have L:=Lib.hid (K.out.st3 (us:=#[.string s.title,.slice G1 N1 h1,.slice G2 N2 h2,.slice G3 N3 h3,.slice G4 N4 h4,.slice G5 N5 h5,.slice B6 s.rules.length d6,.slice B7 s.excepts.length d7,.slice B8 s.totals.length d8]) 5 (.slice G5 N5 h5) rfl)
 have V1:=Lib.hid (Jo.keep V1.out HG.out 5 (.slice G5 N5 h5) (Jo.ok_sr J4.out (by decide) (R5.out.1)))
 have V2:=Lib.hid (Jo.keep V2.out HG.out 5 (.slice G5 N5 h5) (Jo.ok_sr J4.out (by decide) (R5.out.1)))
 have V3:=Lib.hid (Jo.keep V3.out HG.out 5 (.slice G5 N5 h5) (Jo.ok_sr J4.out (by decide) (R5.out.1)))
 have V4:=Lib.hid (Jo.keep V4.out HG.out 5 (.slice G5 N5 h5) (Jo.ok_sr J4.out (by decide) (R5.out.1)))
 have V5:=Lib.hid (Kd.R_far HV.out (fun k hk=>(Jo.ok_ne K.out k hk).1) (.slice G5 N5 h5) (p:=⟨b3,5,none⟩))
 have S6:=Lib.hid (Jo.keep R6.out HG.out 5 (.slice G5 N5 h5) (Jo.sr_sr J4.out (by decide) (R5.out.1)))
 have S7:=Lib.hid (Jo.keep R7.out HG.out 5 (.slice G5 N5 h5) (Jo.sr_sr J4.out (by decide) (R5.out.1)))
 have S8:=Lib.hid (Jo.keep R8.out HG.out 5 (.slice G5 N5 h5) (Jo.sr_sr J4.out (by decide) (R5.out.1)))
 obtain ⟨Y5,hY⟩:∃ Y,w3.setCell ⟨b3,5,none⟩ (.slice G5 N5 h5)=Y:=⟨_,rfl⟩
 try rw [hY]
 rw [hY] at L V1 V2 V3 V4 V5 S6 S7 S8
 have R6:=Lib.hid S6.out
 have R7:=Lib.hid S7.out
 have R8:=Lib.hid S8.out
 have J5:=Lib.hid L.out
 clear hY L HV HG K HR y1 y2 z1 f1 R5 S6 S7 S8 J4
 have y1:=blk_cell (v:=.slice B6 s.rules.length d6) J5.out.h3 6 rfl
 have y2:=blk_cell (v:=.slice C6 t.rules.length e6) J5.out.h1 6 rfl
 have HR:=Lib.hid (rows_of Q6.out J5.out.hb)
 go_upto_region 8 with (first | (at_builtin;refine Kd.R_append_rows k93 (w0:=Y5) 0 rfl (.tmp 39) (.tmp 41) 28 93 (.agg #[.string ⟨#[]⟩,.string ⟨#[]⟩,.int .i64 0,.int .i64 0,.slice none 0 0,.int .i64 0,.bool false,.string ⟨#[]⟩,.slice none 0 0,.bool false,.int .i64 0]) 144 rfl Tryz.underlying28 info_rl rfl (by decide) (by decide) (.slice B6 s.rules.length d6) s.rules t.rules C6 t.rules.length e6 (Jo.OK w.heap.size X.heap.size b3 own 6) (fun k=>k<w.heap.size) rfl rfl (Kd.R_mono R6.out (fun k hk=>.inr (.inl hk))) HR.out (fun _ _ h=>h) (fun k hk=>⟨.inl hk,fun e=>by have h1:=(R6.out.1 k e.symm).1.1;have:=J5.out.o1;have:=J5.out.o2;have:=J5.out.o3;omega⟩) (fun k hk=>.inr (.inr (Nat.lt_of_lt_of_le (blk_lt J5.out.h3) hk))) (Below.refl _ _) (Nat.zero_le _) HL.out.2.2.2.2.2.1 ?_;intro v3 w3 hs3 hb3 hg3 hat3;obtain ⟨G6,h6,rfl⟩:=Kd.R_slice hs3;rw [HM6.out] at hs3 ⊢;have HV:=Lib.hid hs3;have HG:=Lib.hid hg3;have K:=Lib.hid (J5.out.grown hg3 (fun k hk=>⟨(R6.out.1 k hk).1.1,(R6.out.1 k hk).2⟩));have z1:=blk_cell (v:=.slice B6 s.rules.length d6) K.out.h3 6 rfl;have f1:=blk_free K.out.h3 6;clear hs3 hb3 hg3 hat3))
 have L:=Lib.hid (K.out.st3 (us:=#[.string s.title,.slice G1 N1 h1,.slice G2 N2 h2,.slice G3 N3 h3,.slice G4 N4 h4,.slice G5 N5 h5,.slice G6 N6 h6,.slice B7 s.excepts.length d7,.slice B8 s.totals.length d8]) 6 (.slice G6 N6 h6) rfl)
 have V1:=Lib.hid (Jo.keep V1.out HG.out 6 (.slice G6 N6 h6) (Jo.ok_sr J5.out (by decide) (R6.out.1)))
 have V2:=Lib.hid (Jo.keep V2.out HG.out 6 (.slice G6 N6 h6) (Jo.ok_sr J5.out (by decide) (R6.out.1)))
 have V3:=Lib.hid (Jo.keep V3.out HG.out 6 (.slice G6 N6 h6) (Jo.ok_sr J5.out (by decide) (R6.out.1)))
 have V4:=Lib.hid (Jo.keep V4.out HG.out 6 (.slice G6 N6 h6) (Jo.ok_sr J5.out (by decide) (R6.out.1)))
 have V5:=Lib.hid (Jo.keep V5.out HG.out 6 (.slice G6 N6 h6) (Jo.ok_sr J5.out (by decide) (R6.out.1)))
 have V6:=Lib.hid (Kd.R_far HV.out (fun k hk=>(Jo.ok_ne K.out k hk).1) (.slice G6 N6 h6) (p:=⟨b3,6,none⟩))
 have S7:=Lib.hid (Jo.keep R7.out HG.out 6 (.slice G6 N6 h6) (Jo.sr_sr J5.out (by decide) (R6.out.1)))
 have S8:=Lib.hid (Jo.keep R8.out HG.out 6 (.slice G6 N6 h6) (Jo.sr_sr J5.out (by decide) (R6.out.1)))
 obtain ⟨Y6,hY⟩:∃ Y,w3.setCell ⟨b3,6,none⟩ (.slice G6 N6 h6)=Y:=⟨_,rfl⟩
 try rw [hY]
 rw [hY] at L V1 V2 V3 V4 V5 V6 S7 S8
 have R7:=Lib.hid S7.out
 have R8:=Lib.hid S8.out
 have J6:=Lib.hid L.out
 clear hY L HV HG K HR y1 y2 z1 f1 R6 S7 S8 J5
 have y1:=blk_cell (v:=.slice B7 s.excepts.length d7) J6.out.h3 7 rfl
 have y2:=blk_cell (v:=.slice C7 t.excepts.length e7) J6.out.h1 7 rfl
 have HR:=Lib.hid (rows_of Q7.out J6.out.hb)
 go_upto_region 9 with (first | (at_builtin;refine Kd.R_append_rows k120 (w0:=Y6) 0 rfl (.tmp 45) (.tmp 47) 29 120 (.agg #[.string ⟨#[]⟩,.string ⟨#[]⟩]) 32 rfl Tryz.underlying29 info_ex rfl (by decide) (by decide) (.slice B7 s.excepts.length d7) s.excepts t.excepts C7 t.excepts.length e7 (Jo.OK w.heap.size X.heap.size b3 own 7) (fun k=>k<w.heap.size) rfl rfl (Kd.R_mono R7.out (fun k hk=>.inr (.inl hk))) HR.out (fun _ _ h=>h) (fun k hk=>⟨.inl hk,fun e=>by have h1:=(R7.out.1 k e.symm).1.1;have:=J6.out.o1;have:=J6.out.o2;have:=J6.out.o3;omega⟩) (fun k hk=>.inr (.inr (Nat.lt_of_lt_of_le (blk_lt J6.out.h3) hk))) (Below.refl _ _) (Nat.zero_le _) HL.out.2.2.2.2.2.2.1 ?_;intro v3 w3 hs3 hb3 hg3 hat3;obtain ⟨G7,h7,rfl⟩:=Kd.R_slice hs3;rw [HM7.out] at hs3 ⊢;have HV:=Lib.hid hs3;have HG:=Lib.hid hg3;have K:=Lib.hid (J6.out.grown hg3 (fun k hk=>⟨(R7.out.1 k hk).1.1,(R7.out.1 k hk).2⟩));have z1:=blk_cell (v:=.slice B7 s.excepts.length d7) K.out.h3 7 rfl;have f1:=blk_free K.out.h3 7;clear hs3 hb3 hg3 hat3))
 have L:=Lib.hid (K.out.st3 (us:=#[.string s.title,.slice G1 N1 h1,.slice G2 N2 h2,.slice G3 N3 h3,.slice G4 N4 h4,.slice G5 N5 h5,.slice G6 N6 h6,.slice G7 N7 h7,.slice B8 s.totals.length d8]) 7 (.slice G7 N7 h7) rfl)
 have V1:=Lib.hid (Jo.keep V1.out HG.out 7 (.slice G7 N7 h7) (Jo.ok_sr J6.out (by decide) (R7.out.1)))
 have V2:=Lib.hid (Jo.keep V2.out HG.out 7 (.slice G7 N7 h7) (Jo.ok_sr J6.out (by decide) (R7.out.1)))
 have V3:=Lib.hid (Jo.keep V3.out HG.out 7 (.slice G7 N7 h7) (Jo.ok_sr J6.out (by decide) (R7.out.1)))
 have V4:=Lib.hid (Jo.keep V4.out HG.out 7 (.slice G7 N7 h7) (Jo.ok_sr J6.out (by decide) (R7.out.1)))
 have V5:=Lib.hid (Jo.keep V5.out HG.out 7 (.slice G7 N7 h7) (Jo.ok_sr J6.out (by decide) (R7.out.1)))
 have V6:=Lib.hid (Jo.keep V6.out HG.out 7 (.slice G7 N7 h7) (Jo.ok_sr J6.out (by decide) (R7.out.1)))
 have V7:=Lib.hid (Kd.R_far HV.out (fun k hk=>(Jo.ok_ne K.out k hk).1) (.slice G7 N7 h7) (p:=⟨b3,7,none⟩))
 have S8:=Lib.hid (Jo.keep R8.out HG.out 7 (.slice G7 N7 h7) (Jo.sr_sr J6.out (by decide) (R7.out.1)))
 obtain ⟨Y7,hY⟩:∃ Y,w3.setCell ⟨b3,7,none⟩ (.slice G7 N7 h7)=Y:=⟨_,rfl⟩
 try rw [hY]
 rw [hY] at L V1 V2 V3 V4 V5 V6 V7 S8
 have R8:=Lib.hid S8.out
 have J7:=Lib.hid L.out
 clear hY L HV HG K HR y1 y2 z1 f1 R7 S8 J6
 have y1:=blk_cell (v:=.slice B8 s.totals.length d8) J7.out.h3 8 rfl
 have y2:=blk_cell (v:=.slice C8 t.totals.length e8) J7.out.h1 8 rfl
 have HR:=Lib.hid (rows_of Q8.out J7.out.hb)
 go_upto_region 10 with (first | (at_builtin;refine Kd.R_append_rows k104 (w0:=Y7) 0 rfl (.tmp 51) (.tmp 53) 30 104 (.agg #[.string ⟨#[]⟩,.string ⟨#[]⟩,.slice none 0 0,.bool false,.int .i64 0]) 72 rfl Tryz.underlying30 info_tt rfl (by decide) (by decide) (.slice B8 s.totals.length d8) s.totals t.totals C8 t.totals.length e8 (Jo.OK w.heap.size X.heap.size b3 own 8) (fun k=>k<w.heap.size) rfl rfl (Kd.R_mono R8.out (fun k hk=>.inr (.inl hk))) HR.out (fun _ _ h=>h) (fun k hk=>⟨.inl hk,fun e=>by have h1:=(R8.out.1 k e.symm).1.1;have:=J7.out.o1;have:=J7.out.o2;have:=J7.out.o3;omega⟩) (fun k hk=>.inr (.inr (Nat.lt_of_lt_of_le (blk_lt J7.out.h3) hk))) (Below.refl _ _) (Nat.zero_le _) HL.out.2.2.2.2.2.2.2 ?_;intro v3 w3 hs3 hb3 hg3 hat3;obtain ⟨G8,h8,rfl⟩:=Kd.R_slice hs3;rw [HM8.out] at hs3 ⊢;have HV:=Lib.hid hs3;have HG:=Lib.hid hg3;have K:=Lib.hid (J7.out.grown hg3 (fun k hk=>⟨(R8.out.1 k hk).1.1,(R8.out.1 k hk).2⟩));have z1:=blk_cell (v:=.slice B8 s.totals.length d8) K.out.h3 8 rfl;have f1:=blk_free K.out.h3 8;clear hs3 hb3 hg3 hat3))
 have L:=Lib.hid (K.out.st3 (us:=#[.string s.title,.slice G1 N1 h1,.slice G2 N2 h2,.slice G3 N3 h3,.slice G4 N4 h4,.slice G5 N5 h5,.slice G6 N6 h6,.slice G7 N7 h7,.slice G8 N8 h8]) 8 (.slice G8 N8 h8) rfl)
 have V1:=Lib.hid (Jo.keep V1.out HG.out 8 (.slice G8 N8 h8) (Jo.ok_sr J7.out (by decide) (R8.out.1)))
 have V2:=Lib.hid (Jo.keep V2.out HG.out 8 (.slice G8 N8 h8) (Jo.ok_sr J7.out (by decide) (R8.out.1)))
 have V3:=Lib.hid (Jo.keep V3.out HG.out 8 (.slice G8 N8 h8) (Jo.ok_sr J7.out (by decide) (R8.out.1)))
 have V4:=Lib.hid (Jo.keep V4.out HG.out 8 (.slice G8 N8 h8) (Jo.ok_sr J7.out (by decide) (R8.out.1)))
 have V5:=Lib.hid (Jo.keep V5.out HG.out 8 (.slice G8 N8 h8) (Jo.ok_sr J7.out (by decide) (R8.out.1)))
 have V6:=Lib.hid (Jo.keep V6.out HG.out 8 (.slice G8 N8 h8) (Jo.ok_sr J7.out (by decide) (R8.out.1)))
 have V7:=Lib.hid (Jo.keep V7.out HG.out 8 (.slice G8 N8 h8) (Jo.ok_sr J7.out (by decide) (R8.out.1)))
 have V8:=Lib.hid (Kd.R_far HV.out (fun k hk=>(Jo.ok_ne K.out k hk).1) (.slice G8 N8 h8) (p:=⟨b3,8,none⟩))
 obtain ⟨Y8,hY⟩:∃ Y,w3.setCell ⟨b3,8,none⟩ (.slice G8 N8 h8)=Y:=⟨_,rfl⟩
 try rw [hY]
 rw [hY] at L V1 V2 V3 V4 V5 V6 V7 V8
 have J8:=Lib.hid L.out
 clear hY L HV HG K HR y1 y2 z1 f1 R8  J7
 have y0:=blk_cell (v:=.string s.title) J8.out.h3 0 rfl
 have u0:=blk_cell (v:=.string ⟨#[]⟩) J8.out.h2 0 rfl
 have f0:=blk_free J8.out.h2 0
 have y1:=blk_cell (v:=.slice G1 N1 h1) J8.out.h3 1 rfl
 have u1:=blk_cell (v:=.slice none 0 0) J8.out.h2 1 rfl
 have f1:=blk_free J8.out.h2 1
 have y2:=blk_cell (v:=.slice G2 N2 h2) J8.out.h3 2 rfl
 have u2:=blk_cell (v:=.slice none 0 0) J8.out.h2 2 rfl
 have f2:=blk_free J8.out.h2 2
 have y3:=blk_cell (v:=.slice G3 N3 h3) J8.out.h3 3 rfl
 have u3:=blk_cell (v:=.slice none 0 0) J8.out.h2 3 rfl
 have f3:=blk_free J8.out.h2 3
 have y4:=blk_cell (v:=.slice G4 N4 h4) J8.out.h3 4 rfl
 have u4:=blk_cell (v:=.slice none 0 0) J8.out.h2 4 rfl
 have f4:=blk_free J8.out.h2 4
 have y5:=blk_cell (v:=.slice G5 N5 h5) J8.out.h3 5 rfl
 have u5:=blk_cell (v:=.slice none 0 0) J8.out.h2 5 rfl
 have f5:=blk_free J8.out.h2 5
 have y6:=blk_cell (v:=.slice G6 N6 h6) J8.out.h3 6 rfl
 have u6:=blk_cell (v:=.slice none 0 0) J8.out.h2 6 rfl
 have f6:=blk_free J8.out.h2 6
 have y7:=blk_cell (v:=.slice G7 N7 h7) J8.out.h3 7 rfl
 have u7:=blk_cell (v:=.slice none 0 0) J8.out.h2 7 rfl
 have f7:=blk_free J8.out.h2 7
 have y8:=blk_cell (v:=.slice G8 N8 h8) J8.out.h3 8 rfl
 have u8:=blk_cell (v:=.slice none 0 0) J8.out.h2 8 rfl
 have f8:=blk_free J8.out.h2 8
 go_wp2_with fail
 have HE:=Lib.hid (Jo.st2 (us:=#[.string s.title,.slice G1 N1 h1,.slice G2 N2 h2,.slice G3 N3 h3,.slice G4 N4 h4,.slice G5 N5 h5,.slice G6 N6 h6,.slice G7 N7 h7,.slice G8 N8 h8]) (Jo.st2 (us:=#[.string s.title,.slice G1 N1 h1,.slice G2 N2 h2,.slice G3 N3 h3,.slice G4 N4 h4,.slice G5 N5 h5,.slice G6 N6 h6,.slice G7 N7 h7,.slice none 0 0]) (Jo.st2 (us:=#[.string s.title,.slice G1 N1 h1,.slice G2 N2 h2,.slice G3 N3 h3,.slice G4 N4 h4,.slice G5 N5 h5,.slice G6 N6 h6,.slice none 0 0,.slice none 0 0]) (Jo.st2 (us:=#[.string s.title,.slice G1 N1 h1,.slice G2 N2 h2,.slice G3 N3 h3,.slice G4 N4 h4,.slice G5 N5 h5,.slice none 0 0,.slice none 0 0,.slice none 0 0]) (Jo.st2 (us:=#[.string s.title,.slice G1 N1 h1,.slice G2 N2 h2,.slice G3 N3 h3,.slice G4 N4 h4,.slice none 0 0,.slice none 0 0,.slice none 0 0,.slice none 0 0]) (Jo.st2 (us:=#[.string s.title,.slice G1 N1 h1,.slice G2 N2 h2,.slice G3 N3 h3,.slice none 0 0,.slice none 0 0,.slice none 0 0,.slice none 0 0,.slice none 0 0]) (Jo.st2 (us:=#[.string s.title,.slice G1 N1 h1,.slice G2 N2 h2,.slice none 0 0,.slice none 0 0,.slice none 0 0,.slice none 0 0,.slice none 0 0,.slice none 0 0]) (Jo.st2 (us:=#[.string s.title,.slice G1 N1 h1,.slice none 0 0,.slice none 0 0,.slice none 0 0,.slice none 0 0,.slice none 0 0,.slice none 0 0,.slice none 0 0]) (Jo.st2 (us:=#[.string s.title,.slice none 0 0,.slice none 0 0,.slice none 0 0,.slice none 0 0,.slice none 0 0,.slice none 0 0,.slice none 0 0,.slice none 0 0]) J8.out 0 (.string s.title) rfl) 1 (.slice G1 N1 h1) rfl) 2 (.slice G2 N2 h2) rfl) 3 (.slice G3 N3 h3) rfl) 4 (.slice G4 N4 h4) rfl) 5 (.slice G5 N5 h5) rfl) 6 (.slice G6 N6 h6) rfl) 7 (.slice G7 N7 h7) rfl) 8 (.slice G8 N8 h8) rfl)
 refine bodyPost_ret (results_cell_row rfl _ _ b2 32 #[.string s.title,.slice G1 N1 h1,.slice G2 N2 h2,.slice G3 N3 h3,.slice G4 N4 h4,.slice G5 N5 h5,.slice G6 N6 h6,.slice G7 N7 h7,.slice G8 N8 h8] (0,0) _ rfl HE.out.h2 Tryz.underlying32 rfl rfl) rfl ?_
 have hN1:=HM1.out
 subst hN1
 have hN2:=HM2.out
 subst hN2
 have hN3:=HM3.out
 subst hN3
 have hN4:=HM4.out
 subst hN4
 have hN5:=HM5.out
 subst hN5
 have hN6:=HM6.out
 subst hN6
 have hN7:=HM7.out
 subst hN7
 have hN8:=HM8.out
 subst hN8
 refine ⟨_,rfl,⟨G1,h1,G2,h2,G3,h3,G4,h4,G5,h5,G6,h6,G7,h7,G8,h8,rfl,?_,?_,?_,?_,?_,?_,?_,?_⟩,HE.out.hb⟩
 ·exact (Kd.R_reads' (Jo.fin J8.out (Jo.fin J8.out (Jo.fin J8.out (Jo.fin J8.out (Jo.fin J8.out (Jo.fin J8.out (Jo.fin J8.out (Jo.fin J8.out (Jo.fin J8.out V1.out 0 _) 1 _) 2 _) 3 _) 4 _) 5 _) 6 _) 7 _) 8 _)).2.2
 ·exact (Kd.R_reads' (Jo.fin J8.out (Jo.fin J8.out (Jo.fin J8.out (Jo.fin J8.out (Jo.fin J8.out (Jo.fin J8.out (Jo.fin J8.out (Jo.fin J8.out (Jo.fin J8.out V2.out 0 _) 1 _) 2 _) 3 _) 4 _) 5 _) 6 _) 7 _) 8 _)).2.2
 ·exact (Kd.R_reads' (Jo.fin J8.out (Jo.fin J8.out (Jo.fin J8.out (Jo.fin J8.out (Jo.fin J8.out (Jo.fin J8.out (Jo.fin J8.out (Jo.fin J8.out (Jo.fin J8.out V3.out 0 _) 1 _) 2 _) 3 _) 4 _) 5 _) 6 _) 7 _) 8 _)).2.2
 ·exact (Kd.R_reads' (Jo.fin J8.out (Jo.fin J8.out (Jo.fin J8.out (Jo.fin J8.out (Jo.fin J8.out (Jo.fin J8.out (Jo.fin J8.out (Jo.fin J8.out (Jo.fin J8.out V4.out 0 _) 1 _) 2 _) 3 _) 4 _) 5 _) 6 _) 7 _) 8 _)).2.2
 ·exact (Kd.R_reads' (Jo.fin J8.out (Jo.fin J8.out (Jo.fin J8.out (Jo.fin J8.out (Jo.fin J8.out (Jo.fin J8.out (Jo.fin J8.out (Jo.fin J8.out (Jo.fin J8.out V5.out 0 _) 1 _) 2 _) 3 _) 4 _) 5 _) 6 _) 7 _) 8 _)).2.2
 ·exact (Kd.R_reads' (Jo.fin J8.out (Jo.fin J8.out (Jo.fin J8.out (Jo.fin J8.out (Jo.fin J8.out (Jo.fin J8.out (Jo.fin J8.out (Jo.fin J8.out (Jo.fin J8.out V6.out 0 _) 1 _) 2 _) 3 _) 4 _) 5 _) 6 _) 7 _) 8 _)).2.2
 ·exact (Kd.R_reads' (Jo.fin J8.out (Jo.fin J8.out (Jo.fin J8.out (Jo.fin J8.out (Jo.fin J8.out (Jo.fin J8.out (Jo.fin J8.out (Jo.fin J8.out (Jo.fin J8.out V7.out 0 _) 1 _) 2 _) 3 _) 4 _) 5 _) 6 _) 7 _) 8 _)).2.2
 ·exact (Kd.R_reads' (Jo.fin J8.out (Jo.fin J8.out (Jo.fin J8.out (Jo.fin J8.out (Jo.fin J8.out (Jo.fin J8.out (Jo.fin J8.out (Jo.fin J8.out (Jo.fin J8.out V8.out 0 _) 1 _) 2 _) 3 _) 4 _) 5 _) 6 _) 7 _) 8 _)).2.2
theorem rtokens_calls (s:ByteArray) (w:World):Calls Tryz.prog 11 #[.string s] w fun e w'=>∃ tv,e=.returned (.tuple #[tv,.int .i64 (lex s).e,.int .i64 (lex s).at_])∧Kd.R k48 48 w' w.heap.size (fun k=>w.heap.size≤k) tv (lex s).l∧Below w.heap.size w w':=by
 have HW:=Lib.hid (rwalk_calls s w)
 generalize lex s=X at HW ⊢
 go_enter Tryz.func11,Tryz.ntmps11
 go_wp2_with (first | (go_at_call 28;((with_reducible refine HW.out.mono ?_);rintro e w2 ⟨tv,rv,rfl,hr2,hb2⟩;have HR2:=Lib.hid hr2;have HB2:=Lib.hid hb2;clear hr2 hb2)))
 go_ret3
 exact ⟨tv,rfl,HR2.out,HB2.out⟩
def Sx.SpTo (l:List S48) (o:ByteArray):Prop:=∃ body,o.data.toList=10::body∧SpB l body∧o.size≤1+l.length*70000
theorem Sx.SpTo.snoc {l:List S48} {o o2:ByteArray} {t:S48} {g:List UInt8} (h:SpTo l o) (hg:IsGap g) (ht:t.f1.size≤65536) (ho:o2.data.toList=o.data.toList++(tokB t++g)):SpTo (l++[t]) o2:=by
 obtain ⟨body,h1,h2,h3⟩:=h
 refine ⟨body++(tokB t++g),by rw [ho,h1];rfl,h2.snoc hg,?_⟩
 have hs:o2.size=o.size+((tokB t).length+g.length):=by
  show o2.data.toList.length=o.data.toList.length+_
  rw [ho,List.length_append,List.length_append]
 have hgl:g.length≤18:=by rcases hg with rfl | rfl | rfl | rfl <;> decide
 have htl:(tokB t).length≤65538:=by
  unfold tokB
  have h9:t.f1.data.toList.length=t.f1.size:=rfl
  split
  ·rw [List.length_cons,List.length_append,List.length_singleton];omega
  ·omega
 rw [hs,List.length_append,List.length_singleton]
 omega
end Go.Proofs.YtcakgennlliejaaGreatDoor
