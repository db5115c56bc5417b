import Derived.Test.YtcakgennlliejaaGreatDoorSynK14
import Derived.Test.YtcakgennlliejaaGreatDoorSynK15
set_option maxHeartbeats 8000000
set_option maxRecDepth 100000
namespace Go.Proofs.YtcakgennlliejaaGreatDoor
open Go.Shelf Go.RowKit Go.Lib
open Go.Proofs.YtcakgennlliejaaGreatDoorW.PrintWords
open Go.Proofs.YtcakgennlliejaaGreatDoor.PSyntaxJoined
open Sx
set_option linter.unusedVariables false
set_option linter.unusedSimpArgs false
theorem info_mb:(Tryz.prog.info? 54).map (fun i=>(i.zero,i.size,i.bytes))=some (some (.agg #[.string ⟨#[]⟩,.string ⟨#[]⟩]),2,32):=by kernel_rfl
theorem Sx.Did.step {V:Env} {SB S2:Nat} {row:Option Nat} {w wr w3:World} {y:Value} (h:Did V SB row w wr) (hs:w.heap.size≤S2) (hg:wr.grownBy w3 y.ownBlock) (hy:y.ownBlock=row∨∃ b,y.ownBlock=some b∧S2≤b) (j:Nat) (u:Value):Did V SB row w (w3.setCell ⟨SB,j,none⟩ u):=by
 refine ⟨hg.os.trans h.os,hg.tape.trans h.tape,hg.output.trans h.output,?_,fun i hi h1 h2 h3=>?_⟩
 ·have h1:=h.size
  have h2:=hg.size
  rw [show (w3.setCell ⟨SB,j,none⟩ u).heap.size=w3.heap.size from World.size_setCell _ _ _]
  omega
 ·rw [Below.heap_setCell w3 ⟨SB,j,none⟩ u i h2,hg.block i (by have:=h.size;omega) ?_]
  ·exact h.block i hi h1 h2 h3
  ·rcases hy with e | ⟨b,e,hb⟩
   ·rw [e];exact h3
   ·rw [e];intro e2;injection e2 with e2;omega
theorem Sx.map_take_succ {α β:Type} (f:α→β) (l:List α) (i:Nat) (d:α) (h:i<l.length):(l.map f).take i++[f (l.getD i d)]=(l.map f).take (i+1):=by
 rw [List.take_add_one,List.getElem?_map,List.getD_eq_getElem?_getD,List.getElem?_eq_getElem h];rfl
theorem item_member_eq (V:Env) (cal:ByteArray→Int × Int) (s:Stt) (p:Nat) (hk:(V.next p).k=1) (ht:(V.next p).t.toList=[109,101,109,98,101,114]):V.item cal s p=(V.list V.name s.members.length 64 (p+1)).bnd fun l q=>(V.must 6 ⟨#[58]⟩ q).bnd fun _ q2=>(V.name q2).bnd fun k q3=>.ok { s with members:=s.members++l.map fun n=>⟨n,k⟩ } q3:=by
 unfold Env.item
 rw [if_pos (by rw [hk];rfl),ht]
 rfl
theorem item_member_calls (V:Env) (cal:ByteArray→Int × Int)
  (p SB:Nat) (own:Nat→Nat) (s:Stt) (v:Vs) (w:World) (h:Rd w V p) (lo:Lo V SB) (hs:StB w SB own s v) (hk:(V.next p).k=1) (ht:(V.next p).t.toList=[109,101,109,98,101,114]) :
  Calls Tryz.prog 42 #[.pointer (some ⟨V.rb,0,none⟩),.pointer (some ⟨SB,0,none⟩)] w (PostS V SB w (V.item cal s p)):=by
 have hmf:∀ (fn:Fn) (first cap:Array Value) (w:World),(Instr.makeFunc fn first cap).run Tryz.prog w=.ok (.func fn first cap) w:=fun _ _ _ _=>rfl
 obtain ⟨x1,x2,x3,x4,x5,x6,x7,x8⟩:=v
 have e0:=Kd.R_slice hs.r2
 dsimp only at e0
 obtain ⟨A0,c0,rfl⟩:=e0
 have hF0:=item_member_eq V cal s p hk ht
 have HLT:=Lib.hid (Sx.next_lt (V:=V) (p:=p) (by rw [hk];decide))
 have HN:=Lib.hid (fun w1 (h1:Rd w1 V p)=>next_calls V p w1 h1)
 unfold Sx.tv at HN
 generalize V.item cal s p=F at *
 generalize V.next p=t at *
 have HF0:=Lib.hid hF0
 have e1:(t.k != 1)=false:=by rw [hk];rfl
 have k0:(t.t.toList==[107,105,110,100])=false:=by rw [ht];rfl
 have k1:(t.t.toList==[109,101,109,98,101,114])=true:=by rw [ht];rfl
 have HA0:=Lib.hid (show Bs w w V p p SB own s ⟨x1,.slice A0 s.members.length c0,x3,x4,x5,x6,x7,x8⟩ from ⟨h,lo,hs,h,Keep.refl _ _⟩)
 clear h lo hs hk ht hF0
 go_enter Tryz.func42,Tryz.ntmps42
 go_upto_region 1 with (first | (go_at_call 39;refine (HN.out w HA0.out.rd).mono ?_;rintro e w1 ⟨rfl,hb1⟩;have HA1:=Lib.hid (HA0.out.call (HA0.out.rd.below hb1) (Keep.of_below hb1));clear hb1))
 obtain ⟨X1,hX1⟩:∃ X,w1.alloc (Obj.cells #[.int .i64 t.k,.string t.t,.int .i64 t.a] 48)=X:=⟨_,rfl⟩
 have HA2:=Lib.hid (HA1.out.alloc (Obj.cells #[.int .i64 t.k,.string t.t,.int .i64 t.a] 48))
 have u0:X1.cell? ⟨w1.heap.size,0,none⟩=some (.int .i64 t.k):=by rw [← hX1];exact blk_cell (heap_alloc_new w1 _) 0 rfl
 have u1:X1.cell? ⟨w1.heap.size,1,none⟩=some (.string t.t):=by rw [← hX1];exact blk_cell (heap_alloc_new w1 _) 1 rfl
 have hne:w1.heap.size≠V.rb:=by have h1:=World.block_lt_of_cell? _ _ HA1.out.rd.pos;simp only at h1;omega
 rw [hX1] at HA2
 try rw [hX1]
 clear hX1 HA1
 have hp:=HA2.out.rd.pos
 have hf:=HA2.out.rd.f
 have wz:IntKind.i64.wrap ((p:Nat)+1:Int)=((p+1:Nat):Int):=by have h1:=HA2.out.rd.n;have h2:=HLT.out;rw [IntWalk.i64_in _ (by omega)];omega
 have hs:=HA2.out.rd.step (p+1) HLT.out
 have hk:Keep (ours V) X1 (X1.setCell ⟨V.rb,1,none⟩ (.int .i64 ((p+1:Nat):Int))):=Keep.setCell (F:=ours V) (Keep.refl _ _) (p:=⟨V.rb,1,none⟩) (fun _=>rfl) _
 obtain ⟨X2,hX2⟩:∃ X,X1.setCell ⟨V.rb,1,none⟩ (.int .i64 ((p+1:Nat):Int))=X:=⟨_,rfl⟩
 have u2:X2.cell? ⟨w1.heap.size,1,none⟩=some (.string t.t):=by rw [← hX2,World.cell?_setCell_other _ _ _ _ (fun e=>by injection e with e1;exact hne e1.symm)];exact u1
 have hX2b:X1.setCell ⟨V.rb,1,none⟩ (.int .i64 ((p:Int)+1))=X2:=hX2
 rw [hX2] at hs hk
 have HA3:=Lib.hid (HA2.out.call hs hk)
 clear hs hk HA2 hne
 go_upto_region 4 with (fail)
 try rw [hX2]
 try rw [hX2b]
 clear hX2 hX2b hp hf wz u0 u1 HN
 go_upto_region 11 with (fail)
 clear u2
 have ys:=blk_cell (v:=(.slice A0 s.members.length c0)) HA3.out.blk 2 rfl
 have HLM:=Lib.hid HA3.out.st.lm
 have HK1:=Lib.hid (fun w1 h1=>list_str_calls V V.name 56 name_enters (name_calls V) (s.members.length:Int) 64 ⟨by omega,by have:=HLM.out;omega⟩ (by decide) (p+1) w1 h1)
 have hF1:=HF0.out
 generalize hr1:V.list V.name (s.members.length:Int) 64 (p+1)=r1 at hF1 HK1
 cases r1 with
 | bad er a =>
  dsimp only [Res.bnd] at hF1
  have HF1:=Lib.hid hF1
  clear hF1 HF0 hr1
  go_wp2_with (first | (go_at_call 57;refine (HK1.out X2 HA3.out.rd).mono ?_;rintro e w2 ⟨rfl,hk2⟩))
  refine ⟨rfl,?_⟩
  rw [HF1.out]
  exact ⟨rfl,Sx.Keep.toS (HA3.out.keep.trans hk2 (fun _ _ h=>h))⟩
 | ok l q1 =>
  dsimp only [Res.bnd] at hF1
  have HF1:=Lib.hid hF1
  clear hF1 HF0
  go_upto_region 12 with (first | (go_at_call 57;refine (HK1.out X2 HA3.out.rd).mono ?_;rintro e X1 ⟨x,rfl,hx,hr2,hk2⟩;have HC1_0:=Lib.hid (HA3.out.call hr2 hk2);obtain ⟨A1,c1,rfl⟩:=Kd.R_slice hx))
  obtain ⟨s1,hs1⟩:∃ s,X2.heap.size=s:=⟨_,rfl⟩
  rw [hs1] at hx
  have hsz1:=HA3.out.keep.size
  rw [hs1] at hsz1
  have HS1:=Lib.hid (show SB<s1∧V.rb<s1∧w.heap.size≤s1 by
   have h0:=World.block_lt_of_cell? _ _ (blk_cell (v:=(.string s.title)) HA3.out.blk 0 rfl)
   have h9:=World.block_lt_of_cell? _ _ HA3.out.rd.pos
   simp only at h0 h9;omega)
  clear hs1 hsz1
  have HXn1:=Lib.hid (show Kd.R Kd.string 9 X1 s1 (fun k=>s1≤k) (.slice A1 l.length c1) l from hx)
  clear hx
  have HD1_0:=Lib.hid (show Bs w X1 V p q1 SB own s ⟨x1,.slice A0 s.members.length c0,x3,x4,x5,x6,x7,x8⟩ from HC1_0.out)
  clear hr2 hk2 HK1 HA3 HC1_0 
  have HX1:=HXn1
  clear HXn1
  have HLL:=Lib.hid (Sx.list_len hr1)
  clear hr1 ys
  have HK2:=Lib.hid (fun w1 h1=>must_calls V q1 6 ⟨#[58]⟩ w1 h1 (by decide))
  have hF2:=HF1.out
  generalize hr2:V.must 6 ⟨#[58]⟩ q1=r2 at hF2 HK2
  cases r2 with
  | bad er a =>
   dsimp only [Res.bnd] at hF2
   have HF2:=Lib.hid hF2
   clear hF2 HF1 hr2
   go_wp2_with (first | (go_at_call 41;refine (HK2.out X1 HD1_0.out.rd).mono ?_;rintro e w2 ⟨rfl,hk2⟩))
   refine ⟨rfl,?_⟩
   rw [HF2.out]
   exact ⟨rfl,Sx.Keep.toS (HD1_0.out.keep.trans hk2 (fun _ _ h=>h))⟩
  | ok _ q2 =>
   dsimp only [Res.bnd] at hF2
   have HF2:=Lib.hid hF2
   clear hF2 HF1 hr2
   go_upto_region 13 with (first | (go_at_call 41;refine (HK2.out X1 HD1_0.out.rd).mono ?_;rintro e X2 ⟨x,rfl,rfl,hr2,hk2⟩;have HC2_0:=Lib.hid (HD1_0.out.call hr2 hk2)))
   have HXn1:=Lib.hid (show Kd.R Kd.string 9 X2 s1 (fun k=>s1≤k) (.slice A1 l.length c1) l from (Kd.R_step HX1.out (fun i hi hlt=>hk2.block i hlt (fun e=>by have:=HS1.out;unfold ours at e;omega))))
   have HD2_0:=Lib.hid (show Bs w X2 V p q2 SB own s ⟨x1,.slice A0 s.members.length c0,x3,x4,x5,x6,x7,x8⟩ from HC2_0.out)
   clear hr2 hk2 HK2 HD1_0 HC2_0 HX1
   have HX1:=HXn1
   clear HXn1
   have HK3:=Lib.hid (fun w1 h1=>name_calls V q2 w1 h1)
   have hF3:=HF2.out
   generalize hr3:V.name q2=r3 at hF3 HK3
   cases r3 with
   | bad er a =>
    dsimp only [Res.bnd] at hF3
    have HF3:=Lib.hid hF3
    clear hF3 HF2 hr3
    go_wp2_with (first | (go_at_call 56;refine (HK3.out X2 HD2_0.out.rd).mono ?_;rintro e w2 ⟨rfl,hk2⟩))
    refine ⟨rfl,?_⟩
    rw [HF3.out]
    exact ⟨rfl,Sx.Keep.toS (HD2_0.out.keep.trans hk2 (fun _ _ h=>h))⟩
   | ok k q3 =>
    dsimp only [Res.bnd] at hF3
    have HF3:=Lib.hid hF3
    clear hF3 HF2 hr3
    go_upto_region 14 with (first | (go_at_call 56;refine (HK3.out X2 HD2_0.out.rd).mono ?_;rintro e X3 ⟨x,rfl,rfl,hr2,hk2⟩;have HC3_0:=Lib.hid (HD2_0.out.call hr2 hk2)))
    have HXn1:=Lib.hid (show Kd.R Kd.string 9 X3 s1 (fun k=>s1≤k) (.slice A1 l.length c1) l from (Kd.R_step HX1.out (fun i hi hlt=>hk2.block i hlt (fun e=>by have:=HS1.out;unfold ours at e;omega))))
    have HD3_0:=Lib.hid (show Bs w X3 V p q3 SB own s ⟨x1,.slice A0 s.members.length c0,x3,x4,x5,x6,x7,x8⟩ from HC3_0.out)
    clear hr2 hk2 HK3 HD2_0 HC3_0 HX1
    have HX1:=HXn1
    clear HXn1
    go_upto_region 15 with (fail)
    obtain ⟨S2,hS2⟩:∃ S,X3.heap.size=S:=⟨_,rfl⟩
    have HXB:=Lib.hid (show Kd.R Kd.string 9 X3 s1 (fun k=>s1≤k∧k<S2) (.slice A1 l.length c1) l from Kd.R_mono (Kd.R_bound HX1.out) (fun k hk=>⟨hk.1,by rw [← hS2];exact hk.2.2.1⟩))
    have HNS:=Lib.hid (show w.heap.size≤S2 by rw [← hS2];exact HD3_0.out.keep.size)
    go_loopw [74] (fun v wr=>∃ (i:Nat),v=.int .i64 i∧i≤l.length∧∃ (y:Value),Kd.R k54 54 wr (SB+1) (fun k=>okf SB w.heap.size own 2 k∧(k<w.heap.size∨S2≤k)) y (s.members++(l.map fun n=>⟨n,k⟩).take i)∧wr.heap[SB]?=some (.cells #[.string s.title,x1,y,x3,x4,x5,x6,x7,x8] 32 (0,0))∧Did V SB (Value.slice A0 s.members.length c0).ownBlock w wr∧Rd wr V q3∧Kd.R Kd.string 9 wr s1 (fun k=>s1≤k∧k<S2) (.slice A1 l.length c1) l∧(y.ownBlock=(Value.slice A0 s.members.length c0).ownBlock∨∃ b,y.ownBlock=some b∧S2≤b)∧S2≤wr.heap.size) (fun v _=>l.length-iv v)
    case atStart =>
     have HB:=HD3_0.out
     refine ⟨0,rfl,Nat.zero_le _,(.slice A0 s.members.length c0),?_,HB.blk,⟨HB.keep.os,HB.keep.tape,HB.keep.output,HB.keep.size,fun k hk h1 _ _=>HB.keep.block k hk h1⟩,HB.rd,HXB.out,.inl rfl,by rw [hS2];exact Nat.le_refl _⟩
     rw [List.take_zero,List.append_nil]
     exact Kd.R_step (Kd.R_mono (Kd.R_bound HB.st.r2) (ok':=fun k=>okf SB w.heap.size own 2 k∧(k<w.heap.size∨S2≤k)) (fun k hk=>⟨hk.1,.inl hk.2.2.1⟩)) (fun i hi hlt=>HB.keep.block i hlt (fun e=>by unfold ours at e;have h1:=hi.1.1;have h2:=HB.lo.1;omega))
    case round =>
     obtain ⟨i,rfl,hil,y,hy,hblk,hdid,hrd,hx,hyo,hsz⟩:=hrel
     obtain ⟨A7,c7,rfl⟩:=Kd.R_slice hy
     have HY:=Lib.hid hy
     have HK:=Lib.hid hblk
     have HD:=Lib.hid hdid
     have HRD:=Lib.hid hrd
     have HX:=Lib.hid hx
     have HYO:=Lib.hid hyo
     have HSZ:=Lib.hid hsz
     have hlen:(s.members++(l.map fun n=>(⟨n,k⟩:S54)).take i).length=s.members.length+i:=by rw [List.length_append,List.length_take,List.length_map,Nat.min_eq_left hil]
     rw [hlen] at HY HK HYO
     clear hy hblk hdid hrd hx hyo hsz hlen
     by_cases hlt:i<l.length
     ·have z1:decide ((i:Int)<(l.length:Int))=true:=decide_eq_true (by omega)
      have z1n:decide (i<l.length)=true:=decide_eq_true hlt
      have y1:(i:Int)<(l.length:Int):=by omega
      have y2:(0:Int)≤(i:Int):=by omega
      have HLT2:=Lib.hid hlt
      have HB64:=Lib.hid (show s.members.length+l.length≤64 by have h1:=HLL.out;have h2:=HLM.out;omega)
      have wz:IntKind.i64.wrap ((i:Int)+1)=((i+1:Nat):Int):=by have h1:=HB64.out;rw [IntWalk.i64_in _ (by omega)];omega
      obtain ⟨A8,c8,e8,_,hC⟩:=Kd.R_reads HX.out
      obtain ⟨ad,cs,ea,_,hK,hcell⟩:=Kd.C_get hC (⟨#[]⟩:ByteArray) (i:Int) y2 y1
      injection e8 with e9 _ e10
      subst e10
      rw [ea] at e9
      subst e9
      have ex:=hK
      have hcs:cs=[.string (l.getD i ⟨#[]⟩)]:=hK
      have yc:wr.cell? (ad.add i)=some (.string (l.getD i ⟨#[]⟩)):=by have h1:=hcell 0 (.string (l.getD i ⟨#[]⟩)) (by rw [hcs];rfl);simpa [Kd.string,Kd.scalar] using h1
      have ht:=Sx.map_take_succ (fun n=>(⟨n,k⟩:S54)) l i ⟨#[]⟩ hlt
      generalize l.getD i ⟨#[]⟩=nn at *
      have HTK:=Lib.hid ht
      clear hC hK hcell ex hcs ht ea hlt hil
      have ys:=blk_cell (v:=(.slice A7 (s.members.length+i) c7)) HK.out 2 rfl
      go_wp2_with (first | (at_builtin;refine Kd.R_append k54 (w0:=wr) (SB+1) rfl (.tmp 82) (.tmp 86) 24 54 (.agg #[.string ⟨#[]⟩,.string ⟨#[]⟩]) 32 rfl Tryz.underlying24 info_mb rfl (by decide) (by decide) (.slice A7 (s.members.length+i) c7) (s.members++(l.map fun n=>(⟨n,k⟩:S54)).take i) (⟨nn,k⟩:S54) [.string nn,.string k] (fun k=>okf SB w.heap.size own 2 k∧(k<w.heap.size∨S2≤k)) (fun _=>False) rfl rfl (k54_mkM _ _ _ ⟨nn,k⟩) (fun _ hk=>hk.elim) (fun k hk=>⟨⟨by have h1:=HSZ.out;have h2:=HNS.out;have h3:=HD3_0.out.lt;omega,fun hn=>by have h1:=HSZ.out;have h2:=HNS.out;omega⟩,.inr (Nat.le_trans HSZ.out hk)⟩) HY.out (Below.refl _ _) (by have h1:=HSZ.out;have h2:=HNS.out;have h3:=HD3_0.out.lt;omega) (by rw [List.length_append,List.length_take,List.length_map];have h1:=HB64.out;have h2:=HLT2.out;omega) ?_;intro v3 w3 hs3 hb3 hg3 hat3;obtain ⟨A9,c9,rfl⟩:=Kd.R_slice hs3;have hle:(s.members++(l.map (fun n=>(⟨n,k⟩:S54))).take i++[(⟨nn,k⟩:S54)]).length=s.members.length+i+1:=(by rw [List.length_append,List.length_append,List.length_take,List.length_map,Nat.min_eq_left (Nat.le_of_lt HLT2.out),List.length_singleton]);(rw [hle] at hs3 hat3 ⊢);have hbk3:=(hb3.block SB (Nat.lt_succ_self _)).trans HK.out;have y3:=blk_cell (v:=(.slice A7 (s.members.length+i) c7)) hbk3 2 rfl;have f3:=blk_free hbk3 2))
      go_roundw
      case rel =>
       rw [List.append_assoc,HTK.out] at hs3
       refine ⟨i+1,by first | rfl | omega,HLT2.out,.slice A9 (s.members.length+i+1) c9,Kd.R_far hs3 (p:=⟨SB,2,none⟩) (fun k hk=>by have h1:=hk.1.1;simp only;omega) _,heap_setCell_same hbk3 2 _,Did.step HD.out HNS.out hg3 HYO.out 2 _,?_,?_,?_,?_⟩
       ·exact HRD.out.up HD3_0.out.lo (fun k hk=>(Below.heap_setCell w3 ⟨SB,2,none⟩ _ k (by simp only;omega)).trans (hb3.block k (by omega)))
       ·refine Kd.R_far (Kd.R_grown HX.out hg3 (fun k hk=>?_)) (p:=⟨SB,2,none⟩) (fun k hk=>by have h1:=hk.1;have h2:=HS1.out;simp only;omega) _
        rcases HYO.out with e | ⟨b,e,hb⟩
        ·rw [e];intro e2;have h1:=Kd.R_lt HD3_0.out.st.r2 k e2.symm;have h2:=hk.1;have h3:=HS1.out;omega
        ·rw [e];intro e2;injection e2 with e2;have h2:=hk.2;omega
       ·rcases hat3 with e | ⟨b,e,hb⟩
        ·rw [e];exact HYO.out
        ·exact .inr ⟨b,e,Nat.le_trans HSZ.out hb⟩
       ·rw [show (w3.setCell ⟨SB,2,none⟩ (.slice A9 (s.members.length+i+1) c9)).heap.size=w3.heap.size from World.size_setCell _ _ _];exact Nat.le_trans HSZ.out hb3.size
      case measure=>have:=HLT2.out;simp [iv];omega
     ·have z1:decide ((i:Int)<(l.length:Int))=false:=decide_eq_false (by omega)
      have z1n:decide (i<l.length)=false:=decide_eq_false hlt
      have hi:i=l.length:=by omega
      have HI:=Lib.hid hi
      clear hlt hil hi
      go_wp2_with fail
      go_end0
      rw [HF3.out]
      have hy:=HY.out
      rw [HI.out,List.take_of_length_le (by rw [List.length_map];exact Nat.le_refl _)] at hy
      refine ⟨rfl,HRD.out,StB.put2 HD3_0.out.st HD3_0.out.lo HD.out (by have:=HK.out;rw [HI.out] at this;exact this) (by rw [List.length_append,List.length_map];have h1:=HLL.out;have h2:=HLM.out;omega) (Kd.R_mono hy (fun k hk=>hk.1)),HD.out.keep (fun k hk=>Nat.le_of_lt (HD3_0.out.st.r2.1 k hk).1)⟩
theorem item_kind_eq (V:Env) (cal:ByteArray→Int × Int) (s:Stt) (p:Nat) (hk:(V.next p).k=1) (ht:(V.next p).t.toList=[107,105,110,100]):V.item cal s p=(V.room s.kinds.length 16 (p+1)).bnd fun _ q=>(V.name q).bnd fun n q2=>.ok { s with kinds:=s.kinds++[n] } q2:=by
 unfold Env.item
 rw [if_pos (by rw [hk];rfl),ht]
 rfl
theorem item_kind_calls (V:Env) (cal:ByteArray→Int × Int)
  (p SB:Nat) (own:Nat→Nat) (s:Stt) (v:Vs) (w:World) (h:Rd w V p) (lo:Lo V SB) (hs:StB w SB own s v) (hk:(V.next p).k=1) (ht:(V.next p).t.toList=[107,105,110,100]) :
  Calls Tryz.prog 42 #[.pointer (some ⟨V.rb,0,none⟩),.pointer (some ⟨SB,0,none⟩)] w (PostS V SB w (V.item cal s p)):=by
 have hmf:∀ (fn:Fn) (first cap:Array Value) (w:World),(Instr.makeFunc fn first cap).run Tryz.prog w=.ok (.func fn first cap) w:=fun _ _ _ _=>rfl
 obtain ⟨x1,x2,x3,x4,x5,x6,x7,x8⟩:=v
 have e0:=Kd.R_slice hs.r1
 dsimp only at e0
 obtain ⟨A0,c0,rfl⟩:=e0
 have hF0:=item_kind_eq V cal s p hk ht
 have HLT:=Lib.hid (Sx.next_lt (V:=V) (p:=p) (by rw [hk];decide))
 have HN:=Lib.hid (fun w1 (h1:Rd w1 V p)=>next_calls V p w1 h1)
 unfold Sx.tv at HN
 generalize V.item cal s p=F at *
 generalize V.next p=t at *
 have HF0:=Lib.hid hF0
 have e1:(t.k != 1)=false:=by rw [hk];rfl
 have k0:(t.t.toList==[107,105,110,100])=true:=by rw [ht];rfl
 have HA0:=Lib.hid (show Bs w w V p p SB own s ⟨.slice A0 s.kinds.length c0,x2,x3,x4,x5,x6,x7,x8⟩ from ⟨h,lo,hs,h,Keep.refl _ _⟩)
 clear h lo hs hk ht hF0
 go_enter Tryz.func42,Tryz.ntmps42
 go_upto_region 1 with (first | (go_at_call 39;refine (HN.out w HA0.out.rd).mono ?_;rintro e w1 ⟨rfl,hb1⟩;have HA1:=Lib.hid (HA0.out.call (HA0.out.rd.below hb1) (Keep.of_below hb1));clear hb1))
 obtain ⟨X1,hX1⟩:∃ X,w1.alloc (Obj.cells #[.int .i64 t.k,.string t.t,.int .i64 t.a] 48)=X:=⟨_,rfl⟩
 have HA2:=Lib.hid (HA1.out.alloc (Obj.cells #[.int .i64 t.k,.string t.t,.int .i64 t.a] 48))
 have u0:X1.cell? ⟨w1.heap.size,0,none⟩=some (.int .i64 t.k):=by rw [← hX1];exact blk_cell (heap_alloc_new w1 _) 0 rfl
 have u1:X1.cell? ⟨w1.heap.size,1,none⟩=some (.string t.t):=by rw [← hX1];exact blk_cell (heap_alloc_new w1 _) 1 rfl
 have hne:w1.heap.size≠V.rb:=by have h1:=World.block_lt_of_cell? _ _ HA1.out.rd.pos;simp only at h1;omega
 rw [hX1] at HA2
 try rw [hX1]
 clear hX1 HA1
 have hp:=HA2.out.rd.pos
 have hf:=HA2.out.rd.f
 have wz:IntKind.i64.wrap ((p:Nat)+1:Int)=((p+1:Nat):Int):=by have h1:=HA2.out.rd.n;have h2:=HLT.out;rw [IntWalk.i64_in _ (by omega)];omega
 have hs:=HA2.out.rd.step (p+1) HLT.out
 have hk:Keep (ours V) X1 (X1.setCell ⟨V.rb,1,none⟩ (.int .i64 ((p+1:Nat):Int))):=Keep.setCell (F:=ours V) (Keep.refl _ _) (p:=⟨V.rb,1,none⟩) (fun _=>rfl) _
 obtain ⟨X2,hX2⟩:∃ X,X1.setCell ⟨V.rb,1,none⟩ (.int .i64 ((p+1:Nat):Int))=X:=⟨_,rfl⟩
 have u2:X2.cell? ⟨w1.heap.size,1,none⟩=some (.string t.t):=by rw [← hX2,World.cell?_setCell_other _ _ _ _ (fun e=>by injection e with e1;exact hne e1.symm)];exact u1
 have hX2b:X1.setCell ⟨V.rb,1,none⟩ (.int .i64 ((p:Int)+1))=X2:=hX2
 rw [hX2] at hs hk
 have HA3:=Lib.hid (HA2.out.call hs hk)
 clear hs hk HA2 hne
 go_upto_region 4 with (fail)
 try rw [hX2]
 try rw [hX2b]
 clear hX2 hX2b hp hf wz u0 u1 HN
 go_upto_region 8 with (fail)
 clear u2
 have hF1:=HF0.out
 unfold Env.room at hF1
 by_cases hrm:(16:Int)≤(s.kinds.length:Int)
 ·rw [if_pos hrm] at hF1
  dsimp only [Res.bnd,Env.stop] at hF1
  have HF1:=Lib.hid hF1
  clear hF1 HF0
  have HC1:=Lib.hid (room_bad V (p+1) (s.kinds.length:Int) 16 X2 HA3.out.rd hrm)
  clear hrm
  have yl:=blk_cell (v:=(.slice A0 s.kinds.length c0)) HA3.out.blk 1 rfl
  go_wp2_with (first | (go_at_call 55;refine HC1.out.mono ?_;rintro e w2 ⟨rfl,hk2⟩))
  refine ⟨rfl,?_⟩
  rw [HF1.out]
  exact ⟨rfl,Sx.Keep.toS (HA3.out.keep.trans hk2 (fun _ _ h=>h))⟩
 ·rw [if_neg hrm] at hF1
  dsimp only [Res.bnd] at hF1
  have HF1:=Lib.hid hF1
  clear hF1 HF0
  have HRM:=Lib.hid hrm
  have HC1:=Lib.hid (room_ok V (p+1) (s.kinds.length:Int) 16 X2 (by have:=HRM.out;omega))
  clear hrm
  have yl:=blk_cell (v:=(.slice A0 s.kinds.length c0)) HA3.out.blk 1 rfl
  go_upto_region 9 with (first | (go_at_call 55;refine HC1.out.mono ?_;rintro e w2 ⟨rfl,rfl⟩))
  clear yl HC1
  have HK2:=Lib.hid (fun w1 h1=>name_calls V (p+1) w1 h1)
  have hF2:=HF1.out
  generalize V.name (p+1)=r2 at hF2 HK2
  have HF2:=Lib.hid hF2
  clear hF2 HF1
  have HW:=Lib.hid HA3.out.drew
  have ys:=blk_cell (v:=(.slice A0 s.kinds.length c0)) HW.out.blk 1 rfl
  have HGW:=Lib.hid (show w.heap.size≤X2.drew.heap.size from HW.out.keep.size)
  go_region_law (first | (refine Kd.R_append_step Kd.string (w0:=w2) (SB+1) (by rfl) (.tmp 50) (.tmp 53) 23 9 (.string ⟨#[]⟩) 16 rfl Tryz.underlying23 info_s rfl (by decide) (by decide) (.slice A0 s.kinds.length c0) s.kinds n [.string n] (okf SB w.heap.size own 1) (fun _=>False) rfl rfl rfl (fun _ hk=>hk.elim) (HV.out.fresh 1) (HV.out.row HV.out.st.r1) (Below.refl _ _) HV.out.base (by have h1:=HRM.out;omega) ?_;intro v3 w3 hs3 hb3 hg3 hat3;obtain ⟨A9,c9,rfl⟩:=Kd.R_slice hs3;rw [List.length_append,List.length_singleton] at hs3;have hbk3:=(hb3.block SB (Nat.lt_succ_self _)).trans HV.out.blk;have y3:=blk_cell (v:=(.slice A0 s.kinds.length c0)) hbk3 1 rfl;have f3:=blk_free hbk3 1) | (go_simp;go_wp2_with (first | (go_at_call 56;refine (HK2.out X2.drew HW.out.rd).mono ?_;rintro e w2 hp2;(cases r2 with | bad er a=>(obtain ⟨rfl,hk2⟩:=hp2;refine ⟨rfl,?_⟩;rw [HF2.out];exact ⟨rfl,Sx.Keep.toS (HW.out.keep.trans hk2 (fun _ _ h=>h))⟩) | ok n q2=>?_);obtain ⟨x,rfl,rfl,hr2,hk2⟩:=hp2;have HV:=Lib.hid (HW.out.call hr2 hk2);have yw:=blk_cell (v:=(.slice A0 s.kinds.length c0)) HV.out.blk 1 rfl;have ywa:∀ o,(w2.alloc o).cell? ⟨SB,1,none⟩=some (.slice A0 s.kinds.length c0):=fun o=>blk_cell (v:=(.slice A0 s.kinds.length c0)) (HV.out.alloc o).blk 1 rfl))))
  all_goals
   go_wp2_with fail
   go_end0
   rw [HF2.out]
   exact ⟨rfl,HV.out.fin1 hs3 hb3 hg3⟩
end Go.Proofs.YtcakgennlliejaaGreatDoor
