import Derived.Test.YtcakgennlliejaaGreatDoorSynK14
import Derived.Test.YtcakgennlliejaaGreatDoorSynK16
import Derived.Test.YtcakgennlliejaaGreatDoorSynK17
set_option maxHeartbeats 8000000
set_option maxRecDepth 100000
namespace Go.Proofs.YtcakgennlliejaaGreatDoor
open Go.Shelf Go.RowKit Go.Lib
open Go.Proofs.YtcakgennlliejaaGreatDoorW.PrintWords
open Go.Proofs.YtcakgennlliejaaGreatDoor.PSyntaxJoined
open Sx
set_option linter.unusedVariables false
set_option linter.unusedSimpArgs false
theorem info_sc:(Tryz.prog.info? 117).map (fun i=>(i.zero,i.size,i.bytes))=some (some (.agg #[.string ⟨#[]⟩,.int .i64 0]),2,24):=by kernel_rfl
theorem item_source_eq (V:Env) (cal:ByteArray→Int × Int) (s:Stt) (p:Nat) (hk:(V.next p).k=1) (ht:(V.next p).t.toList=[115,111,117,114,99,101]):V.item cal s p=(V.room s.sources.length 64 (p+1)).bnd fun _ q=>(V.name q).bnd fun n q2=>(V.must 1 ⟨#[114,97,110,107]⟩ q2).bnd fun _ q3=>(V.whole 0 1000 q3).bnd fun r q4=>.ok { s with sources:=s.sources++[⟨n,r⟩] } q4:=by
 unfold Env.item
 rw [if_pos (by rw [hk];rfl),ht]
 rfl
theorem item_source_calls (V:Env) (cal:ByteArray→Int × Int)
  (p SB:Nat) (own:Nat→Nat) (s:Stt) (v:Vs) (w:World) (h:Rd w V p) (lo:Lo V SB) (hs:StB w SB own s v) (hk:(V.next p).k=1) (ht:(V.next p).t.toList=[115,111,117,114,99,101]) :
  Calls Tryz.prog 42 #[.pointer (some ⟨V.rb,0,none⟩),.pointer (some ⟨SB,0,none⟩)] w (PostS V SB w (V.item cal s p)):=by
 have hmf:∀ (fn:Fn) (first cap:Array Value) (w:World),(Instr.makeFunc fn first cap).run Tryz.prog w=.ok (.func fn first cap) w:=fun _ _ _ _=>rfl
 obtain ⟨x1,x2,x3,x4,x5,x6,x7,x8⟩:=v
 have e0:=Kd.R_slice hs.r5
 dsimp only at e0
 obtain ⟨A0,c0,rfl⟩:=e0
 have hF0:=item_source_eq V cal s p hk ht
 have HLT:=Lib.hid (Sx.next_lt (V:=V) (p:=p) (by rw [hk];decide))
 have HN:=Lib.hid (fun w1 (h1:Rd w1 V p)=>next_calls V p w1 h1)
 unfold Sx.tv at HN
 generalize V.item cal s p=F at *
 generalize V.next p=t at *
 have HF0:=Lib.hid hF0
 have e1:(t.k != 1)=false:=by rw [hk];rfl
 have k0:(t.t.toList==[107,105,110,100])=false:=by rw [ht];rfl
 have k1:(t.t.toList==[109,101,109,98,101,114])=false:=by rw [ht];rfl
 have k2:(t.t.toList==[112,114,101,100])=false:=by rw [ht];rfl
 have k3:(t.t.toList==[110,117,109,98,101,114])=false:=by rw [ht];rfl
 have k4:(t.t.toList==[97,109,111,117,110,116])=false:=by rw [ht];rfl
 have k5:(t.t.toList==[99,108,97,115,115])=false:=by rw [ht];rfl
 have k6:(t.t.toList==[115,111,117,114,99,101])=true:=by rw [ht];rfl
 have HA0:=Lib.hid (show Bs w w V p p SB own s ⟨x1,x2,x3,x4,.slice A0 s.sources.length c0,x6,x7,x8⟩ from ⟨h,lo,hs,h,Keep.refl _ _⟩)
 clear h lo hs hk ht hF0
 go_enter Tryz.func42,Tryz.ntmps42
 go_upto_region 1 with (first | (go_at_call 39;refine (HN.out w HA0.out.rd).mono ?_;rintro e w1 ⟨rfl,hb1⟩;have HA1:=Lib.hid (HA0.out.call (HA0.out.rd.below hb1) (Keep.of_below hb1));clear hb1))
 obtain ⟨X1,hX1⟩:∃ X,w1.alloc (Obj.cells #[.int .i64 t.k,.string t.t,.int .i64 t.a] 48)=X:=⟨_,rfl⟩
 have HA2:=Lib.hid (HA1.out.alloc (Obj.cells #[.int .i64 t.k,.string t.t,.int .i64 t.a] 48))
 have u0:X1.cell? ⟨w1.heap.size,0,none⟩=some (.int .i64 t.k):=by rw [← hX1];exact blk_cell (heap_alloc_new w1 _) 0 rfl
 have u1:X1.cell? ⟨w1.heap.size,1,none⟩=some (.string t.t):=by rw [← hX1];exact blk_cell (heap_alloc_new w1 _) 1 rfl
 have hne:w1.heap.size≠V.rb:=by have h1:=World.block_lt_of_cell? _ _ HA1.out.rd.pos;simp only at h1;omega
 rw [hX1] at HA2
 try rw [hX1]
 clear hX1 HA1
 have hp:=HA2.out.rd.pos
 have hf:=HA2.out.rd.f
 have wz:IntKind.i64.wrap ((p:Nat)+1:Int)=((p+1:Nat):Int):=by have h1:=HA2.out.rd.n;have h2:=HLT.out;rw [IntWalk.i64_in _ (by omega)];omega
 have hs:=HA2.out.rd.step (p+1) HLT.out
 have hk:Keep (ours V) X1 (X1.setCell ⟨V.rb,1,none⟩ (.int .i64 ((p+1:Nat):Int))):=Keep.setCell (F:=ours V) (Keep.refl _ _) (p:=⟨V.rb,1,none⟩) (fun _=>rfl) _
 obtain ⟨X2,hX2⟩:∃ X,X1.setCell ⟨V.rb,1,none⟩ (.int .i64 ((p+1:Nat):Int))=X:=⟨_,rfl⟩
 have u2:X2.cell? ⟨w1.heap.size,1,none⟩=some (.string t.t):=by rw [← hX2,World.cell?_setCell_other _ _ _ _ (fun e=>by injection e with e1;exact hne e1.symm)];exact u1
 have hX2b:X1.setCell ⟨V.rb,1,none⟩ (.int .i64 ((p:Int)+1))=X2:=hX2
 rw [hX2] at hs hk
 have HA3:=Lib.hid (HA2.out.call hs hk)
 clear hs hk HA2 hne
 go_upto_region 4 with (fail)
 try rw [hX2]
 try rw [hX2b]
 clear hX2 hX2b hp hf wz u0 u1 HN
 go_upto_region 31 with (fail)
 clear u2
 have hF1:=HF0.out
 unfold Env.room at hF1
 by_cases hrm:(64:Int)≤(s.sources.length:Int)
 ·rw [if_pos hrm] at hF1
  dsimp only [Res.bnd,Env.stop] at hF1
  have HF1:=Lib.hid hF1
  clear hF1 HF0
  have HC1:=Lib.hid (room_bad V (p+1) (s.sources.length:Int) 64 X2 HA3.out.rd hrm)
  clear hrm
  have yl:=blk_cell (v:=(.slice A0 s.sources.length c0)) HA3.out.blk 5 rfl
  go_wp2_with (first | (go_at_call 55;refine HC1.out.mono ?_;rintro e w2 ⟨rfl,hk2⟩))
  refine ⟨rfl,?_⟩
  rw [HF1.out]
  exact ⟨rfl,Sx.Keep.toS (HA3.out.keep.trans hk2 (fun _ _ h=>h))⟩
 ·rw [if_neg hrm] at hF1
  dsimp only [Res.bnd] at hF1
  have HF1:=Lib.hid hF1
  clear hF1 HF0
  have HRM:=Lib.hid hrm
  have HC1:=Lib.hid (room_ok V (p+1) (s.sources.length:Int) 64 X2 (by have:=HRM.out;omega))
  clear hrm
  have yl:=blk_cell (v:=(.slice A0 s.sources.length c0)) HA3.out.blk 5 rfl
  go_upto_region 32 with (first | (go_at_call 55;refine HC1.out.mono ?_;rintro e w2 ⟨rfl,rfl⟩))
  clear yl HC1
  have HK2:=Lib.hid (fun w1 h1=>name_calls V (p+1) w1 h1)
  have hF2:=HF1.out
  generalize hr2:V.name (p+1)=r2 at hF2 HK2
  cases r2 with
  | bad er a =>
   dsimp only [Res.bnd] at hF2
   have HF2:=Lib.hid hF2
   clear hF2 HF1 hr2
   go_wp2_with (first | (go_at_call 56;refine (HK2.out X2 HA3.out.rd).mono ?_;rintro e w2 ⟨rfl,hk2⟩))
   refine ⟨rfl,?_⟩
   rw [HF2.out]
   exact ⟨rfl,Sx.Keep.toS (HA3.out.keep.trans hk2 (fun _ _ h=>h))⟩
  | ok n q2 =>
   dsimp only [Res.bnd] at hF2
   have HF2:=Lib.hid hF2
   clear hF2 HF1 hr2
   go_upto_region 33 with (first | (go_at_call 56;refine (HK2.out X2 HA3.out.rd).mono ?_;rintro e w2 ⟨x,rfl,rfl,hr2,hk2⟩;have HC2_0:=Lib.hid (HA3.out.call hr2 hk2)))
   have HD2_0:=Lib.hid (HC2_0.out.alloc (Obj.cells #[(.string n),(.int .i64 0)] 117))
   have HD2_1:=Lib.hid (Bx.new HA3.out.h0 hr2 HC2_0.out.keep 117 #[(.string n),(.int .i64 0)])
   obtain ⟨B,hB⟩:∃ B,w2.heap.size=B:=⟨_,rfl⟩
   have HNB:=Lib.hid (show SB≠B by
    rw [← hB]
    have h0:=World.block_lt_of_cell? _ _ (blk_cell (v:=(.string s.title)) HC2_0.out.blk 0 rfl)
    simp only at h0;omega)
   obtain ⟨X2,hX⟩:∃ X,w2.alloc (Obj.cells #[(.string n),(.int .i64 0)] 117)=X:=⟨_,rfl⟩
   rw [hX] at HD2_0
   rw [hX,hB] at HD2_1
   try rw [hX,hB]
   clear hX hr2 hk2 HK2 hB HA3 HC2_0 
   have HK3:=Lib.hid (fun w1 h1=>must_calls V q2 1 ⟨#[114,97,110,107]⟩ w1 h1 (by decide))
   have hF3:=HF2.out
   generalize hr3:V.must 1 ⟨#[114,97,110,107]⟩ q2=r3 at hF3 HK3
   cases r3 with
   | bad er a =>
    dsimp only [Res.bnd] at hF3
    have HF3:=Lib.hid hF3
    clear hF3 HF2 hr3
    go_wp2_with (first | (go_at_call 41;refine (HK3.out X2 HD2_0.out.rd).mono ?_;rintro e w2 ⟨rfl,hk2⟩))
    refine ⟨rfl,?_⟩
    rw [HF3.out]
    exact ⟨rfl,Sx.Keep.toS (HD2_0.out.keep.trans hk2 (fun _ _ h=>h))⟩
   | ok _ q3 =>
    dsimp only [Res.bnd] at hF3
    have HF3:=Lib.hid hF3
    clear hF3 HF2 hr3
    go_upto_region 34 with (first | (go_at_call 41;refine (HK3.out X2 HD2_0.out.rd).mono ?_;rintro e X3 ⟨x,rfl,rfl,hr2,hk2⟩;have HC3_0:=Lib.hid (HD2_0.out.call hr2 hk2);have HC3_1:=Lib.hid (HD2_1.out.call hr2 hk2)))
    have HD3_0:=Lib.hid (show Bs w X3 V p q3 SB own s ⟨x1,x2,x3,x4,.slice A0 s.sources.length c0,x6,x7,x8⟩ from HC3_0.out)
    have HD3_1:=Lib.hid (show Bx w X3 V p q3 B 117 #[(.string n),(.int .i64 0)] from HC3_1.out)
    clear hr2 hk2 HK3 HD2_0 HD2_1 HC3_0 HC3_1 
    have HK4:=Lib.hid (fun w1 h1=>whole_calls V 0 1000 (by decide) (by decide) (by decide) q3 w1 h1)
    have hF4:=HF3.out
    generalize hr4:V.whole 0 1000 q3=r4 at hF4 HK4
    cases r4 with
    | bad er a =>
     dsimp only [Res.bnd] at hF4
     have HF4:=Lib.hid hF4
     clear hF4 HF3 hr4
     go_wp2_with (first | (go_at_call 59;refine (HK4.out X3 HD3_0.out.rd).mono ?_;rintro e w2 ⟨rfl,hk2⟩))
     refine ⟨rfl,?_⟩
     rw [HF4.out]
     exact ⟨rfl,Sx.Keep.toS (HD3_0.out.keep.trans hk2 (fun _ _ h=>h))⟩
    | ok r q4 =>
     dsimp only [Res.bnd] at hF4
     have HF4:=Lib.hid hF4
     clear hF4 HF3 hr4
     go_upto_region 35 with (first | (go_at_call 59;refine (HK4.out X3 HD3_0.out.rd).mono ?_;rintro e w2 ⟨x,rfl,rfl,hr2,hk2⟩;have HC4_0:=Lib.hid (HD3_0.out.call hr2 hk2);have HC4_1:=Lib.hid (HD3_1.out.call hr2 hk2);have y1:=blk_cell (v:=(.int .i64 0)) HC4_1.out.blk 1 rfl;have f1:=blk_free HC4_1.out.blk 1))
     clear y1 f1
     have HD4_0:=Lib.hid (show Bs w (w2.setCell ⟨B,1,none⟩ (.int .i64 r)) V p q4 SB own s ⟨x1,x2,x3,x4,.slice A0 s.sources.length c0,x6,x7,x8⟩ from HC4_0.out.far HC4_1.out.ge (by have:=HNB.out;omega) 1 (.int .i64 r))
     have HD4_1:=Lib.hid (show Bx w (w2.setCell ⟨B,1,none⟩ (.int .i64 r)) V p q4 B 117 #[(.string n),(.int .i64 r)] from HC4_1.out.set 1 (.int .i64 r))
     clear hr2 hk2 HK4 HD3_0 HD3_1 HC4_0 HC4_1 
     generalize (w2.setCell ⟨B,1,none⟩ (.int .i64 r))=X4 at *
     have HW:=Lib.hid HD4_0.out.drew
     have ys:=blk_cell (v:=(.slice A0 s.sources.length c0)) HW.out.blk 5 rfl
     have ysa:∀ o,(X4.drew.alloc o).cell? ⟨SB,5,none⟩=some (.slice A0 s.sources.length c0):=fun o=>blk_cell (v:=(.slice A0 s.sources.length c0)) (HW.out.alloc o).blk 5 rfl
     have ysb:∀ o,(X4.alloc o).cell? ⟨SB,5,none⟩=some (.slice A0 s.sources.length c0):=fun o=>blk_cell (v:=(.slice A0 s.sources.length c0)) (HD4_0.out.alloc o).blk 5 rfl
     have yb0:X4.drew.cell? ⟨B,0,none⟩=some (.string n):=blk_cell (v:=(.string n)) HD4_1.out.blk 0 rfl
     have yb1:X4.drew.cell? ⟨B,1,none⟩=some (.int .i64 r):=blk_cell (v:=(.int .i64 r)) HD4_1.out.blk 1 rfl
     have HMM:=Lib.hid (show k117.M X4.drew (SB+1) (fun k=>w.heap.size≤k) (⟨n,r⟩:S117) [(.string n),(.int .i64 r)] from k117_mkM _ _ _ ⟨n,r⟩)
     go_region_law (refine Kd.R_append_step k117 (w0:=X4.drew) (SB+1) (by rfl) (.tmp 156) (.tmp 158) 27 117 (.agg #[.string ⟨#[]⟩,.int .i64 0]) 24 rfl Tryz.underlying27 info_sc rfl (by decide) (by decide) (.slice A0 s.sources.length c0) s.sources (⟨n,r⟩:S117) [(.string n),(.int .i64 r)] (okf SB w.heap.size own 5) (fun k=>w.heap.size≤k) rfl rfl HMM.out (HW.out.okn HW.out.st.r5) (HW.out.fresh 5) (HW.out.row HW.out.st.r5) (Below.refl _ _) HW.out.base (by have h1:=HRM.out;omega) ?_;intro v3 w3 hs3 hb3 hg3 hat3;obtain ⟨A9,c9,rfl⟩:=Kd.R_slice hs3;rw [List.length_append,List.length_singleton] at hs3;have hbk3:=(hb3.block SB (Nat.lt_succ_self _)).trans HW.out.blk;have y3:=blk_cell (v:=(.slice A0 s.sources.length c0)) hbk3 5 rfl;have f3:=blk_free hbk3 5)
     all_goals
      go_wp2_with fail
      go_end0
      rw [HF4.out]
      exact ⟨rfl,HW.out.fin5 hs3 hb3 hg3⟩
theorem info_ex:(Tryz.prog.info? 120).map (fun i=>(i.zero,i.size,i.bytes))=some (some (.agg #[.string ⟨#[]⟩,.string ⟨#[]⟩]),2,32):=by kernel_rfl
theorem item_exception_eq (V:Env) (cal:ByteArray→Int × Int) (s:Stt) (p:Nat) (hk:(V.next p).k=1) (ht:(V.next p).t.toList=[101,120,99,101,112,116,105,111,110]):V.item cal s p=(V.room s.excepts.length 512 (p+1)).bnd fun _ q=>(V.name q).bnd fun a q2=>(V.must 1 ⟨#[116,111]⟩ q2).bnd fun _ q3=>(V.name q3).bnd fun b q4=>.ok { s with excepts:=s.excepts++[⟨a,b⟩] } q4:=by
 unfold Env.item
 rw [if_pos (by rw [hk];rfl),ht]
 rfl
theorem item_exception_calls (V:Env) (cal:ByteArray→Int × Int)
  (p SB:Nat) (own:Nat→Nat) (s:Stt) (v:Vs) (w:World) (h:Rd w V p) (lo:Lo V SB) (hs:StB w SB own s v) (hk:(V.next p).k=1) (ht:(V.next p).t.toList=[101,120,99,101,112,116,105,111,110]) :
  Calls Tryz.prog 42 #[.pointer (some ⟨V.rb,0,none⟩),.pointer (some ⟨SB,0,none⟩)] w (PostS V SB w (V.item cal s p)):=by
 have hmf:∀ (fn:Fn) (first cap:Array Value) (w:World),(Instr.makeFunc fn first cap).run Tryz.prog w=.ok (.func fn first cap) w:=fun _ _ _ _=>rfl
 obtain ⟨x1,x2,x3,x4,x5,x6,x7,x8⟩:=v
 have e0:=Kd.R_slice hs.r7
 dsimp only at e0
 obtain ⟨A0,c0,rfl⟩:=e0
 have hF0:=item_exception_eq V cal s p hk ht
 have HLT:=Lib.hid (Sx.next_lt (V:=V) (p:=p) (by rw [hk];decide))
 have HN:=Lib.hid (fun w1 (h1:Rd w1 V p)=>next_calls V p w1 h1)
 unfold Sx.tv at HN
 generalize V.item cal s p=F at *
 generalize V.next p=t at *
 have HF0:=Lib.hid hF0
 have e1:(t.k != 1)=false:=by rw [hk];rfl
 have k0:(t.t.toList==[107,105,110,100])=false:=by rw [ht];rfl
 have k1:(t.t.toList==[109,101,109,98,101,114])=false:=by rw [ht];rfl
 have k2:(t.t.toList==[112,114,101,100])=false:=by rw [ht];rfl
 have k3:(t.t.toList==[110,117,109,98,101,114])=false:=by rw [ht];rfl
 have k4:(t.t.toList==[97,109,111,117,110,116])=false:=by rw [ht];rfl
 have k5:(t.t.toList==[99,108,97,115,115])=false:=by rw [ht];rfl
 have k6:(t.t.toList==[115,111,117,114,99,101])=false:=by rw [ht];rfl
 have k7:(t.t.toList==[114,117,108,101])=false:=by rw [ht];rfl
 have k8:(t.t.toList==[101,120,99,101,112,116,105,111,110])=true:=by rw [ht];rfl
 have HA0:=Lib.hid (show Bs w w V p p SB own s ⟨x1,x2,x3,x4,x5,x6,.slice A0 s.excepts.length c0,x8⟩ from ⟨h,lo,hs,h,Keep.refl _ _⟩)
 clear h lo hs hk ht hF0
 go_enter Tryz.func42,Tryz.ntmps42
 go_upto_region 1 with (first | (go_at_call 39;refine (HN.out w HA0.out.rd).mono ?_;rintro e w1 ⟨rfl,hb1⟩;have HA1:=Lib.hid (HA0.out.call (HA0.out.rd.below hb1) (Keep.of_below hb1));clear hb1))
 obtain ⟨X1,hX1⟩:∃ X,w1.alloc (Obj.cells #[.int .i64 t.k,.string t.t,.int .i64 t.a] 48)=X:=⟨_,rfl⟩
 have HA2:=Lib.hid (HA1.out.alloc (Obj.cells #[.int .i64 t.k,.string t.t,.int .i64 t.a] 48))
 have u0:X1.cell? ⟨w1.heap.size,0,none⟩=some (.int .i64 t.k):=by rw [← hX1];exact blk_cell (heap_alloc_new w1 _) 0 rfl
 have u1:X1.cell? ⟨w1.heap.size,1,none⟩=some (.string t.t):=by rw [← hX1];exact blk_cell (heap_alloc_new w1 _) 1 rfl
 have hne:w1.heap.size≠V.rb:=by have h1:=World.block_lt_of_cell? _ _ HA1.out.rd.pos;simp only at h1;omega
 rw [hX1] at HA2
 try rw [hX1]
 clear hX1 HA1
 have hp:=HA2.out.rd.pos
 have hf:=HA2.out.rd.f
 have wz:IntKind.i64.wrap ((p:Nat)+1:Int)=((p+1:Nat):Int):=by have h1:=HA2.out.rd.n;have h2:=HLT.out;rw [IntWalk.i64_in _ (by omega)];omega
 have hs:=HA2.out.rd.step (p+1) HLT.out
 have hk:Keep (ours V) X1 (X1.setCell ⟨V.rb,1,none⟩ (.int .i64 ((p+1:Nat):Int))):=Keep.setCell (F:=ours V) (Keep.refl _ _) (p:=⟨V.rb,1,none⟩) (fun _=>rfl) _
 obtain ⟨X2,hX2⟩:∃ X,X1.setCell ⟨V.rb,1,none⟩ (.int .i64 ((p+1:Nat):Int))=X:=⟨_,rfl⟩
 have u2:X2.cell? ⟨w1.heap.size,1,none⟩=some (.string t.t):=by rw [← hX2,World.cell?_setCell_other _ _ _ _ (fun e=>by injection e with e1;exact hne e1.symm)];exact u1
 have hX2b:X1.setCell ⟨V.rb,1,none⟩ (.int .i64 ((p:Int)+1))=X2:=hX2
 rw [hX2] at hs hk
 have HA3:=Lib.hid (HA2.out.call hs hk)
 clear hs hk HA2 hne
 go_upto_region 4 with (fail)
 try rw [hX2]
 try rw [hX2b]
 clear hX2 hX2b hp hf wz u0 u1 HN
 go_upto_region 40 with (fail)
 clear u2
 have hF5:=HF0.out
 unfold Env.room at hF5
 by_cases hrm:(512:Int)≤(s.excepts.length:Int)
 ·rw [if_pos hrm] at hF5
  dsimp only [Res.bnd,Env.stop] at hF5
  have HF5:=Lib.hid hF5
  clear hF5 HF0
  have HC5:=Lib.hid (room_bad V (p+1) (s.excepts.length:Int) 512 X2 HA3.out.rd hrm)
  clear hrm
  have yl:=blk_cell (v:=(.slice A0 s.excepts.length c0)) HA3.out.blk 7 rfl
  go_wp2_with (first | (go_at_call 55;refine HC5.out.mono ?_;rintro e w2 ⟨rfl,hk2⟩))
  refine ⟨rfl,?_⟩
  rw [HF5.out]
  exact ⟨rfl,Sx.Keep.toS (HA3.out.keep.trans hk2 (fun _ _ h=>h))⟩
 ·rw [if_neg hrm] at hF5
  dsimp only [Res.bnd] at hF5
  have HF5:=Lib.hid hF5
  clear hF5 HF0
  have HRM:=Lib.hid hrm
  have HC5:=Lib.hid (room_ok V (p+1) (s.excepts.length:Int) 512 X2 (by have:=HRM.out;omega))
  clear hrm
  have yl:=blk_cell (v:=(.slice A0 s.excepts.length c0)) HA3.out.blk 7 rfl
  go_upto_region 41 with (first | (go_at_call 55;refine HC5.out.mono ?_;rintro e w2 ⟨rfl,rfl⟩))
  clear yl HC5
  have HK6:=Lib.hid (fun w1 h1=>name_calls V (p+1) w1 h1)
  have hF6:=HF5.out
  generalize hr6:V.name (p+1)=r6 at hF6 HK6
  cases r6 with
  | bad er a =>
   dsimp only [Res.bnd] at hF6
   have HF6:=Lib.hid hF6
   clear hF6 HF5 hr6
   go_wp2_with (first | (go_at_call 56;refine (HK6.out X2 HA3.out.rd).mono ?_;rintro e w2 ⟨rfl,hk2⟩))
   refine ⟨rfl,?_⟩
   rw [HF6.out]
   exact ⟨rfl,Sx.Keep.toS (HA3.out.keep.trans hk2 (fun _ _ h=>h))⟩
  | ok a q2 =>
   dsimp only [Res.bnd] at hF6
   have HF6:=Lib.hid hF6
   clear hF6 HF5 hr6
   go_upto_region 42 with (first | (go_at_call 56;refine (HK6.out X2 HA3.out.rd).mono ?_;rintro e w2 ⟨x,rfl,rfl,hr2,hk2⟩;have HC6_0:=Lib.hid (HA3.out.call hr2 hk2)))
   have HD6_0:=Lib.hid (HC6_0.out.alloc (Obj.cells #[(.string a),(.string ⟨#[]⟩)] 120))
   have HD6_1:=Lib.hid (Bx.new HA3.out.h0 hr2 HC6_0.out.keep 120 #[(.string a),(.string ⟨#[]⟩)])
   obtain ⟨B,hB⟩:∃ B,w2.heap.size=B:=⟨_,rfl⟩
   have HNB:=Lib.hid (show SB≠B by
    rw [← hB]
    have h0:=World.block_lt_of_cell? _ _ (blk_cell (v:=(.string s.title)) HC6_0.out.blk 0 rfl)
    simp only at h0;omega)
   obtain ⟨X6,hX⟩:∃ X,w2.alloc (Obj.cells #[(.string a),(.string ⟨#[]⟩)] 120)=X:=⟨_,rfl⟩
   rw [hX] at HD6_0
   rw [hX,hB] at HD6_1
   try rw [hX,hB]
   clear hX hr2 hk2 HK6 hB HA3 HC6_0 
   have HK7:=Lib.hid (fun w1 h1=>must_calls V q2 1 ⟨#[116,111]⟩ w1 h1 (by decide))
   have hF7:=HF6.out
   generalize hr7:V.must 1 ⟨#[116,111]⟩ q2=r7 at hF7 HK7
   cases r7 with
   | bad er a =>
    dsimp only [Res.bnd] at hF7
    have HF7:=Lib.hid hF7
    clear hF7 HF6 hr7
    go_wp2_with (first | (go_at_call 41;refine (HK7.out X6 HD6_0.out.rd).mono ?_;rintro e w2 ⟨rfl,hk2⟩))
    refine ⟨rfl,?_⟩
    rw [HF7.out]
    exact ⟨rfl,Sx.Keep.toS (HD6_0.out.keep.trans hk2 (fun _ _ h=>h))⟩
   | ok _ q3 =>
    dsimp only [Res.bnd] at hF7
    have HF7:=Lib.hid hF7
    clear hF7 HF6 hr7
    go_upto_region 43 with (first | (go_at_call 41;refine (HK7.out X6 HD6_0.out.rd).mono ?_;rintro e X7 ⟨x,rfl,rfl,hr2,hk2⟩;have HC7_0:=Lib.hid (HD6_0.out.call hr2 hk2);have HC7_1:=Lib.hid (HD6_1.out.call hr2 hk2)))
    have HD7_0:=Lib.hid (show Bs w X7 V p q3 SB own s ⟨x1,x2,x3,x4,x5,x6,.slice A0 s.excepts.length c0,x8⟩ from HC7_0.out)
    have HD7_1:=Lib.hid (show Bx w X7 V p q3 B 120 #[(.string a),(.string ⟨#[]⟩)] from HC7_1.out)
    clear hr2 hk2 HK7 HD6_0 HD6_1 HC7_0 HC7_1 
    have HK8:=Lib.hid (fun w1 h1=>name_calls V q3 w1 h1)
    have hF8:=HF7.out
    generalize hr8:V.name q3=r8 at hF8 HK8
    cases r8 with
    | bad er a =>
     dsimp only [Res.bnd] at hF8
     have HF8:=Lib.hid hF8
     clear hF8 HF7 hr8
     go_wp2_with (first | (go_at_call 56;refine (HK8.out X7 HD7_0.out.rd).mono ?_;rintro e w2 ⟨rfl,hk2⟩))
     refine ⟨rfl,?_⟩
     rw [HF8.out]
     exact ⟨rfl,Sx.Keep.toS (HD7_0.out.keep.trans hk2 (fun _ _ h=>h))⟩
    | ok b q4 =>
     dsimp only [Res.bnd] at hF8
     have HF8:=Lib.hid hF8
     clear hF8 HF7 hr8
     go_upto_region 44 with (first | (go_at_call 56;refine (HK8.out X7 HD7_0.out.rd).mono ?_;rintro e w2 ⟨x,rfl,rfl,hr2,hk2⟩;have HC8_0:=Lib.hid (HD7_0.out.call hr2 hk2);have HC8_1:=Lib.hid (HD7_1.out.call hr2 hk2);have y1:=blk_cell (v:=(.string ⟨#[]⟩)) HC8_1.out.blk 1 rfl;have f1:=blk_free HC8_1.out.blk 1))
     clear y1 f1
     have HD8_0:=Lib.hid (show Bs w (w2.setCell ⟨B,1,none⟩ (.string b)) V p q4 SB own s ⟨x1,x2,x3,x4,x5,x6,.slice A0 s.excepts.length c0,x8⟩ from HC8_0.out.far HC8_1.out.ge (by have:=HNB.out;omega) 1 (.string b))
     have HD8_1:=Lib.hid (show Bx w (w2.setCell ⟨B,1,none⟩ (.string b)) V p q4 B 120 #[(.string a),(.string b)] from HC8_1.out.set 1 (.string b))
     clear hr2 hk2 HK8 HD7_0 HD7_1 HC8_0 HC8_1 
     generalize (w2.setCell ⟨B,1,none⟩ (.string b))=X8 at *
     have HW:=Lib.hid HD8_0.out.drew
     have ys:=blk_cell (v:=(.slice A0 s.excepts.length c0)) HW.out.blk 7 rfl
     have ysa:∀ o,(X8.drew.alloc o).cell? ⟨SB,7,none⟩=some (.slice A0 s.excepts.length c0):=fun o=>blk_cell (v:=(.slice A0 s.excepts.length c0)) (HW.out.alloc o).blk 7 rfl
     have ysb:∀ o,(X8.alloc o).cell? ⟨SB,7,none⟩=some (.slice A0 s.excepts.length c0):=fun o=>blk_cell (v:=(.slice A0 s.excepts.length c0)) (HD8_0.out.alloc o).blk 7 rfl
     have yb0:X8.drew.cell? ⟨B,0,none⟩=some (.string a):=blk_cell (v:=(.string a)) HD8_1.out.blk 0 rfl
     have yb1:X8.drew.cell? ⟨B,1,none⟩=some (.string b):=blk_cell (v:=(.string b)) HD8_1.out.blk 1 rfl
     have HMM:=Lib.hid (show k120.M X8.drew (SB+1) (fun k=>w.heap.size≤k) (⟨a,b⟩:S120) [(.string a),(.string b)] from k120_mkM _ _ _ ⟨a,b⟩)
     go_region_law (refine Kd.R_append_step k120 (w0:=X8.drew) (SB+1) (by rfl) (.tmp 203) (.tmp 205) 29 120 (.agg #[.string ⟨#[]⟩,.string ⟨#[]⟩]) 32 rfl Tryz.underlying29 info_ex rfl (by decide) (by decide) (.slice A0 s.excepts.length c0) s.excepts (⟨a,b⟩:S120) [(.string a),(.string b)] (okf SB w.heap.size own 7) (fun k=>w.heap.size≤k) rfl rfl HMM.out (HW.out.okn HW.out.st.r7) (HW.out.fresh 7) (HW.out.row HW.out.st.r7) (Below.refl _ _) HW.out.base (by have h1:=HRM.out;omega) ?_;intro v3 w3 hs3 hb3 hg3 hat3;obtain ⟨A9,c9,rfl⟩:=Kd.R_slice hs3;rw [List.length_append,List.length_singleton] at hs3;have hbk3:=(hb3.block SB (Nat.lt_succ_self _)).trans HW.out.blk;have y3:=blk_cell (v:=(.slice A0 s.excepts.length c0)) hbk3 7 rfl;have f3:=blk_free hbk3 7)
     all_goals
      go_wp2_with fail
      go_end0
      rw [HF8.out]
      exact ⟨rfl,HW.out.fin7 hs3 hb3 hg3⟩
theorem item_pred_eq (V:Env) (cal:ByteArray→Int × Int) (s:Stt) (p:Nat) (hk:(V.next p).k=1) (ht:(V.next p).t.toList=[112,114,101,100]):V.item cal s p=(V.pred s.preds.length 1 (p+1)).bnd fun x q=>.ok { s with preds:=s.preds++[x] } q:=by
 unfold Env.item
 rw [if_pos (by rw [hk];rfl),ht]
 rfl
theorem item_pred_calls (V:Env) (cal:ByteArray→Int × Int)
  (p SB:Nat) (own:Nat→Nat) (s:Stt) (v:Vs) (w:World) (h:Rd w V p) (lo:Lo V SB) (hs:StB w SB own s v) (hk:(V.next p).k=1) (ht:(V.next p).t.toList=[112,114,101,100]) :
  Calls Tryz.prog 42 #[.pointer (some ⟨V.rb,0,none⟩),.pointer (some ⟨SB,0,none⟩)] w (PostS V SB w (V.item cal s p)):=by
 have hmf:∀ (fn:Fn) (first cap:Array Value) (w:World),(Instr.makeFunc fn first cap).run Tryz.prog w=.ok (.func fn first cap) w:=fun _ _ _ _=>rfl
 obtain ⟨x1,x2,x3,x4,x5,x6,x7,x8⟩:=v
 have e0:=Kd.R_slice hs.r3
 dsimp only at e0
 obtain ⟨A0,c0,rfl⟩:=e0
 have hF0:=item_pred_eq V cal s p hk ht
 have HLT:=Lib.hid (Sx.next_lt (V:=V) (p:=p) (by rw [hk];decide))
 have HN:=Lib.hid (fun w1 (h1:Rd w1 V p)=>next_calls V p w1 h1)
 unfold Sx.tv at HN
 generalize V.item cal s p=F at *
 generalize V.next p=t at *
 have HF0:=Lib.hid hF0
 have e1:(t.k != 1)=false:=by rw [hk];rfl
 have k0:(t.t.toList==[107,105,110,100])=false:=by rw [ht];rfl
 have k1:(t.t.toList==[109,101,109,98,101,114])=false:=by rw [ht];rfl
 have k2:(t.t.toList==[112,114,101,100])=true:=by rw [ht];rfl
 have HA0:=Lib.hid (show Bs w w V p p SB own s ⟨x1,x2,.slice A0 s.preds.length c0,x4,x5,x6,x7,x8⟩ from ⟨h,lo,hs,h,Keep.refl _ _⟩)
 clear h lo hs hk ht hF0
 go_enter Tryz.func42,Tryz.ntmps42
 go_upto_region 1 with (first | (go_at_call 39;refine (HN.out w HA0.out.rd).mono ?_;rintro e w1 ⟨rfl,hb1⟩;have HA1:=Lib.hid (HA0.out.call (HA0.out.rd.below hb1) (Keep.of_below hb1));clear hb1))
 obtain ⟨X1,hX1⟩:∃ X,w1.alloc (Obj.cells #[.int .i64 t.k,.string t.t,.int .i64 t.a] 48)=X:=⟨_,rfl⟩
 have HA2:=Lib.hid (HA1.out.alloc (Obj.cells #[.int .i64 t.k,.string t.t,.int .i64 t.a] 48))
 have u0:X1.cell? ⟨w1.heap.size,0,none⟩=some (.int .i64 t.k):=by rw [← hX1];exact blk_cell (heap_alloc_new w1 _) 0 rfl
 have u1:X1.cell? ⟨w1.heap.size,1,none⟩=some (.string t.t):=by rw [← hX1];exact blk_cell (heap_alloc_new w1 _) 1 rfl
 have hne:w1.heap.size≠V.rb:=by have h1:=World.block_lt_of_cell? _ _ HA1.out.rd.pos;simp only at h1;omega
 rw [hX1] at HA2
 try rw [hX1]
 clear hX1 HA1
 have hp:=HA2.out.rd.pos
 have hf:=HA2.out.rd.f
 have wz:IntKind.i64.wrap ((p:Nat)+1:Int)=((p+1:Nat):Int):=by have h1:=HA2.out.rd.n;have h2:=HLT.out;rw [IntWalk.i64_in _ (by omega)];omega
 have hs:=HA2.out.rd.step (p+1) HLT.out
 have hk:Keep (ours V) X1 (X1.setCell ⟨V.rb,1,none⟩ (.int .i64 ((p+1:Nat):Int))):=Keep.setCell (F:=ours V) (Keep.refl _ _) (p:=⟨V.rb,1,none⟩) (fun _=>rfl) _
 obtain ⟨X2,hX2⟩:∃ X,X1.setCell ⟨V.rb,1,none⟩ (.int .i64 ((p+1:Nat):Int))=X:=⟨_,rfl⟩
 have u2:X2.cell? ⟨w1.heap.size,1,none⟩=some (.string t.t):=by rw [← hX2,World.cell?_setCell_other _ _ _ _ (fun e=>by injection e with e1;exact hne e1.symm)];exact u1
 have hX2b:X1.setCell ⟨V.rb,1,none⟩ (.int .i64 ((p:Int)+1))=X2:=hX2
 rw [hX2] at hs hk
 have HA3:=Lib.hid (HA2.out.call hs hk)
 clear hs hk HA2 hne
 go_upto_region 4 with (fail)
 try rw [hX2]
 try rw [hX2b]
 clear hX2 hX2b hp hf wz u0 u1 HN
 go_upto_region 20 with (fail)
 clear u2
 have HC:=Lib.hid (pred_calls V 1 (p+1) SB own s ⟨x1,x2,.slice A0 s.preds.length c0,x4,x5,x6,x7,x8⟩ X2 HA3.out.rd HA3.out.lo (HA3.out.st.move HA3.out.lo HA3.out.keep))
 have hF:=HF0.out
 rw [← hF] at HC
 clear hF
 cases F with
 | bad er a =>
  go_wp2_with (first | (go_at_call 58;refine HC.out.mono ?_;rintro e w2 ⟨rfl,hk2⟩))
  exact ⟨rfl,rfl,(Sx.Keep.toS HA3.out.keep).trans hk2 (fun _ _ h=>h)⟩
 | ok s2 q =>
  go_wp2_with (first | (go_at_call 58;refine HC.out.mono ?_;rintro e w2 ⟨rfl,hr2,hs2,hk2⟩))
  go_end0
  exact ⟨rfl,hr2,hs2,(Sx.Keep.toS HA3.out.keep).trans hk2 (fun _ _ h=>h)⟩
theorem item_number_eq (V:Env) (cal:ByteArray→Int × Int) (s:Stt) (p:Nat) (hk:(V.next p).k=1) (ht:(V.next p).t.toList=[110,117,109,98,101,114]):V.item cal s p=(V.pred s.preds.length 2 (p+1)).bnd fun x q=>.ok { s with preds:=s.preds++[x] } q:=by
 unfold Env.item
 rw [if_pos (by rw [hk];rfl),ht]
 rfl
theorem item_number_calls (V:Env) (cal:ByteArray→Int × Int)
  (p SB:Nat) (own:Nat→Nat) (s:Stt) (v:Vs) (w:World) (h:Rd w V p) (lo:Lo V SB) (hs:StB w SB own s v) (hk:(V.next p).k=1) (ht:(V.next p).t.toList=[110,117,109,98,101,114]) :
  Calls Tryz.prog 42 #[.pointer (some ⟨V.rb,0,none⟩),.pointer (some ⟨SB,0,none⟩)] w (PostS V SB w (V.item cal s p)):=by
 have hmf:∀ (fn:Fn) (first cap:Array Value) (w:World),(Instr.makeFunc fn first cap).run Tryz.prog w=.ok (.func fn first cap) w:=fun _ _ _ _=>rfl
 obtain ⟨x1,x2,x3,x4,x5,x6,x7,x8⟩:=v
 have e0:=Kd.R_slice hs.r3
 dsimp only at e0
 obtain ⟨A0,c0,rfl⟩:=e0
 have hF0:=item_number_eq V cal s p hk ht
 have HLT:=Lib.hid (Sx.next_lt (V:=V) (p:=p) (by rw [hk];decide))
 have HN:=Lib.hid (fun w1 (h1:Rd w1 V p)=>next_calls V p w1 h1)
 unfold Sx.tv at HN
 generalize V.item cal s p=F at *
 generalize V.next p=t at *
 have HF0:=Lib.hid hF0
 have e1:(t.k != 1)=false:=by rw [hk];rfl
 have k0:(t.t.toList==[107,105,110,100])=false:=by rw [ht];rfl
 have k1:(t.t.toList==[109,101,109,98,101,114])=false:=by rw [ht];rfl
 have k2:(t.t.toList==[112,114,101,100])=false:=by rw [ht];rfl
 have k3:(t.t.toList==[110,117,109,98,101,114])=true:=by rw [ht];rfl
 have HA0:=Lib.hid (show Bs w w V p p SB own s ⟨x1,x2,.slice A0 s.preds.length c0,x4,x5,x6,x7,x8⟩ from ⟨h,lo,hs,h,Keep.refl _ _⟩)
 clear h lo hs hk ht hF0
 go_enter Tryz.func42,Tryz.ntmps42
 go_upto_region 1 with (first | (go_at_call 39;refine (HN.out w HA0.out.rd).mono ?_;rintro e w1 ⟨rfl,hb1⟩;have HA1:=Lib.hid (HA0.out.call (HA0.out.rd.below hb1) (Keep.of_below hb1));clear hb1))
 obtain ⟨X1,hX1⟩:∃ X,w1.alloc (Obj.cells #[.int .i64 t.k,.string t.t,.int .i64 t.a] 48)=X:=⟨_,rfl⟩
 have HA2:=Lib.hid (HA1.out.alloc (Obj.cells #[.int .i64 t.k,.string t.t,.int .i64 t.a] 48))
 have u0:X1.cell? ⟨w1.heap.size,0,none⟩=some (.int .i64 t.k):=by rw [← hX1];exact blk_cell (heap_alloc_new w1 _) 0 rfl
 have u1:X1.cell? ⟨w1.heap.size,1,none⟩=some (.string t.t):=by rw [← hX1];exact blk_cell (heap_alloc_new w1 _) 1 rfl
 have hne:w1.heap.size≠V.rb:=by have h1:=World.block_lt_of_cell? _ _ HA1.out.rd.pos;simp only at h1;omega
 rw [hX1] at HA2
 try rw [hX1]
 clear hX1 HA1
 have hp:=HA2.out.rd.pos
 have hf:=HA2.out.rd.f
 have wz:IntKind.i64.wrap ((p:Nat)+1:Int)=((p+1:Nat):Int):=by have h1:=HA2.out.rd.n;have h2:=HLT.out;rw [IntWalk.i64_in _ (by omega)];omega
 have hs:=HA2.out.rd.step (p+1) HLT.out
 have hk:Keep (ours V) X1 (X1.setCell ⟨V.rb,1,none⟩ (.int .i64 ((p+1:Nat):Int))):=Keep.setCell (F:=ours V) (Keep.refl _ _) (p:=⟨V.rb,1,none⟩) (fun _=>rfl) _
 obtain ⟨X2,hX2⟩:∃ X,X1.setCell ⟨V.rb,1,none⟩ (.int .i64 ((p+1:Nat):Int))=X:=⟨_,rfl⟩
 have u2:X2.cell? ⟨w1.heap.size,1,none⟩=some (.string t.t):=by rw [← hX2,World.cell?_setCell_other _ _ _ _ (fun e=>by injection e with e1;exact hne e1.symm)];exact u1
 have hX2b:X1.setCell ⟨V.rb,1,none⟩ (.int .i64 ((p:Int)+1))=X2:=hX2
 rw [hX2] at hs hk
 have HA3:=Lib.hid (HA2.out.call hs hk)
 clear hs hk HA2 hne
 go_upto_region 4 with (fail)
 try rw [hX2]
 try rw [hX2b]
 clear hX2 hX2b hp hf wz u0 u1 HN
 go_upto_region 22 with (fail)
 clear u2
 have HC:=Lib.hid (pred_calls V 2 (p+1) SB own s ⟨x1,x2,.slice A0 s.preds.length c0,x4,x5,x6,x7,x8⟩ X2 HA3.out.rd HA3.out.lo (HA3.out.st.move HA3.out.lo HA3.out.keep))
 have hF:=HF0.out
 rw [← hF] at HC
 clear hF
 cases F with
 | bad er a =>
  go_wp2_with (first | (go_at_call 58;refine HC.out.mono ?_;rintro e w2 ⟨rfl,hk2⟩))
  exact ⟨rfl,rfl,(Sx.Keep.toS HA3.out.keep).trans hk2 (fun _ _ h=>h)⟩
 | ok s2 q =>
  go_wp2_with (first | (go_at_call 58;refine HC.out.mono ?_;rintro e w2 ⟨rfl,hr2,hs2,hk2⟩))
  go_end0
  exact ⟨rfl,hr2,hs2,(Sx.Keep.toS HA3.out.keep).trans hk2 (fun _ _ h=>h)⟩
theorem item_amount_eq (V:Env) (cal:ByteArray→Int × Int) (s:Stt) (p:Nat) (hk:(V.next p).k=1) (ht:(V.next p).t.toList=[97,109,111,117,110,116]):V.item cal s p=(V.pred s.preds.length 3 (p+1)).bnd fun x q=>.ok { s with preds:=s.preds++[x] } q:=by
 unfold Env.item
 rw [if_pos (by rw [hk];rfl),ht]
 rfl
theorem item_amount_calls (V:Env) (cal:ByteArray→Int × Int)
  (p SB:Nat) (own:Nat→Nat) (s:Stt) (v:Vs) (w:World) (h:Rd w V p) (lo:Lo V SB) (hs:StB w SB own s v) (hk:(V.next p).k=1) (ht:(V.next p).t.toList=[97,109,111,117,110,116]) :
  Calls Tryz.prog 42 #[.pointer (some ⟨V.rb,0,none⟩),.pointer (some ⟨SB,0,none⟩)] w (PostS V SB w (V.item cal s p)):=by
 have hmf:∀ (fn:Fn) (first cap:Array Value) (w:World),(Instr.makeFunc fn first cap).run Tryz.prog w=.ok (.func fn first cap) w:=fun _ _ _ _=>rfl
 obtain ⟨x1,x2,x3,x4,x5,x6,x7,x8⟩:=v
 have e0:=Kd.R_slice hs.r3
 dsimp only at e0
 obtain ⟨A0,c0,rfl⟩:=e0
 have hF0:=item_amount_eq V cal s p hk ht
 have HLT:=Lib.hid (Sx.next_lt (V:=V) (p:=p) (by rw [hk];decide))
 have HN:=Lib.hid (fun w1 (h1:Rd w1 V p)=>next_calls V p w1 h1)
 unfold Sx.tv at HN
 generalize V.item cal s p=F at *
 generalize V.next p=t at *
 have HF0:=Lib.hid hF0
 have e1:(t.k != 1)=false:=by rw [hk];rfl
 have k0:(t.t.toList==[107,105,110,100])=false:=by rw [ht];rfl
 have k1:(t.t.toList==[109,101,109,98,101,114])=false:=by rw [ht];rfl
 have k2:(t.t.toList==[112,114,101,100])=false:=by rw [ht];rfl
 have k3:(t.t.toList==[110,117,109,98,101,114])=false:=by rw [ht];rfl
 have k4:(t.t.toList==[97,109,111,117,110,116])=true:=by rw [ht];rfl
 have HA0:=Lib.hid (show Bs w w V p p SB own s ⟨x1,x2,.slice A0 s.preds.length c0,x4,x5,x6,x7,x8⟩ from ⟨h,lo,hs,h,Keep.refl _ _⟩)
 clear h lo hs hk ht hF0
 go_enter Tryz.func42,Tryz.ntmps42
 go_upto_region 1 with (first | (go_at_call 39;refine (HN.out w HA0.out.rd).mono ?_;rintro e w1 ⟨rfl,hb1⟩;have HA1:=Lib.hid (HA0.out.call (HA0.out.rd.below hb1) (Keep.of_below hb1));clear hb1))
 obtain ⟨X1,hX1⟩:∃ X,w1.alloc (Obj.cells #[.int .i64 t.k,.string t.t,.int .i64 t.a] 48)=X:=⟨_,rfl⟩
 have HA2:=Lib.hid (HA1.out.alloc (Obj.cells #[.int .i64 t.k,.string t.t,.int .i64 t.a] 48))
 have u0:X1.cell? ⟨w1.heap.size,0,none⟩=some (.int .i64 t.k):=by rw [← hX1];exact blk_cell (heap_alloc_new w1 _) 0 rfl
 have u1:X1.cell? ⟨w1.heap.size,1,none⟩=some (.string t.t):=by rw [← hX1];exact blk_cell (heap_alloc_new w1 _) 1 rfl
 have hne:w1.heap.size≠V.rb:=by have h1:=World.block_lt_of_cell? _ _ HA1.out.rd.pos;simp only at h1;omega
 rw [hX1] at HA2
 try rw [hX1]
 clear hX1 HA1
 have hp:=HA2.out.rd.pos
 have hf:=HA2.out.rd.f
 have wz:IntKind.i64.wrap ((p:Nat)+1:Int)=((p+1:Nat):Int):=by have h1:=HA2.out.rd.n;have h2:=HLT.out;rw [IntWalk.i64_in _ (by omega)];omega
 have hs:=HA2.out.rd.step (p+1) HLT.out
 have hk:Keep (ours V) X1 (X1.setCell ⟨V.rb,1,none⟩ (.int .i64 ((p+1:Nat):Int))):=Keep.setCell (F:=ours V) (Keep.refl _ _) (p:=⟨V.rb,1,none⟩) (fun _=>rfl) _
 obtain ⟨X2,hX2⟩:∃ X,X1.setCell ⟨V.rb,1,none⟩ (.int .i64 ((p+1:Nat):Int))=X:=⟨_,rfl⟩
 have u2:X2.cell? ⟨w1.heap.size,1,none⟩=some (.string t.t):=by rw [← hX2,World.cell?_setCell_other _ _ _ _ (fun e=>by injection e with e1;exact hne e1.symm)];exact u1
 have hX2b:X1.setCell ⟨V.rb,1,none⟩ (.int .i64 ((p:Int)+1))=X2:=hX2
 rw [hX2] at hs hk
 have HA3:=Lib.hid (HA2.out.call hs hk)
 clear hs hk HA2 hne
 go_upto_region 4 with (fail)
 try rw [hX2]
 try rw [hX2b]
 clear hX2 hX2b hp hf wz u0 u1 HN
 go_upto_region 24 with (fail)
 clear u2
 have HC:=Lib.hid (pred_calls V 3 (p+1) SB own s ⟨x1,x2,.slice A0 s.preds.length c0,x4,x5,x6,x7,x8⟩ X2 HA3.out.rd HA3.out.lo (HA3.out.st.move HA3.out.lo HA3.out.keep))
 have hF:=HF0.out
 rw [← hF] at HC
 clear hF
 cases F with
 | bad er a =>
  go_wp2_with (first | (go_at_call 58;refine HC.out.mono ?_;rintro e w2 ⟨rfl,hk2⟩))
  exact ⟨rfl,rfl,(Sx.Keep.toS HA3.out.keep).trans hk2 (fun _ _ h=>h)⟩
 | ok s2 q =>
  go_wp2_with (first | (go_at_call 58;refine HC.out.mono ?_;rintro e w2 ⟨rfl,hr2,hs2,hk2⟩))
  go_end0
  exact ⟨rfl,hr2,hs2,(Sx.Keep.toS HA3.out.keep).trans hk2 (fun _ _ h=>h)⟩
theorem item_none_calls (V:Env) (cal:ByteArray→Int × Int) (p SB:Nat) (own:Nat→Nat) (s:Stt) (v:Vs) (w:World) (h:Rd w V p) (lo:Lo V SB) (hs:StB w SB own s v) (hk:(V.next p).k=1)
  (k0:((V.next p).t.toList==[107,105,110,100])=false)
  (k1:((V.next p).t.toList==[109,101,109,98,101,114])=false)
  (k2:((V.next p).t.toList==[112,114,101,100])=false)
  (k3:((V.next p).t.toList==[110,117,109,98,101,114])=false)
  (k4:((V.next p).t.toList==[97,109,111,117,110,116])=false)
  (k5:((V.next p).t.toList==[99,108,97,115,115])=false)
  (k6:((V.next p).t.toList==[115,111,117,114,99,101])=false)
  (k7:((V.next p).t.toList==[114,117,108,101])=false)
  (k8:((V.next p).t.toList==[101,120,99,101,112,116,105,111,110])=false)
  (k9:((V.next p).t.toList==[116,111,116,97,108])=false) :
  Calls Tryz.prog 42 #[.pointer (some ⟨V.rb,0,none⟩),.pointer (some ⟨SB,0,none⟩)] w (PostS V SB w (V.item cal s p)):=by
 have hF0:V.item cal s p=V.stop 51 p:=by
  unfold Env.item
  rw [if_pos (by rw [hk];rfl)]
  simp only [k0,k1,k2,k3,k4,k5,k6,k7,k8,k9,Bool.false_eq_true,if_false]
 obtain ⟨x1,x2,x3,x4,x5,x6,x7,x8⟩:=v
 have HLT:=Lib.hid (Sx.next_lt (V:=V) (p:=p) (by rw [hk];decide))
 have HN:=Lib.hid (fun w1 (h1:Rd w1 V p)=>next_calls V p w1 h1)
 unfold Sx.tv at HN
 generalize V.item cal s p=F at *
 generalize V.next p=t at *
 have HF0:=Lib.hid hF0
 have e1:(t.k != 1)=false:=by rw [hk];rfl
 have HA0:=Lib.hid (show Bs w w V p p SB own s ⟨x1,x2,x3,x4,x5,x6,x7,x8⟩ from ⟨h,lo,hs,h,Keep.refl _ _⟩)
 clear h lo hs hk hF0
 go_enter Tryz.func42,Tryz.ntmps42
 go_upto_region 1 with (first | (go_at_call 39;refine (HN.out w HA0.out.rd).mono ?_;rintro e w1 ⟨rfl,hb1⟩;have HA1:=Lib.hid (HA0.out.call (HA0.out.rd.below hb1) (Keep.of_below hb1));clear hb1))
 obtain ⟨X1,hX1⟩:∃ X,w1.alloc (Obj.cells #[.int .i64 t.k,.string t.t,.int .i64 t.a] 48)=X:=⟨_,rfl⟩
 have HA2:=Lib.hid (HA1.out.alloc (Obj.cells #[.int .i64 t.k,.string t.t,.int .i64 t.a] 48))
 have u0:X1.cell? ⟨w1.heap.size,0,none⟩=some (.int .i64 t.k):=by rw [← hX1];exact blk_cell (heap_alloc_new w1 _) 0 rfl
 have u1:X1.cell? ⟨w1.heap.size,1,none⟩=some (.string t.t):=by rw [← hX1];exact blk_cell (heap_alloc_new w1 _) 1 rfl
 have hne:w1.heap.size≠V.rb:=by have h1:=World.block_lt_of_cell? _ _ HA1.out.rd.pos;simp only at h1;omega
 rw [hX1] at HA2
 try rw [hX1]
 clear hX1 HA1
 have hp:=HA2.out.rd.pos
 have hf:=HA2.out.rd.f
 have wz:IntKind.i64.wrap ((p:Nat)+1:Int)=((p+1:Nat):Int):=by have h1:=HA2.out.rd.n;have h2:=HLT.out;rw [IntWalk.i64_in _ (by omega)];omega
 have hs:=HA2.out.rd.step (p+1) HLT.out
 have hk:Keep (ours V) X1 (X1.setCell ⟨V.rb,1,none⟩ (.int .i64 ((p+1:Nat):Int))):=Keep.setCell (F:=ours V) (Keep.refl _ _) (p:=⟨V.rb,1,none⟩) (fun _=>rfl) _
 obtain ⟨X2,hX2⟩:∃ X,X1.setCell ⟨V.rb,1,none⟩ (.int .i64 ((p+1:Nat):Int))=X:=⟨_,rfl⟩
 have u2:X2.cell? ⟨w1.heap.size,1,none⟩=some (.string t.t):=by rw [← hX2,World.cell?_setCell_other _ _ _ _ (fun e=>by injection e with e1;exact hne e1.symm)];exact u1
 have hX2b:X1.setCell ⟨V.rb,1,none⟩ (.int .i64 ((p:Int)+1))=X2:=hX2
 rw [hX2] at hs hk
 have HA3:=Lib.hid (HA2.out.call hs hk)
 clear hs hk HA2 hne
 go_upto_region 4 with (fail)
 try rw [hX2]
 try rw [hX2b]
 clear hX2 hX2b hp hf wz u0 u1 HN
 go_upto_region 5 with (fail)
 clear u2
 have hp:=HA3.out.rd.pos
 have hf:=HA3.out.rd.f
 have wz1:IntKind.i64.wrap (((p+1:Nat):Int)-1)=(p:Int):=by have h1:=HA3.out.rd.n;have h2:=HA3.out.rd.le;rw [IntWalk.i64_in _ (by omega)];omega
 have wz2:IntKind.i64.wrap ((p:Int)+1-1)=(p:Int):=by have h1:=HA3.out.rd.n;have h2:=HA3.out.rd.le;rw [IntWalk.i64_in _ (by omega)];omega
 have wz3:IntKind.i64.wrap (p:Int)=(p:Int):=by have h1:=HA3.out.rd.n;have h2:=HA3.out.rd.le;rw [IntWalk.i64_in _ (by omega)]
 have hs:=HA3.out.rd.step p (Nat.le_of_lt HLT.out)
 have hk:Keep (ours V) X2 (X2.setCell ⟨V.rb,1,none⟩ (.int .i64 (p:Int))):=Keep.setCell (F:=ours V) (Keep.refl _ _) (p:=⟨V.rb,1,none⟩) (fun _=>rfl) _
 have HA4:=Lib.hid (HA3.out.call hs hk)
 clear hs hk
 go_wp2_with (first | (go_at_call 40;refine (stop_calls V p 51 _ HA4.out.rd).mono ?_;rintro e w2 ⟨rfl,hb⟩))
 refine ⟨rfl,?_⟩
 rw [HF0.out]
 exact ⟨rfl,Sx.Keep.toS (HA4.out.keep.trans (Keep.of_below hb) (fun _ _ h=>h))⟩
theorem item_nok_calls (V:Env) (cal:ByteArray→Int × Int) (p SB:Nat) (own:Nat→Nat) (s:Stt) (v:Vs) (w:World) (h:Rd w V p) (lo:Lo V SB) (hs:StB w SB own s v) (hk:¬ (V.next p).k=1) :
  Calls Tryz.prog 42 #[.pointer (some ⟨V.rb,0,none⟩),.pointer (some ⟨SB,0,none⟩)] w (PostS V SB w (V.item cal s p)):=by
 have hF0:V.item cal s p=V.stop 51 p:=by
  unfold Env.item
  rw [if_neg (by simpa using hk)]
 have HN:=Lib.hid (fun w1 (h1:Rd w1 V p)=>next_calls V p w1 h1)
 unfold Sx.tv at HN
 generalize V.item cal s p=F at *
 generalize V.next p=t at *
 have HF0:=Lib.hid hF0
 have e1:(t.k != 1)=true:=by simpa using hk
 have HA0:=Lib.hid (show Bs w w V p p SB own s v from ⟨h,lo,hs,h,Keep.refl _ _⟩)
 clear h lo hs hk hF0
 go_enter Tryz.func42,Tryz.ntmps42
 go_upto_region 1 with (first | (go_at_call 39;refine (HN.out w HA0.out.rd).mono ?_;rintro e w1 ⟨rfl,hb1⟩;have HA1:=Lib.hid (HA0.out.call (HA0.out.rd.below hb1) (Keep.of_below hb1));clear hb1))
 obtain ⟨X1,hX1⟩:∃ X,w1.alloc (Obj.cells #[.int .i64 t.k,.string t.t,.int .i64 t.a] 48)=X:=⟨_,rfl⟩
 have HA2:=Lib.hid (HA1.out.alloc (Obj.cells #[.int .i64 t.k,.string t.t,.int .i64 t.a] 48))
 have u0:X1.cell? ⟨w1.heap.size,0,none⟩=some (.int .i64 t.k):=by rw [← hX1];exact blk_cell (heap_alloc_new w1 _) 0 rfl
 rw [hX1] at HA2
 try rw [hX1]
 clear hX1 HA1
 go_wp2_with (first | (go_at_call 40;refine (stop_calls V p 51 X1 HA2.out.rd).mono ?_;rintro e w2 ⟨rfl,hb⟩))
 refine ⟨rfl,?_⟩
 rw [HF0.out]
 exact ⟨rfl,Sx.Keep.toS (HA2.out.keep.trans (Keep.of_below hb) (fun _ _ h=>h))⟩
theorem item_calls (V:Env) (cal:ByteArray→Int × Int)
  (hC:∀ s w,Calls Tryz.prog 108 #[.string s] w fun e w'=>e=.returned (.tuple #[.int .i64 (cal s).1,.int .i64 (cal s).2])∧Below w.heap.size w w')
  (p SB:Nat) (own:Nat→Nat) (s:Stt) (v:Vs) (w:World) (h:Rd w V p) (lo:Lo V SB) (hs:StB w SB own s v) :
  Calls Tryz.prog 42 #[.pointer (some ⟨V.rb,0,none⟩),.pointer (some ⟨SB,0,none⟩)] w (PostS V SB w (V.item cal s p)):=by
 by_cases hk:(V.next p).k=1
 ·have hb:∀ l:List UInt8,¬ (V.next p).t.toList=l→((V.next p).t.toList==l)=false:=fun l hl=>by simpa using hl
  by_cases h0:(V.next p).t.toList=[107,105,110,100]
  ·exact item_kind_calls V cal p SB own s v w h lo hs hk h0
  by_cases h1:(V.next p).t.toList=[109,101,109,98,101,114]
  ·exact item_member_calls V cal p SB own s v w h lo hs hk h1
  by_cases h2:(V.next p).t.toList=[112,114,101,100]
  ·exact item_pred_calls V cal p SB own s v w h lo hs hk h2
  by_cases h3:(V.next p).t.toList=[110,117,109,98,101,114]
  ·exact item_number_calls V cal p SB own s v w h lo hs hk h3
  by_cases h4:(V.next p).t.toList=[97,109,111,117,110,116]
  ·exact item_amount_calls V cal p SB own s v w h lo hs hk h4
  by_cases h5:(V.next p).t.toList=[99,108,97,115,115]
  ·exact item_class_calls V cal p SB own s v w h lo hs hk h5
  by_cases h6:(V.next p).t.toList=[115,111,117,114,99,101]
  ·exact item_source_calls V cal p SB own s v w h lo hs hk h6
  by_cases h7:(V.next p).t.toList=[114,117,108,101]
  ·exact item_rule_calls V cal hC p SB own s v w h lo hs hk h7
  by_cases h8:(V.next p).t.toList=[101,120,99,101,112,116,105,111,110]
  ·exact item_exception_calls V cal p SB own s v w h lo hs hk h8
  by_cases h9:(V.next p).t.toList=[116,111,116,97,108]
  ·exact item_total_calls V cal p SB own s v w h lo hs hk h9
  exact item_none_calls V cal p SB own s v w h lo hs hk (hb _ h0) (hb _ h1) (hb _ h2) (hb _ h3) (hb _ h4) (hb _ h5) (hb _ h6) (hb _ h7) (hb _ h8) (hb _ h9)
 ·exact item_nok_calls V cal p SB own s v w h lo hs hk
end Go.Proofs.YtcakgennlliejaaGreatDoor
