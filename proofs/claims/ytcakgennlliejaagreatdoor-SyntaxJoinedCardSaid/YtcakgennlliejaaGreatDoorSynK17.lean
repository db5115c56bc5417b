import Derived.Test.YtcakgennlliejaaGreatDoorSynK14
set_option maxHeartbeats 8000000
set_option maxRecDepth 100000
namespace Go.Proofs.YtcakgennlliejaaGreatDoor
open Go.Shelf Go.RowKit Go.Lib
open Go.Proofs.YtcakgennlliejaaGreatDoorW.PrintWords
open Go.Proofs.YtcakgennlliejaaGreatDoor.PSyntaxJoined
open Sx
set_option linter.unusedVariables false
set_option linter.unusedSimpArgs false
theorem info_tt:(Tryz.prog.info? 104).map (fun i=>(i.zero,i.size,i.bytes))=some (some (.agg #[.string ⟨#[]⟩,.string ⟨#[]⟩,.slice none 0 0,.bool false,.int .i64 0]),5,72):=by kernel_rfl
theorem item_total_eq (V:Env) (cal:ByteArray→Int × Int) (s:Stt) (p:Nat) (hk:(V.next p).k=1) (ht:(V.next p).t.toList=[116,111,116,97,108]):V.item cal s p=(V.room s.totals.length 64 (p+1)).bnd fun _ q=>(V.total q).bnd fun x q2=>.ok { s with totals:=s.totals++[x] } q2:=by
 unfold Env.item
 rw [if_pos (by rw [hk];rfl),ht]
 rfl
theorem item_total_calls (V:Env) (cal:ByteArray→Int × Int)
  (p SB:Nat) (own:Nat→Nat) (s:Stt) (v:Vs) (w:World) (h:Rd w V p) (lo:Lo V SB) (hs:StB w SB own s v) (hk:(V.next p).k=1) (ht:(V.next p).t.toList=[116,111,116,97,108]) :
  Calls Tryz.prog 42 #[.pointer (some ⟨V.rb,0,none⟩),.pointer (some ⟨SB,0,none⟩)] w (PostS V SB w (V.item cal s p)):=by
 have hmf:∀ (fn:Fn) (first cap:Array Value) (w:World),(Instr.makeFunc fn first cap).run Tryz.prog w=.ok (.func fn first cap) w:=fun _ _ _ _=>rfl
 obtain ⟨x1,x2,x3,x4,x5,x6,x7,x8⟩:=v
 have e0:=Kd.R_slice hs.r8
 dsimp only at e0
 obtain ⟨A0,c0,rfl⟩:=e0
 have hF0:=item_total_eq V cal s p hk ht
 have HLT:=Lib.hid (Sx.next_lt (V:=V) (p:=p) (by rw [hk];decide))
 have HN:=Lib.hid (fun w1 (h1:Rd w1 V p)=>next_calls V p w1 h1)
 unfold Sx.tv at HN
 generalize V.item cal s p=F at *
 generalize V.next p=t at *
 have HF0:=Lib.hid hF0
 have e1:(t.k != 1)=false:=by rw [hk];rfl
 have k0:(t.t.toList==[107,105,110,100])=false:=by rw [ht];rfl
 have k1:(t.t.toList==[109,101,109,98,101,114])=false:=by rw [ht];rfl
 have k2:(t.t.toList==[112,114,101,100])=false:=by rw [ht];rfl
 have k3:(t.t.toList==[110,117,109,98,101,114])=false:=by rw [ht];rfl
 have k4:(t.t.toList==[97,109,111,117,110,116])=false:=by rw [ht];rfl
 have k5:(t.t.toList==[99,108,97,115,115])=false:=by rw [ht];rfl
 have k6:(t.t.toList==[115,111,117,114,99,101])=false:=by rw [ht];rfl
 have k7:(t.t.toList==[114,117,108,101])=false:=by rw [ht];rfl
 have k8:(t.t.toList==[101,120,99,101,112,116,105,111,110])=false:=by rw [ht];rfl
 have k9:(t.t.toList==[116,111,116,97,108])=true:=by rw [ht];rfl
 have HA0:=Lib.hid (show Bs w w V p p SB own s ⟨x1,x2,x3,x4,x5,x6,x7,.slice A0 s.totals.length c0⟩ from ⟨h,lo,hs,h,Keep.refl _ _⟩)
 clear h lo hs hk ht hF0
 go_enter Tryz.func42,Tryz.ntmps42
 go_upto_region 1 with (first | (go_at_call 39;refine (HN.out w HA0.out.rd).mono ?_;rintro e w1 ⟨rfl,hb1⟩;have HA1:=Lib.hid (HA0.out.call (HA0.out.rd.below hb1) (Keep.of_below hb1));clear hb1))
 obtain ⟨X1,hX1⟩:∃ X,w1.alloc (Obj.cells #[.int .i64 t.k,.string t.t,.int .i64 t.a] 48)=X:=⟨_,rfl⟩
 have HA2:=Lib.hid (HA1.out.alloc (Obj.cells #[.int .i64 t.k,.string t.t,.int .i64 t.a] 48))
 have u0:X1.cell? ⟨w1.heap.size,0,none⟩=some (.int .i64 t.k):=by rw [← hX1];exact blk_cell (heap_alloc_new w1 _) 0 rfl
 have u1:X1.cell? ⟨w1.heap.size,1,none⟩=some (.string t.t):=by rw [← hX1];exact blk_cell (heap_alloc_new w1 _) 1 rfl
 have hne:w1.heap.size≠V.rb:=by have h1:=World.block_lt_of_cell? _ _ HA1.out.rd.pos;simp only at h1;omega
 rw [hX1] at HA2
 try rw [hX1]
 clear hX1 HA1
 have hp:=HA2.out.rd.pos
 have hf:=HA2.out.rd.f
 have wz:IntKind.i64.wrap ((p:Nat)+1:Int)=((p+1:Nat):Int):=by have h1:=HA2.out.rd.n;have h2:=HLT.out;rw [IntWalk.i64_in _ (by omega)];omega
 have hs:=HA2.out.rd.step (p+1) HLT.out
 have hk:Keep (ours V) X1 (X1.setCell ⟨V.rb,1,none⟩ (.int .i64 ((p+1:Nat):Int))):=Keep.setCell (F:=ours V) (Keep.refl _ _) (p:=⟨V.rb,1,none⟩) (fun _=>rfl) _
 obtain ⟨X2,hX2⟩:∃ X,X1.setCell ⟨V.rb,1,none⟩ (.int .i64 ((p+1:Nat):Int))=X:=⟨_,rfl⟩
 have u2:X2.cell? ⟨w1.heap.size,1,none⟩=some (.string t.t):=by rw [← hX2,World.cell?_setCell_other _ _ _ _ (fun e=>by injection e with e1;exact hne e1.symm)];exact u1
 have hX2b:X1.setCell ⟨V.rb,1,none⟩ (.int .i64 ((p:Int)+1))=X2:=hX2
 rw [hX2] at hs hk
 have HA3:=Lib.hid (HA2.out.call hs hk)
 clear hs hk HA2 hne
 go_upto_region 4 with (fail)
 try rw [hX2]
 try rw [hX2b]
 clear hX2 hX2b hp hf wz u0 u1 HN
 go_upto_region 46 with (fail)
 clear u2
 have hF1:=HF0.out
 unfold Env.room at hF1
 by_cases hrm:(64:Int)≤(s.totals.length:Int)
 ·rw [if_pos hrm] at hF1
  dsimp only [Res.bnd,Env.stop] at hF1
  have HF1:=Lib.hid hF1
  clear hF1 HF0
  have HC1:=Lib.hid (room_bad V (p+1) (s.totals.length:Int) 64 X2 HA3.out.rd hrm)
  clear hrm
  have yl:=blk_cell (v:=(.slice A0 s.totals.length c0)) HA3.out.blk 8 rfl
  go_wp2_with (first | (go_at_call 55;refine HC1.out.mono ?_;rintro e w2 ⟨rfl,hk2⟩))
  refine ⟨rfl,?_⟩
  rw [HF1.out]
  exact ⟨rfl,Sx.Keep.toS (HA3.out.keep.trans hk2 (fun _ _ h=>h))⟩
 ·rw [if_neg hrm] at hF1
  dsimp only [Res.bnd] at hF1
  have HF1:=Lib.hid hF1
  clear hF1 HF0
  have HRM:=Lib.hid hrm
  have HC1:=Lib.hid (room_ok V (p+1) (s.totals.length:Int) 64 X2 (by have:=HRM.out;omega))
  clear hrm
  have yl:=blk_cell (v:=(.slice A0 s.totals.length c0)) HA3.out.blk 8 rfl
  go_upto_region 47 with (first | (go_at_call 55;refine HC1.out.mono ?_;rintro e w2 ⟨rfl,rfl⟩))
  clear yl HC1
  have HK2:=Lib.hid (fun w1 h1=>total_calls V (p+1) w1 h1)
  have hF2:=HF1.out
  generalize V.total (p+1)=r2 at hF2 HK2
  have HF2:=Lib.hid hF2
  clear hF2 HF1
  have HW:=Lib.hid HA3.out.drew
  have ys:=blk_cell (v:=(.slice A0 s.totals.length c0)) HW.out.blk 8 rfl
  have HGW:=Lib.hid (show w.heap.size≤X2.drew.heap.size from HW.out.keep.size)
  go_region_law (first | (refine Kd.R_append_step k104 (w0:=w2) (SB+1) (by rfl) (.tmp 222) (.tmp 225) 30 104 (.agg #[.string ⟨#[]⟩,.string ⟨#[]⟩,.slice none 0 0,.bool false,.int .i64 0]) 72 rfl Tryz.underlying30 info_tt rfl (by decide) (by decide) (.slice A0 s.totals.length c0) s.totals x [.string x.f0,.string x.f1,v2,.bool x.f3,.int .i64 x.f4] (okf SB w.heap.size own 8) (fun k=>w.heap.size≤k) rfl rfl HMM.out (HW.out.okn HW.out.st.r8) (HV.out.fresh 8) (HV.out.row HV.out.st.r8) (Below.refl _ _) HV.out.base (by have h1:=HRM.out;omega) ?_;intro v3 w3 hs3 hb3 hg3 hat3;obtain ⟨A9,c9,rfl⟩:=Kd.R_slice hs3;rw [List.length_append,List.length_singleton] at hs3;have hbk3:=(hb3.block SB (Nat.lt_succ_self _)).trans HV.out.blk;have y3:=blk_cell (v:=(.slice A0 s.totals.length c0)) hbk3 8 rfl;have f3:=blk_free hbk3 8) | (go_simp;go_wp2_with (first | (go_at_call 61;refine (HK2.out X2.drew HW.out.rd).mono ?_;rintro e w2 hp2;(cases r2 with | bad er a=>(obtain ⟨rfl,hk2⟩:=hp2;refine ⟨rfl,?_⟩;rw [HF2.out];exact ⟨rfl,Sx.Keep.toS (HW.out.keep.trans hk2 (fun _ _ h=>h))⟩) | ok x q2=>?_);obtain ⟨x,rfl,⟨cs,rfl,hM⟩,hr2,hk2⟩:=hp2;have HV:=Lib.hid (HW.out.call hr2 hk2);have HMM:=Lib.hid (show k104.M w2 (SB+1) (fun k=>w.heap.size≤k) x cs from k104.M_lower HW.out.base (k104.M_mono (fun k hk=>Nat.le_trans HGW.out hk) hM));obtain ⟨v2,rfl,g2⟩:=k104_openM hM;clear hM;have yw:=blk_cell (v:=(.slice A0 s.totals.length c0)) HV.out.blk 8 rfl;have ywa:∀ o,(w2.alloc o).cell? ⟨SB,8,none⟩=some (.slice A0 s.totals.length c0):=fun o=>blk_cell (v:=(.slice A0 s.totals.length c0)) (HV.out.alloc o).blk 8 rfl))))
  all_goals
   go_wp2_with fail
   go_end0
   rw [HF2.out]
   exact ⟨rfl,HV.out.fin8 hs3 hb3 hg3⟩
theorem info_rl:(Tryz.prog.info? 93).map (fun i=>(i.zero,i.size,i.bytes))=some (some (.agg #[.string ⟨#[]⟩,.string ⟨#[]⟩,.int .i64 0,.int .i64 0,.slice none 0 0,.int .i64 0,.bool false,.string ⟨#[]⟩,.slice none 0 0,.bool false,.int .i64 0]),11,144):=by kernel_rfl
theorem item_rule_eq (V:Env) (cal:ByteArray→Int × Int) (s:Stt) (p:Nat) (hk:(V.next p).k=1) (ht:(V.next p).t.toList=[114,117,108,101]):V.item cal s p=(V.room s.rules.length 512 (p+1)).bnd fun _ q=>(V.rule cal q).bnd fun x q2=>.ok { s with rules:=s.rules++[x] } q2:=by
 unfold Env.item
 rw [if_pos (by rw [hk];rfl),ht]
 rfl
theorem item_rule_calls (V:Env) (cal:ByteArray→Int × Int)
  (hC:∀ s w,Calls Tryz.prog 108 #[.string s] w fun e w'=>e=.returned (.tuple #[.int .i64 (cal s).1,.int .i64 (cal s).2])∧Below w.heap.size w w')
  (p SB:Nat) (own:Nat→Nat) (s:Stt) (v:Vs) (w:World) (h:Rd w V p) (lo:Lo V SB) (hs:StB w SB own s v) (hk:(V.next p).k=1) (ht:(V.next p).t.toList=[114,117,108,101]) :
  Calls Tryz.prog 42 #[.pointer (some ⟨V.rb,0,none⟩),.pointer (some ⟨SB,0,none⟩)] w (PostS V SB w (V.item cal s p)):=by
 have hmf:∀ (fn:Fn) (first cap:Array Value) (w:World),(Instr.makeFunc fn first cap).run Tryz.prog w=.ok (.func fn first cap) w:=fun _ _ _ _=>rfl
 obtain ⟨x1,x2,x3,x4,x5,x6,x7,x8⟩:=v
 have e0:=Kd.R_slice hs.r6
 dsimp only at e0
 obtain ⟨A0,c0,rfl⟩:=e0
 have hF0:=item_rule_eq V cal s p hk ht
 have HLT:=Lib.hid (Sx.next_lt (V:=V) (p:=p) (by rw [hk];decide))
 have HN:=Lib.hid (fun w1 (h1:Rd w1 V p)=>next_calls V p w1 h1)
 unfold Sx.tv at HN
 generalize V.item cal s p=F at *
 generalize V.next p=t at *
 have HF0:=Lib.hid hF0
 have e1:(t.k != 1)=false:=by rw [hk];rfl
 have k0:(t.t.toList==[107,105,110,100])=false:=by rw [ht];rfl
 have k1:(t.t.toList==[109,101,109,98,101,114])=false:=by rw [ht];rfl
 have k2:(t.t.toList==[112,114,101,100])=false:=by rw [ht];rfl
 have k3:(t.t.toList==[110,117,109,98,101,114])=false:=by rw [ht];rfl
 have k4:(t.t.toList==[97,109,111,117,110,116])=false:=by rw [ht];rfl
 have k5:(t.t.toList==[99,108,97,115,115])=false:=by rw [ht];rfl
 have k6:(t.t.toList==[115,111,117,114,99,101])=false:=by rw [ht];rfl
 have k7:(t.t.toList==[114,117,108,101])=true:=by rw [ht];rfl
 have HA0:=Lib.hid (show Bs w w V p p SB own s ⟨x1,x2,x3,x4,x5,.slice A0 s.rules.length c0,x7,x8⟩ from ⟨h,lo,hs,h,Keep.refl _ _⟩)
 clear h lo hs hk ht hF0
 go_enter Tryz.func42,Tryz.ntmps42
 go_upto_region 1 with (first | (go_at_call 39;refine (HN.out w HA0.out.rd).mono ?_;rintro e w1 ⟨rfl,hb1⟩;have HA1:=Lib.hid (HA0.out.call (HA0.out.rd.below hb1) (Keep.of_below hb1));clear hb1))
 obtain ⟨X1,hX1⟩:∃ X,w1.alloc (Obj.cells #[.int .i64 t.k,.string t.t,.int .i64 t.a] 48)=X:=⟨_,rfl⟩
 have HA2:=Lib.hid (HA1.out.alloc (Obj.cells #[.int .i64 t.k,.string t.t,.int .i64 t.a] 48))
 have u0:X1.cell? ⟨w1.heap.size,0,none⟩=some (.int .i64 t.k):=by rw [← hX1];exact blk_cell (heap_alloc_new w1 _) 0 rfl
 have u1:X1.cell? ⟨w1.heap.size,1,none⟩=some (.string t.t):=by rw [← hX1];exact blk_cell (heap_alloc_new w1 _) 1 rfl
 have hne:w1.heap.size≠V.rb:=by have h1:=World.block_lt_of_cell? _ _ HA1.out.rd.pos;simp only at h1;omega
 rw [hX1] at HA2
 try rw [hX1]
 clear hX1 HA1
 have hp:=HA2.out.rd.pos
 have hf:=HA2.out.rd.f
 have wz:IntKind.i64.wrap ((p:Nat)+1:Int)=((p+1:Nat):Int):=by have h1:=HA2.out.rd.n;have h2:=HLT.out;rw [IntWalk.i64_in _ (by omega)];omega
 have hs:=HA2.out.rd.step (p+1) HLT.out
 have hk:Keep (ours V) X1 (X1.setCell ⟨V.rb,1,none⟩ (.int .i64 ((p+1:Nat):Int))):=Keep.setCell (F:=ours V) (Keep.refl _ _) (p:=⟨V.rb,1,none⟩) (fun _=>rfl) _
 obtain ⟨X2,hX2⟩:∃ X,X1.setCell ⟨V.rb,1,none⟩ (.int .i64 ((p+1:Nat):Int))=X:=⟨_,rfl⟩
 have u2:X2.cell? ⟨w1.heap.size,1,none⟩=some (.string t.t):=by rw [← hX2,World.cell?_setCell_other _ _ _ _ (fun e=>by injection e with e1;exact hne e1.symm)];exact u1
 have hX2b:X1.setCell ⟨V.rb,1,none⟩ (.int .i64 ((p:Int)+1))=X2:=hX2
 rw [hX2] at hs hk
 have HA3:=Lib.hid (HA2.out.call hs hk)
 clear hs hk HA2 hne
 go_upto_region 4 with (fail)
 try rw [hX2]
 try rw [hX2b]
 clear hX2 hX2b hp hf wz u0 u1 HN
 go_upto_region 37 with (fail)
 clear u2
 have hF3:=HF0.out
 unfold Env.room at hF3
 by_cases hrm:(512:Int)≤(s.rules.length:Int)
 ·rw [if_pos hrm] at hF3
  dsimp only [Res.bnd,Env.stop] at hF3
  have HF3:=Lib.hid hF3
  clear hF3 HF0
  have HC3:=Lib.hid (room_bad V (p+1) (s.rules.length:Int) 512 X2 HA3.out.rd hrm)
  clear hrm
  have yl:=blk_cell (v:=(.slice A0 s.rules.length c0)) HA3.out.blk 6 rfl
  go_wp2_with (first | (go_at_call 55;refine HC3.out.mono ?_;rintro e w2 ⟨rfl,hk2⟩))
  refine ⟨rfl,?_⟩
  rw [HF3.out]
  exact ⟨rfl,Sx.Keep.toS (HA3.out.keep.trans hk2 (fun _ _ h=>h))⟩
 ·rw [if_neg hrm] at hF3
  dsimp only [Res.bnd] at hF3
  have HF3:=Lib.hid hF3
  clear hF3 HF0
  have HRM:=Lib.hid hrm
  have HC3:=Lib.hid (room_ok V (p+1) (s.rules.length:Int) 512 X2 (by have:=HRM.out;omega))
  clear hrm
  have yl:=blk_cell (v:=(.slice A0 s.rules.length c0)) HA3.out.blk 6 rfl
  go_upto_region 38 with (first | (go_at_call 55;refine HC3.out.mono ?_;rintro e w2 ⟨rfl,rfl⟩))
  clear yl HC3
  have HK4:=Lib.hid (fun w1 h1=>rule_calls V cal hC (premise_calls V) (p+1) w1 h1)
  have hF4:=HF3.out
  generalize V.rule cal (p+1)=r4 at hF4 HK4
  have HF4:=Lib.hid hF4
  clear hF4 HF3
  have HW:=Lib.hid HA3.out.drew
  have ys:=blk_cell (v:=(.slice A0 s.rules.length c0)) HW.out.blk 6 rfl
  have HGW:=Lib.hid (show w.heap.size≤X2.drew.heap.size from HW.out.keep.size)
  go_region_law (first | (refine Kd.R_append_step k93 (w0:=w2) (SB+1) (by rfl) (.tmp 175) (.tmp 178) 28 93 (.agg #[.string ⟨#[]⟩,.string ⟨#[]⟩,.int .i64 0,.int .i64 0,.slice none 0 0,.int .i64 0,.bool false,.string ⟨#[]⟩,.slice none 0 0,.bool false,.int .i64 0]) 144 rfl Tryz.underlying28 info_rl rfl (by decide) (by decide) (.slice A0 s.rules.length c0) s.rules x [.string x.f0,.string x.f1,.int .i64 x.f2,.int .i64 x.f3,v4,.int .i64 x.f5,.bool x.f6.f0,.string x.f6.f1,v8,.bool x.f6.f3,.int .i64 x.f6.f4] (okf SB w.heap.size own 6) (fun k=>w.heap.size≤k) rfl rfl HMM.out (HW.out.okn HW.out.st.r6) (HV.out.fresh 6) (HV.out.row HV.out.st.r6) (Below.refl _ _) HV.out.base (by have h1:=HRM.out;omega) ?_;intro v3 w3 hs3 hb3 hg3 hat3;obtain ⟨A9,c9,rfl⟩:=Kd.R_slice hs3;rw [List.length_append,List.length_singleton] at hs3;have hbk3:=(hb3.block SB (Nat.lt_succ_self _)).trans HV.out.blk;have y3:=blk_cell (v:=(.slice A0 s.rules.length c0)) hbk3 6 rfl;have f3:=blk_free hbk3 6) | (go_simp;go_wp2_with (first | (go_at_call 60;refine (HK4.out X2.drew HW.out.rd).mono ?_;rintro e w2 hp2;(cases r4 with | bad er a=>(obtain ⟨rfl,hk2⟩:=hp2;refine ⟨rfl,?_⟩;rw [HF4.out];exact ⟨rfl,Sx.Keep.toS (HW.out.keep.trans hk2 (fun _ _ h=>h))⟩) | ok x q2=>?_);obtain ⟨x,rfl,⟨cs,rfl,hM⟩,hr2,hk2⟩:=hp2;have HV:=Lib.hid (HW.out.call hr2 hk2);have HMM:=Lib.hid (show k93.M w2 (SB+1) (fun k=>w.heap.size≤k) x cs from k93.M_lower HW.out.base (k93.M_mono (fun k hk=>Nat.le_trans HGW.out hk) hM));obtain ⟨v4,v8,rfl,g4,g8⟩:=k93_openM hM;clear hM;have yw:=blk_cell (v:=(.slice A0 s.rules.length c0)) HV.out.blk 6 rfl;have ywa:∀ o,(w2.alloc o).cell? ⟨SB,6,none⟩=some (.slice A0 s.rules.length c0):=fun o=>blk_cell (v:=(.slice A0 s.rules.length c0)) (HV.out.alloc o).blk 6 rfl))))
  all_goals
   go_wp2_with fail
   go_end0
   rw [HF4.out]
   exact ⟨rfl,HV.out.fin6 hs3 hb3 hg3⟩
end Go.Proofs.YtcakgennlliejaaGreatDoor
