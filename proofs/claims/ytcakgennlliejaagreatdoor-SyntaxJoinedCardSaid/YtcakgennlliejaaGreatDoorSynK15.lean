import Derived.Test.YtcakgennlliejaaGreatDoorSynK14
set_option maxHeartbeats 8000000
set_option maxRecDepth 100000
namespace Go.Proofs.YtcakgennlliejaaGreatDoor
open Go.Shelf Go.RowKit Go.Lib
open Go.Proofs.YtcakgennlliejaaGreatDoorW.PrintWords
open Go.Proofs.YtcakgennlliejaaGreatDoor.PSyntaxJoined
open Sx
set_option linter.unusedVariables false
set_option linter.unusedSimpArgs false
theorem Sx.listM_len {α:Type} {V:Env} {g:Nat→Res α} (n:Nat):∀ (out:List α) (p:Nat) (l:List α) (q:Nat),V.listM g n out p=.ok l q→l.length≤out.length+n:=by
 induction n with
 | zero=>intro out p l q h;cases h
 | succ n ih =>
  intro out p l q h
  unfold Env.listM at h
  cases hg:g p with
  | bad e a=>rw [hg] at h;cases h
  | ok v q2 =>
   rw [hg] at h
   dsimp only [Res.bnd] at h
   split at h
   ·have h2:=ih _ _ _ _ h;simp at h2;omega
   ·injection h with h1 _;rw [← h1];simp
theorem Sx.list_len {α:Type} {V:Env} {g:Nat→Res α} {n most:Int} {p q:Nat} {l:List α} (h:V.list g n most p=.ok l q):l.length≤(most-n).toNat:=by
 have h2:=Sx.listM_len _ _ _ _ _ h
 simpa using h2
theorem info_sl:(Tryz.prog.info? 23).map (fun i=>(i.zero,i.size,i.bytes))=some (some (.slice none 0 0),1,24):=by kernel_rfl
theorem Sx.Bs.over {w W w1:World} {V:Env} {p q SB:Nat} {own:Nat→Nat} {s:Stt} {v:Vs} (h:Bs w W V p q SB own s v) (hb:Below w.heap.size W w1):Bs w w1 V p q SB own s v:=⟨h.h0,h.lo,h.st,rd_over h.h0 h.rd hb,keep_over h.keep hb⟩
theorem item_class_eq (V:Env) (cal:ByteArray→Int × Int) (s:Stt) (p:Nat) (hk:(V.next p).k=1) (ht:(V.next p).t.toList=[99,108,97,115,115]):V.item cal s p=(V.room s.classes.length 64 (p+1)).bnd fun _ q=>(V.name q).bnd fun f q2=>(V.must 6 ⟨#[44]⟩ q2).bnd fun _ q3=>(V.list V.name 1 16 q3).bnd fun l q4=>.ok { s with classes:=s.classes++[f::l] } q4:=by
 unfold Env.item
 rw [if_pos (by rw [hk];rfl),ht]
 rfl
theorem item_class_calls (V:Env) (cal:ByteArray→Int × Int)
  (p SB:Nat) (own:Nat→Nat) (s:Stt) (v:Vs) (w:World) (h:Rd w V p) (lo:Lo V SB) (hs:StB w SB own s v) (hk:(V.next p).k=1) (ht:(V.next p).t.toList=[99,108,97,115,115]) :
  Calls Tryz.prog 42 #[.pointer (some ⟨V.rb,0,none⟩),.pointer (some ⟨SB,0,none⟩)] w (PostS V SB w (V.item cal s p)):=by
 have hmf:∀ (fn:Fn) (first cap:Array Value) (w:World),(Instr.makeFunc fn first cap).run Tryz.prog w=.ok (.func fn first cap) w:=fun _ _ _ _=>rfl
 obtain ⟨x1,x2,x3,x4,x5,x6,x7,x8⟩:=v
 have e0:=Kd.R_slice hs.r4
 dsimp only at e0
 obtain ⟨A0,c0,rfl⟩:=e0
 have hF0:=item_class_eq V cal s p hk ht
 have HLT:=Lib.hid (Sx.next_lt (V:=V) (p:=p) (by rw [hk];decide))
 have HN:=Lib.hid (fun w1 (h1:Rd w1 V p)=>next_calls V p w1 h1)
 unfold Sx.tv at HN
 generalize V.item cal s p=F at *
 generalize V.next p=t at *
 have HF0:=Lib.hid hF0
 have e1:(t.k != 1)=false:=by rw [hk];rfl
 have k0:(t.t.toList==[107,105,110,100])=false:=by rw [ht];rfl
 have k1:(t.t.toList==[109,101,109,98,101,114])=false:=by rw [ht];rfl
 have k2:(t.t.toList==[112,114,101,100])=false:=by rw [ht];rfl
 have k3:(t.t.toList==[110,117,109,98,101,114])=false:=by rw [ht];rfl
 have k4:(t.t.toList==[97,109,111,117,110,116])=false:=by rw [ht];rfl
 have k5:(t.t.toList==[99,108,97,115,115])=true:=by rw [ht];rfl
 have HA0:=Lib.hid (show Bs w w V p p SB own s ⟨x1,x2,x3,.slice A0 s.classes.length c0,x5,x6,x7,x8⟩ from ⟨h,lo,hs,h,Keep.refl _ _⟩)
 clear h lo hs hk ht hF0
 go_enter Tryz.func42,Tryz.ntmps42
 go_upto_region 1 with (first | (go_at_call 39;refine (HN.out w HA0.out.rd).mono ?_;rintro e w1 ⟨rfl,hb1⟩;have HA1:=Lib.hid (HA0.out.call (HA0.out.rd.below hb1) (Keep.of_below hb1));clear hb1))
 obtain ⟨X1,hX1⟩:∃ X,w1.alloc (Obj.cells #[.int .i64 t.k,.string t.t,.int .i64 t.a] 48)=X:=⟨_,rfl⟩
 have HA2:=Lib.hid (HA1.out.alloc (Obj.cells #[.int .i64 t.k,.string t.t,.int .i64 t.a] 48))
 have u0:X1.cell? ⟨w1.heap.size,0,none⟩=some (.int .i64 t.k):=by rw [← hX1];exact blk_cell (heap_alloc_new w1 _) 0 rfl
 have u1:X1.cell? ⟨w1.heap.size,1,none⟩=some (.string t.t):=by rw [← hX1];exact blk_cell (heap_alloc_new w1 _) 1 rfl
 have hne:w1.heap.size≠V.rb:=by have h1:=World.block_lt_of_cell? _ _ HA1.out.rd.pos;simp only at h1;omega
 rw [hX1] at HA2
 try rw [hX1]
 clear hX1 HA1
 have hp:=HA2.out.rd.pos
 have hf:=HA2.out.rd.f
 have wz:IntKind.i64.wrap ((p:Nat)+1:Int)=((p+1:Nat):Int):=by have h1:=HA2.out.rd.n;have h2:=HLT.out;rw [IntWalk.i64_in _ (by omega)];omega
 have hs:=HA2.out.rd.step (p+1) HLT.out
 have hk:Keep (ours V) X1 (X1.setCell ⟨V.rb,1,none⟩ (.int .i64 ((p+1:Nat):Int))):=Keep.setCell (F:=ours V) (Keep.refl _ _) (p:=⟨V.rb,1,none⟩) (fun _=>rfl) _
 obtain ⟨X2,hX2⟩:∃ X,X1.setCell ⟨V.rb,1,none⟩ (.int .i64 ((p+1:Nat):Int))=X:=⟨_,rfl⟩
 have u2:X2.cell? ⟨w1.heap.size,1,none⟩=some (.string t.t):=by rw [← hX2,World.cell?_setCell_other _ _ _ _ (fun e=>by injection e with e1;exact hne e1.symm)];exact u1
 have hX2b:X1.setCell ⟨V.rb,1,none⟩ (.int .i64 ((p:Int)+1))=X2:=hX2
 rw [hX2] at hs hk
 have HA3:=Lib.hid (HA2.out.call hs hk)
 clear hs hk HA2 hne
 go_upto_region 4 with (fail)
 try rw [hX2]
 try rw [hX2b]
 clear hX2 hX2b hp hf wz u0 u1 HN
 go_upto_region 26 with (fail)
 clear u2
 have hF1:=HF0.out
 unfold Env.room at hF1
 by_cases hrm:(64:Int)≤(s.classes.length:Int)
 ·rw [if_pos hrm] at hF1
  dsimp only [Res.bnd,Env.stop] at hF1
  have HF1:=Lib.hid hF1
  clear hF1 HF0
  have HC1:=Lib.hid (room_bad V (p+1) (s.classes.length:Int) 64 X2 HA3.out.rd hrm)
  clear hrm
  have yl:=blk_cell (v:=(.slice A0 s.classes.length c0)) HA3.out.blk 4 rfl
  go_wp2_with (first | (go_at_call 55;refine HC1.out.mono ?_;rintro e w2 ⟨rfl,hk2⟩))
  refine ⟨rfl,?_⟩
  rw [HF1.out]
  exact ⟨rfl,Sx.Keep.toS (HA3.out.keep.trans hk2 (fun _ _ h=>h))⟩
 ·rw [if_neg hrm] at hF1
  dsimp only [Res.bnd] at hF1
  have HF1:=Lib.hid hF1
  clear hF1 HF0
  have HRM:=Lib.hid hrm
  have HC1:=Lib.hid (room_ok V (p+1) (s.classes.length:Int) 64 X2 (by have:=HRM.out;omega))
  clear hrm
  have yl:=blk_cell (v:=(.slice A0 s.classes.length c0)) HA3.out.blk 4 rfl
  go_upto_region 27 with (first | (go_at_call 55;refine HC1.out.mono ?_;rintro e w2 ⟨rfl,rfl⟩))
  clear yl HC1
  have HK2:=Lib.hid (fun w1 h1=>name_calls V (p+1) w1 h1)
  have hF2:=HF1.out
  generalize hr2:V.name (p+1)=r2 at hF2 HK2
  cases r2 with
  | bad er a =>
   dsimp only [Res.bnd] at hF2
   have HF2:=Lib.hid hF2
   clear hF2 HF1 hr2
   go_wp2_with (first | (go_at_call 56;refine (HK2.out X2 HA3.out.rd).mono ?_;rintro e w2 ⟨rfl,hk2⟩))
   refine ⟨rfl,?_⟩
   rw [HF2.out]
   exact ⟨rfl,Sx.Keep.toS (HA3.out.keep.trans hk2 (fun _ _ h=>h))⟩
  | ok f q2 =>
   dsimp only [Res.bnd] at hF2
   have HF2:=Lib.hid hF2
   clear hF2 HF1 hr2
   go_upto_region 28 with (first | (go_at_call 56;refine (HK2.out X2 HA3.out.rd).mono ?_;rintro e X2 ⟨x,rfl,rfl,hr2,hk2⟩;have HC2_0:=Lib.hid (HA3.out.call hr2 hk2)))
   have HD2_0:=Lib.hid (show Bs w X2 V p q2 SB own s ⟨x1,x2,x3,.slice A0 s.classes.length c0,x5,x6,x7,x8⟩ from HC2_0.out)
   clear hr2 hk2 HK2 HA3 HC2_0 
   have HK3:=Lib.hid (fun w1 h1=>must_calls V q2 6 ⟨#[44]⟩ w1 h1 (by decide))
   have hF3:=HF2.out
   generalize hr3:V.must 6 ⟨#[44]⟩ q2=r3 at hF3 HK3
   cases r3 with
   | bad er a =>
    dsimp only [Res.bnd] at hF3
    have HF3:=Lib.hid hF3
    clear hF3 HF2 hr3
    go_wp2_with (first | (go_at_call 41;refine (HK3.out X2 HD2_0.out.rd).mono ?_;rintro e w2 ⟨rfl,hk2⟩))
    refine ⟨rfl,?_⟩
    rw [HF3.out]
    exact ⟨rfl,Sx.Keep.toS (HD2_0.out.keep.trans hk2 (fun _ _ h=>h))⟩
   | ok _ q3 =>
    dsimp only [Res.bnd] at hF3
    have HF3:=Lib.hid hF3
    clear hF3 HF2 hr3
    go_upto_region 29 with (first | (go_at_call 41;refine (HK3.out X2 HD2_0.out.rd).mono ?_;rintro e X3 ⟨x,rfl,rfl,hr2,hk2⟩;have HC3_0:=Lib.hid (HD2_0.out.call hr2 hk2)))
    have HD3_0:=Lib.hid (show Bs w X3 V p q3 SB own s ⟨x1,x2,x3,.slice A0 s.classes.length c0,x5,x6,x7,x8⟩ from HC3_0.out)
    clear hr2 hk2 HK3 HD2_0 HC3_0 
    have HK4:=Lib.hid (fun w1 h1=>list_str_calls V V.name 56 name_enters (name_calls V) 1 16 (by decide) (by decide) q3 w1 h1)
    have hF4:=HF3.out
    generalize hrl:V.list V.name 1 16 q3=r4 at hF4 HK4
    have HF4:=Lib.hid hF4
    clear hF4 HF3
    have HW:=Lib.hid HD3_0.out.drew
    have ys:=blk_cell (v:=(.slice A0 s.classes.length c0)) HW.out.blk 4 rfl
    have ysb:∀ o,(X3.alloc o).cell? ⟨SB,4,none⟩=some (.slice A0 s.classes.length c0):=fun o=>blk_cell (v:=(.slice A0 s.classes.length c0)) (HD3_0.out.alloc o).blk 4 rfl
    have HGW:=Lib.hid (show w.heap.size≤X3.drew.heap.size from HW.out.keep.size)
    have HRB:=Lib.hid (show V.rb<w.heap.size from World.block_lt_of_cell? _ _ HW.out.h0.pos)
    have HLL:=Lib.hid (fun l q (h:V.list V.name 1 16 q3=.ok l q)=>Sx.list_len (V:=V) (g:=V.name) h)
    go_region_law (first | (refine Kd.R_append_step (Kd.slice 9 Kd.string) (w0:=w5) (SB+1) (by rfl) (.tmp 123) (.tmp 131) 26 23 (.slice none 0 0) 24 rfl Tryz.underlying26 info_sl rfl (by decide) (by decide) (.slice A0 s.classes.length c0) s.classes (f::l) [.slice A5 (l.length+1) c5] (okf SB w.heap.size own 4) (fun k=>w.heap.size≤k) rfl rfl ⟨_,rfl,Kd.R_lower HS5.out (Nat.succ_le_of_lt HV5.out.lt)⟩ (HV5.out.okn HV5.out.st.r4) (HV5.out.fresh 4) (HV5.out.row HV5.out.st.r4) (Below.refl _ _) HV5.out.base (by have h1:=HRM.out;omega) ?_;intro v3 w3 hs3 hb3 hg3 hat3;obtain ⟨A9,c9,rfl⟩:=Kd.R_slice hs3;rw [List.length_append,List.length_singleton] at hs3;have hbk3:=(hb3.block SB (Nat.lt_succ_self _)).trans HV5.out.blk;have y3:=blk_cell (v:=(.slice A0 s.classes.length c0)) hbk3 4 rfl;have f3:=blk_free hbk3 4) | (refine Kd.R_append_rows_step Kd.string (w0:=w2) w.heap.size (by rfl) (.tmp 125) (.tmp 129) 23 9 (.string ⟨#[]⟩) 16 rfl Tryz.underlying23 info_s rfl (by decide) (by decide) (.slice (some ⟨_,0,none⟩) 1 1) [f] l A1 l.length c1 (fun k=>w.heap.size≤k) (fun _=>False) rfl rfl HFR.out (by obtain ⟨A7,c7,e7,_,hC⟩:=Kd.R_reads HLX.out;injection e7 with e8 _ e9;subst e8;exact hC) (fun x cs hx=>hx) (fun _ hk=>hk.elim) (fun k hk=>Nat.le_trans HV.out.keep.size hk) (Below.mono (Below.refl _ _) HV.out.keep.size) HV.out.keep.size (by have h1:=HLN.out;simp only [List.length_singleton];omega) ?_;intro v5 w5 hs5 hb5 hg5 hat5;obtain ⟨A5,c5,rfl⟩:=Kd.R_slice hs5;(rw [show ([f]++l).length=l.length+1 from by simp] at hs5 ⊢);have HV5:=Lib.hid (HV.out.over hb5);have yv:=blk_cell (v:=(.slice A0 s.classes.length c0)) HV5.out.blk 4 rfl;have yva:∀ o,(w5.alloc o).cell? ⟨SB,4,none⟩=some (.slice A0 s.classes.length c0):=fun o=>blk_cell (v:=(.slice A0 s.classes.length c0)) (HV5.out.alloc o).blk 4 rfl;have HS5:=Lib.hid hs5) | (refine Kd.R_append_rows_step Kd.string (w0:=(w2.alloc (Obj.cells #[.string f] 9))) w.heap.size (by rfl) (.tmp 125) (.tmp 129) 23 9 (.string ⟨#[]⟩) 16 rfl Tryz.underlying23 info_s rfl (by decide) (by decide) (.slice (some ⟨_,0,none⟩) 1 1) [f] l A1 l.length c1 (fun k=>w.heap.size≤k) (fun _=>False) rfl rfl (Sx.lit1 Kd.string 9 w.heap.size w2 (fun _=>False) (fun k=>w.heap.size≤k) f [.string f] (by rfl) (fun _ hk=>hk.elim) HV.out.keep.size HV.out.keep.size) (by obtain ⟨A7,c7,e7,_,hC⟩:=Kd.R_reads (Kd.R_below HLX.out ((Below.refl _ w2).alloc (Nat.le_refl _) (Obj.cells #[.string f] 9)));injection e7 with e8 _ e9;subst e8;exact hC) (fun x cs hx=>hx) (fun _ hk=>hk.elim) (fun k hk=>Nat.le_trans (HV.out.alloc (Obj.cells #[.string f] 9)).keep.size hk) (Below.mono (Below.refl _ _) (HV.out.alloc (Obj.cells #[.string f] 9)).keep.size) (HV.out.alloc (Obj.cells #[.string f] 9)).keep.size (by have h1:=HLN.out;simp only [List.length_singleton];omega) ?_;intro v5 w5 hs5 hb5 hg5 hat5;obtain ⟨A5,c5,rfl⟩:=Kd.R_slice hs5;(rw [show ([f]++l).length=l.length+1 from by simp] at hs5 ⊢);have HV5:=Lib.hid ((HV.out.alloc (Obj.cells #[.string f] 9)).over hb5);have yv:=blk_cell (v:=(.slice A0 s.classes.length c0)) HV5.out.blk 4 rfl;have yva:∀ o,(w5.alloc o).cell? ⟨SB,4,none⟩=some (.slice A0 s.classes.length c0):=fun o=>blk_cell (v:=(.slice A0 s.classes.length c0)) (HV5.out.alloc o).blk 4 rfl;have HS5:=Lib.hid hs5) | (go_simp;go_wp2_with (first | (go_at_call 57;(with_reducible refine (HK4.out X3.drew HW.out.rd).mono ?_);have HZ:=HW.out;rintro e w2 hp2;(cases r4 with | bad er a=>(obtain ⟨rfl,hk2⟩:=hp2;refine ⟨rfl,?_⟩;rw [HF4.out];exact ⟨rfl,Sx.Keep.toS (HZ.keep.trans hk2 (fun _ _ h=>h))⟩) | ok l q4=>?_);obtain ⟨x,rfl,hx,hr2,hk2⟩:=hp2;have HV:=Lib.hid (HZ.call hr2 hk2);have hx:=Kd.R_lower (Kd.R_mono hx (ok':=fun k=>w.heap.size≤k) (fun k hk=>Nat.le_trans HZ.keep.size hk)) (base':=w.heap.size) HZ.keep.size;obtain ⟨A1,c1,rfl⟩:=Kd.R_slice hx;have HLX:=Lib.hid hx;have HLN:=Lib.hid (HLL.out l q4 hrl);have yw:=blk_cell (v:=(.slice A0 s.classes.length c0)) HV.out.blk 4 rfl;have ywa:∀ o,(w2.alloc o).cell? ⟨SB,4,none⟩=some (.slice A0 s.classes.length c0):=fun o=>blk_cell (v:=(.slice A0 s.classes.length c0)) (HV.out.alloc o).blk 4 rfl) | (go_at_call 57;(with_reducible refine (HK4.out ((X3.alloc (Obj.cells #[.string f] 9)).drew) (HD3_0.out.alloc (Obj.cells #[.string f] 9)).drew.rd).mono ?_);have HZ:=(HD3_0.out.alloc (Obj.cells #[.string f] 9)).drew;rintro e w2 hp2;(cases r4 with | bad er a=>(obtain ⟨rfl,hk2⟩:=hp2;refine ⟨rfl,?_⟩;rw [HF4.out];exact ⟨rfl,Sx.Keep.toS (HZ.keep.trans hk2 (fun _ _ h=>h))⟩) | ok l q4=>?_);obtain ⟨x,rfl,hx,hr2,hk2⟩:=hp2;have HV:=Lib.hid (HZ.call hr2 hk2);have hx:=Kd.R_lower (Kd.R_mono hx (ok':=fun k=>w.heap.size≤k) (fun k hk=>Nat.le_trans HZ.keep.size hk)) (base':=w.heap.size) HZ.keep.size;obtain ⟨A1,c1,rfl⟩:=Kd.R_slice hx;have HLX:=Lib.hid hx;have HLN:=Lib.hid (HLL.out l q4 hrl);have yw:=blk_cell (v:=(.slice A0 s.classes.length c0)) HV.out.blk 4 rfl;have ywa:∀ o,(w2.alloc o).cell? ⟨SB,4,none⟩=some (.slice A0 s.classes.length c0):=fun o=>blk_cell (v:=(.slice A0 s.classes.length c0)) (HV.out.alloc o).blk 4 rfl;have HFR:=Lib.hid (Kd.R_step (Kd.R_below (Sx.lit1 Kd.string 9 w.heap.size X3 (fun _=>False) (fun k=>w.heap.size≤k) f [.string f] (by rfl) (fun _ hk=>hk.elim) HGW.out HGW.out) (Below.refl _ _).drew) (w1:=w2) (fun i hi hlt=>hk2.block i hlt (fun e=>by have:=HRB.out;unfold ours at e;omega)))))))
    all_goals
     go_wp2_with fail
     go_end0
     rw [HF4.out]
     exact ⟨rfl,HV5.out.fin4 hs3 hb3 hg3⟩
end Go.Proofs.YtcakgennlliejaaGreatDoor
