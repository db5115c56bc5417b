import Derived.Test.YtcakgennlliejaaGreatDoorSynK14
import Derived.Test.YtcakgennlliejaaGreatDoorSynK19
set_option maxHeartbeats 8000000
set_option maxRecDepth 100000
namespace Go.Proofs.YtcakgennlliejaaGreatDoor
open Go.Shelf Go.RowKit Go.Lib
open Go.Proofs.YtcakgennlliejaaGreatDoorW.PrintWords
open Go.Proofs.YtcakgennlliejaaGreatDoor.PSyntaxJoined
open Sx
set_option linter.unusedVariables false
set_option linter.unusedSimpArgs false
namespace Sx
theorem lexM_fuel:∀ (n n':Nat) (r:List UInt8) (p:Nat) (l:List S48),r.length≤n→r.length≤n'→lexM n r p l=lexM n' r p l
 | 0,0,_,_,_,_,_=>rfl
 | 0,n'+1,r,p,l,h,_=>by
  have:r=[]:=List.length_eq_zero_iff.1 (by omega)
  subst this;rfl
 | n+1,0,r,p,l,_,h=>by
  have:r=[]:=List.length_eq_zero_iff.1 (by omega)
  subst this;rfl
 | n+1,n'+1,r,p,l,h1,h2=>by
  unfold lexM
  by_cases hr:r=[]
  ·rw [if_pos hr,if_pos hr]
  ·rw [if_neg hr,if_neg hr]
   have hf:=step_fit (p:=p) hr
   cases hs:Sx.step r p with
   | go q=>rw [hs] at hf;exact lexM_fuel n n' _ q l (by rw [List.length_drop];have:=hf.1;omega) (by rw [List.length_drop];have:=hf.1;omega)
   | rem b q=>rw [hs] at hf;exact lexM_fuel n n' _ q l (by rw [List.length_drop];have:=hf.1;omega) (by rw [List.length_drop];have:=hf.1;omega)
   | tok t q=>rw [hs] at hf;exact lexM_fuel n n' _ q _ (by rw [List.length_drop];have:=hf.1;omega) (by rw [List.length_drop];have:=hf.1;omega)
   | jam t q=>rfl
   | no e a=>rfl
def nxt (n:Nat) (r:List UInt8) (p:Nat) (l:List S48):Stp→Lx
 | .go q=>lexM n (r.drop (q-p)) q l
 | .rem _ q=>lexM n (r.drop (q-p)) q l
 | .tok t q=>lexM n (r.drop (q-p)) q (l++[t])
 | .jam _ q=>⟨[],41,q⟩
 | .no e a=>⟨[],e,a⟩
theorem lexM_succ (n:Nat) (r:List UInt8) (p:Nat) (l:List S48) (hr:r≠[]):lexM (n+1) r p l=nxt n r p l (Sx.step r p):=by
 rw [lexM,if_neg hr]
 cases Sx.step r p <;> rfl
def lexT (s:ByteArray) (p:Nat) (l:List S48):Lx:=lexM (tl s p).length (tl s p) p l
theorem lexT_end {s:ByteArray} {p:Nat} {l:List S48} (h:¬ p<s.size):lexT s p l=⟨l,0,p⟩:=by
 unfold lexT
 rw [tl_nil h]
 rfl
theorem tl_ne {s:ByteArray} {p:Nat} (h:p<s.size):tl s p≠[]:=by rw [tl_cons h];exact List.cons_ne_nil _ _
theorem tl_len (s:ByteArray) (p:Nat):(tl s p).length=s.size-p:=by unfold tl;rw [List.length_drop];rfl
theorem lexT_ok {s:ByteArray} {p:Nat} {l:List S48} {st:Stp} (h:p<s.size) (hst:Sx.step (tl s p) p=st) (hok:st.ok=true):lexT s p l=lexT s (st.q p) (st.l l)∧p<st.q p∧st.er 0=0∧st.pl 0=0:=by
 have hf:=step_fit (p:=p) (tl_ne h)
 rw [hst] at hf
 have hd:∀ q,p<q→(tl s p).drop (q-p)=tl s q:=fun q hq=>by rw [tl_drop,show p+(q-p)=q by omega]
 have hu:lexT s p l=nxt ((tl s p).length-1) (tl s p) p l st:=by
  have hn:(tl s p).length=(tl s p).length-1+1:=by rw [tl_len];omega
  rw [← hst,← lexM_succ _ _ _ _ (tl_ne h),← hn]
  rfl
 have hl:=tl_len s p
 cases st with
 | go q=>exact ⟨hu.trans (by show lexM _ _ q l=lexT s q l;rw [hd q hf.1];exact lexM_fuel _ _ _ _ _ (by rw [tl_len,hl];have:=hf.1;omega) (Nat.le_refl _)),hf.1,rfl,rfl⟩
 | rem b q=>exact ⟨hu.trans (by show lexM _ _ q l=lexT s q l;rw [hd q hf.1];exact lexM_fuel _ _ _ _ _ (by rw [tl_len,hl];have:=hf.1;omega) (Nat.le_refl _)),hf.1,rfl,rfl⟩
 | tok t q=>exact ⟨hu.trans (by show lexM _ _ q _=lexT s q (l++[t]);rw [hd q hf.1];exact lexM_fuel _ _ _ _ _ (by rw [tl_len,hl];have:=hf.1;omega) (Nat.le_refl _)),hf.1,rfl,rfl⟩
 | jam t q=>cases hok
 | no e a=>cases hok
theorem lexT_no {s:ByteArray} {p:Nat} {l:List S48} {st:Stp} (h:p<s.size) (hst:Sx.step (tl s p) p=st) (hok:st.ok=false):lexT s p l=⟨[],st.er 0,st.pl 0⟩∧st.er 0≠0:=by
 have hf:=step_fit (p:=p) (tl_ne h)
 rw [hst] at hf
 have hu:lexT s p l=nxt ((tl s p).length-1) (tl s p) p l st:=by
  have hn:(tl s p).length=(tl s p).length-1+1:=by rw [tl_len];omega
  rw [← hst,← lexM_succ _ _ _ _ (tl_ne h),← hn]
  rfl
 rw [hu]
 cases st with
 | go q=>cases hok
 | rem b q=>cases hok
 | tok t q=>cases hok
 | jam t q=>exact ⟨rfl,by show (41:Int)≠0;decide⟩
 | no e a=>exact ⟨rfl,hf.1⟩
theorem lex_start {s:ByteArray} (h:¬ 65536<s.size):lex s=lexT s 0 []:=by
 unfold lex lexT
 rw [if_neg h]
 have h1:tl s 0=s.data.toList:=rfl
 rw [h1]
 exact lexM_fuel _ _ _ _ _ (Nat.le_refl _) (Nat.le_refl _)
def posAt (w:World) (sb:Nat):Nat:=match w.cell? ⟨sb,1,none⟩ with | some (.int _ n)=>n.toNat | _=>0
theorem posAt_of {w:World} {sb p:Nat} (h:w.cell? ⟨sb,1,none⟩=some (.int .i64 p)):posAt w sb=p:=by
 unfold posAt;rw [h];rfl
def ScanDone (X:Lx) (w:World) (e:Ending) (w':World):Prop :=
 e=.returned (.pointer (some ⟨w.heap.size,0,none⟩))∧Below w.heap.size w w'∧∃ tv,w'.cell? ⟨w.heap.size,2,none⟩=some tv∧w'.cell? ⟨w.heap.size,4,none⟩=some (.int .i64 X.e)∧w'.cell? ⟨w.heap.size,5,none⟩=some (.int .i64 X.at_)∧Kd.R k48 48 w' w.heap.size (fun k=>w.heap.size≤k) tv X.l
end Sx
theorem fail0_calls (sb:Nat) (a b c d:Value) (er pl:Int) (e x:Int) (w:World) (h:w.heap[sb]?=some (.cells #[a,b,c,d,.int .i64 er,.int .i64 pl] 108 (0,0))) :
  Calls Tryz.prog 51 #[.pointer (some ⟨sb,0,none⟩),.int .i64 e,.int .i64 x] w fun y w'=>y=.returned (.bool false)∧w'=(w.setCell ⟨sb,4,none⟩ (.int .i64 e)).setCell ⟨sb,5,none⟩ (.int .i64 x):=by
 have y4:=blk_cell (v:=.int .i64 er) h 4 rfl
 have y5:=blk_cell (v:=.int .i64 pl) h 5 rfl
 have f4:=blk_free h 4
 have f5:=blk_free h 5
 clear h
 go_enter Tryz.func51,Tryz.ntmps51
 go_wp2_with fail
 go_ret
 exact ⟨rfl,rfl⟩
theorem scan_calls (s:ByteArray) (w:World) (hgl:∃ m,w.cell? ⟨0,0,none⟩=some (.int .i64 m)):Calls Tryz.prog 37 #[.string s] w (ScanDone (lex s) w):=by
 obtain ⟨X,hX⟩:∃ X,w.alloc (.cells #[.string s,.int .i64 0,.slice none 0 0,.slice none 0 0,.int .i64 0,.int .i64 0] 108)=X:=⟨_,rfl⟩
 obtain ⟨sb,hsb⟩:∃ sb,w.heap.size=sb:=⟨_,rfl⟩
 have HX:=Lib.hid hX
 have HSB:=Lib.hid hsb
 have HBX:=Lib.hid (show Below w.heap.size w X by rw [← hX];exact (Below.refl _ w).alloc (Nat.le_refl _) _)
 have HBK:=Lib.hid (show X.heap[sb]?=some (.cells #[.string s,.int .i64 0,.slice none 0 0,.slice none 0 0,.int .i64 0,.int .i64 0] 108 (0,0)) by rw [← hX,← hsb];exact heap_alloc_new w _)
 have h0:0<sb:=by obtain ⟨m,hm⟩:=hgl;have:=World.block_lt_of_cell? _ _ hm;simp only at this;omega
 have HGX:=Lib.hid (show ∃ m,X.cell? ⟨0,0,none⟩=some (.int .i64 m) from hgl.imp fun m hm=>keep_cell hm HBX.out)
 have H0:=Lib.hid h0
 clear hX hgl h0
 by_cases hbig:65536<s.size
 ·have z1:decide ((65536:Int)<(s.size:Int))=true:=decide_eq_true (by omega)
  have HL:=Lib.hid (show lex s=⟨[],5,0⟩ by unfold lex;rw [if_pos hbig])
  clear hbig
  go_enter Tryz.func37,Tryz.ntmps37
  go_upto_region 2 with (fail)
  try rw [HX.out]
  try rw [hsb]
  have HF:=Lib.hid (fail0_calls sb _ _ _ _ 0 0 5 0 X HBK.out)
  clear hsb
  go_wp2_with (first | (go_at_call 51;((with_reducible refine HF.out.mono ?_);rintro e w8 ⟨rfl,rfl⟩)))
  go_ret
  rw [HL.out]
  have hb4:=heap_setCell_same (heap_setCell_same HBK.out 4 (.int .i64 5)) 5 (.int .i64 0)
  unfold ScanDone
  rw [HSB.out]
  exact ⟨rfl,by rw [← HSB.out];exact (HBX.out.setCell (p:=⟨w.heap.size,4,none⟩) (Nat.le_refl _) _).setCell (p:=⟨w.heap.size,5,none⟩) (Nat.le_refl _) _,_,blk_cell hb4 2 rfl,blk_cell hb4 4 rfl,blk_cell hb4 5 rfl,Kd.R_nil _ _ _ _ _⟩
 ·have z1:decide ((65536:Int)<(s.size:Int))=false:=decide_eq_false (by omega)
  have HL:=Lib.hid (lex_start hbig)
  have HS0:=Lib.hid (show Sn X sb s 0 [] [] 0 0 (.slice none 0 0) (.slice none 0 0) from ⟨HBK.out,Kd.R_nil _ _ _ _ _,Kd.R_nil _ _ _ _ _,by omega,Nat.zero_le _,Nat.le_refl _,Nat.le_refl _⟩)
  clear hbig
  go_enter Tryz.func37,Tryz.ntmps37
  go_upto_region 2 with (fail)
  try rw [HX.out]
  try rw [hsb]
  clear hsb
  go_wp2_with fail
  go_loopw [] (fun wr=>∃ p l rm tv rv,Sn wr sb s p l rm 0 0 tv rv∧Keep (sF sb) X wr∧lex s=lexT s p l) (fun wr=>s.size-posAt wr sb)
  case atStart=>exact ⟨0,[],[],_,_,HS0.out,Keep.refl _ _,HL.out⟩
  case round =>
   obtain ⟨p,l,rm,tv,rv,hs,hk,hf⟩:=hrel
   have HK:=Lib.hid hk
   have HF:=Lib.hid hf
   have HS:=Lib.hid hs
   have y1:=blk_cell (v:=.int .i64 p) hs.blk 1 rfl
   have HY1:=Lib.hid y1
   by_cases hp:p<s.size
   ·have hgw:∃ m,wr.cell? ⟨0,0,none⟩=some (.int .i64 m):=by
     obtain ⟨m,hm⟩:=HGX.out
     refine ⟨m,?_⟩
     have h0:=H0.out
     have h1:=hk.block 0 (by have:=World.block_lt_of_cell? _ _ hm;simp only at this;exact this) (by unfold sF;omega)
     rw [← hm]
     unfold World.cell?
     rw [h1]
    have z2:decide ((p:Int)<(s.size:Int))=true:=decide_eq_true (by omega)
    have z3:decide (p<s.size)=true:=decide_eq_true hp
    obtain ⟨st,hst⟩:∃ st,Sx.step (tl s p) p=st:=⟨_,rfl⟩
    have hN:=lnext_calls sb s p l rm 0 0 tv rv hp wr hs hgw
    rw [hst] at hN
    cases hok:st.ok
    ·have hno:=lexT_no (l:=l) hp hst hok
     have HOK:=Lib.hid hok
     have hne:(st.er 0 != 0)=true:=by simpa using hno.2
     have HNO:=Lib.hid hno.1
     clear hno hst hok hp hgw hs hk hf
     rcases hN with ⟨K,eK,hN⟩ | ⟨K,eK,hN⟩
     all_goals
      have HN:=Lib.hid hN
      clear hN
      go_upto_region 7 with (first | (go_at_call 52;((with_reducible refine HN.out.mono ?_);rintro e w2 ⟨rfl,hb2,hc2⟩;have HB2:=Lib.hid hb2;have HC2:=Lib.hid hc2;clear hb2 hc2)) | ((with_reducible refine HC2.out.mono ?_);rintro e w3 ⟨tv3,rv3,rfl,hs3,hk3⟩;rw [HOK.out];have HS3:=Lib.hid hs3;have HK3:=Lib.hid hk3;have y4:=blk_cell (v:=.int .i64 (st.er 0)) hs3.blk 4 rfl;clear hs3 hk3))
      have y2:=blk_cell (v:=tv3) HS3.out.blk 2 rfl
      have y3:=blk_cell (v:=rv3) HS3.out.blk 3 rfl
      have f2:=blk_free HS3.out.blk 2
      have f3:=blk_free HS3.out.blk 3
      go_wp2_with fail
      go_ret
      have hb9:=heap_setCell_same (heap_setCell_same HS3.out.blk 2 (.slice none 0 0)) 3 (.slice none 0 0)
      have hk9:Keep (sF sb) X ((w3.setCell ⟨sb,2,none⟩ (.slice none 0 0)).setCell ⟨sb,3,none⟩ (.slice none 0 0)):=(((HK.out.trans (Keep.of_below HB2.out:Keep (sF sb) wr w2) (fun _ _ h=>h)).trans HK3.out (fun _ _ h=>h)).trans (keep_set _) (fun _ _ h=>h)).trans (keep_set _) (fun _ _ h=>h)
      rw [HF.out,HNO.out]
      unfold ScanDone
      rw [HSB.out]
      exact ⟨rfl,by have h1:=HBX.out;have h2:=HBX.out.size;rw [HSB.out] at h1 h2;exact Sx.below_keep h1 h2 hk9 (fun i hi=>hi),_,blk_cell hb9 2 rfl,blk_cell hb9 4 rfl,blk_cell hb9 5 rfl,Kd.R_nil _ _ _ _ _⟩
    ·have hyes:=lexT_ok (l:=l) hp hst hok
     have HOK:=Lib.hid hok
     have HNO:=Lib.hid hyes
     clear hyes hst hok hp hgw hs hk hf
     rcases hN with ⟨K,eK,hN⟩ | ⟨K,eK,hN⟩
     all_goals
      have HN:=Lib.hid hN
      clear hN
      go_wp2_with (first | (go_at_call 52;((with_reducible refine HN.out.mono ?_);rintro e w2 ⟨rfl,hb2,hc2⟩;have HB2:=Lib.hid hb2;have HC2:=Lib.hid hc2;clear hb2 hc2)) | ((with_reducible refine HC2.out.mono ?_);rintro e w3 ⟨tv3,rv3,rfl,hs3,hk3⟩;rw [HOK.out];have HS3:=Lib.hid hs3;have HK3:=Lib.hid hk3;have y4:=blk_cell (v:=.int .i64 (st.er 0)) hs3.blk 4 rfl;clear hs3 hk3))
      go_roundw
      case rel =>
       have h9:=HS3.out
       rw [HNO.out.2.2.1,HNO.out.2.2.2] at h9
       exact ⟨st.q p,st.l l,st.rm rm,tv3,rv3,h9,(HK.out.trans (Keep.of_below HB2.out:Keep (sF sb) wr w2) (fun _ _ h=>h)).trans HK3.out (fun _ _ h=>h),HF.out.trans HNO.out.1⟩
      case measure =>
       rw [posAt_of HY1.out,posAt_of (blk_cell (v:=.int .i64 (st.q p)) HS3.out.blk 1 rfl)]
       have h1:=HNO.out.2.1
       have h2:=HS3.out.le
       omega
   ·have hend:=lexT_end (l:=l) hp
    have HE:=Lib.hid hend
    have HPE:=Lib.hid (show p=s.size by have:=hs.le;omega)
    have z2:decide ((p:Int)<(s.size:Int))=false:=decide_eq_false (by omega)
    have z3:decide (p<s.size)=false:=decide_eq_false hp
    have y4:=blk_cell (v:=.int .i64 0) hs.blk 4 rfl
    have y5:=blk_cell (v:=.int .i64 0) hs.blk 5 rfl
    have f5:=blk_free hs.blk 5
    clear hend hp hs hk hf
    go_wp2_with fail
    go_ret
    have hb9:=heap_setCell_same HS.out.blk 5 (.int .i64 (s.size:Int))
    have hk9:Keep (sF sb) X (wr.setCell ⟨sb,5,none⟩ (.int .i64 (s.size:Int))):=HK.out.trans (keep_set _) (fun _ _ h=>h)
    rw [HF.out,HE.out,HPE.out]
    unfold ScanDone
    rw [HSB.out]
    refine ⟨rfl,by have h1:=HBX.out;have h2:=HBX.out.size;rw [HSB.out] at h1 h2;exact Sx.below_keep h1 h2 hk9 (fun i hi=>hi),_,blk_cell hb9 2 rfl,blk_cell hb9 4 rfl,blk_cell hb9 5 rfl,?_⟩
    exact Kd.R_lower (Kd.R_mono (HS.out.set 5 _).1 (fun k hk=>Nat.le_of_lt hk)) (Nat.le_succ sb)
theorem tokens_calls (s:ByteArray) (w:World) (hgl:∃ m,w.cell? ⟨0,0,none⟩=some (.int .i64 m)) :
  Calls Tryz.prog 17 #[.string s] w fun e w'=>∃ x,e=.returned (.tuple #[x,.int .i64 (lex s).e,.int .i64 (lex s).at_])∧Kd.R k48 48 w' w.heap.size (fun k=>w.heap.size≤k) x (lex s).l∧Below w.heap.size w w':=by
 have HC:=Lib.hid (scan_calls s w hgl)
 generalize lex s=X at HC ⊢
 clear hgl
 go_enter Tryz.func17,Tryz.ntmps17
 go_upto_region 2 with (first | (go_at_call 37;((with_reducible refine HC.out.mono ?_);rintro e w2 ⟨rfl,hb2,tv,y2,y4,y5,hr2⟩)))
 have HB2:=Lib.hid hb2
 have HR2:=Lib.hid hr2
 clear hb2 hr2
 go_quiet (fail)
 go_wp2_with fail
 go_ret3
 exact ⟨tv,rfl,Kd.R_step HR2.out (fun _ _ _=>rfl),below_drewn HB2.out _⟩
namespace Sx
def text1:ByteArray:=⟨#[107,105,110,100,32,112,101,114,115,111,110,46,32,109,101,109,98,101,114,32,97,110,110,97,44,32,98,101,110,32,58,32,112,101,114,115,111,110,46,32,112,114,101,100,32,111,108,100,40,112,101,114,115,111,110,41,46]⟩
def text2:ByteArray:=⟨#[107,105,110,100,32,114,117,108,101,46]⟩
set_option maxRecDepth 100000 in
theorem lex1_e:(lex text1).e=0:=by decide +kernel
set_option maxRecDepth 100000 in
theorem lex2_e:(lex text2).e=0:=by decide +kernel
set_option maxRecDepth 100000 in
set_option maxHeartbeats 4000000 in
theorem stat2 (rb:Nat) (A:Option Addr) (c:Nat) (n:Int):(⟨rb,A,c,toks (lex text2).l,n⟩:Env).statute Sx.cal 0=.bad 51 5:=by kernel_rfl
set_option maxRecDepth 100000 in
set_option maxHeartbeats 4000000 in
theorem stat1 (rb:Nat) (A:Option Addr) (c:Nat) (n:Int):(⟨rb,A,c,toks (lex text1).l,n⟩:Env).statute Sx.cal 0=.ok ⟨⟨#[]⟩,[⟨#[112,101,114,115,111,110]⟩],[⟨⟨#[97,110,110,97]⟩,⟨#[112,101,114,115,111,110]⟩⟩,⟨⟨#[98,101,110]⟩,⟨#[112,101,114,115,111,110]⟩⟩],[⟨⟨#[111,108,100]⟩,1,[⟨#[112,101,114,115,111,110]⟩],[]⟩],[],[],[],[],[]⟩ 16:=by kernel_rfl
end Sx
theorem sp_calls (s:ByteArray) (w:World) (hg:∃ m,w.cell? ⟨0,0,none⟩=some (.int .i64 m)) :
  Calls Tryz.prog 8 #[.string s] w fun e w'=>Below w.heap.size w w'∧∃ x er a st,e=.returned (.tuple #[x,.int .i64 er,.int .i64 a])∧sttR w.heap.size st x w'∧PrsIs Sx.cal (lex s) s.size st er a:=by
 have hl:=lex_sound s
 refine sparse_calls Sx.cal cal_calls s (lex s) (fun w hg=>tokens_calls s w hg) ?_ w hg
 by_cases he:(lex s).e=0
 ·have hz:=lex_big s he
  exact ⟨Nat.le_trans hl.n hz,fun x hx=>Nat.le_trans (hl.z x hx).1 hz⟩
 ·have h0:=(hl.bad he).1
  rw [h0]
  exact ⟨Nat.zero_le _,fun x hx=>by cases hx⟩
set_option maxRecDepth 100000 in
theorem lnum_calls (k:Int) (w:World):Calls Tryz.prog 9 #[.int .i64 k] w fun e w'=>e=.returned (.int .i64 k)∧w=w':=by
 go_enter Tryz.func9,Tryz.ntmps9
 go_wp2_with fail
 go_ret
 exact ⟨rfl,rfl⟩
theorem Sx.prs1 {n:Int} {st:Stt} {er a:Int} (h:PrsIs Sx.cal (lex text1) n st er a):er=0∧a=n∧st=⟨⟨#[]⟩,[⟨#[112,101,114,115,111,110]⟩],[⟨⟨#[97,110,110,97]⟩,⟨#[112,101,114,115,111,110]⟩⟩,⟨⟨#[98,101,110]⟩,⟨#[112,101,114,115,111,110]⟩⟩],[⟨⟨#[111,108,100]⟩,1,[⟨#[112,101,114,115,111,110]⟩],[]⟩],[],[],[],[],[]⟩:=by
 rcases h with ⟨he,_⟩ | ⟨_,rb,A,c,hm⟩
 ·exact absurd lex1_e he
 ·rw [stat1 rb A c n] at hm
  exact ⟨hm.2.1,hm.2.2,hm.1⟩
theorem Sx.prs2 {n:Int} {st:Stt} {er a:Int} (h:PrsIs Sx.cal (lex text2) n st er a):er=51∧a=5∧st=noStt:=by
 rcases h with ⟨he,_⟩ | ⟨_,rb,A,c,hm⟩
 ·exact absurd lex2_e he
 ·rw [stat2 rb A c n] at hm
  exact ⟨hm.2.1,hm.2.2,hm.1⟩
theorem alive_calls (w:World) (hg:∃ m,w.cell? ⟨0,0,none⟩=some (.int .i64 m)) :
  Calls Tryz.prog 7 #[] w fun e w'=>e=.returned (.bool true)∧Below w.heap.size w w':=by
 have HG:=Lib.hid hg
 have HP:=Lib.hid (fun s w hg=>show Calls Tryz.prog 8 #[.string s] w _ from sp_calls s w hg)
 have HP1:=Lib.hid (HP.out text1 w hg)
 have HP2:=Lib.hid (fun w hg=>HP.out text2 w hg)
 unfold text1 at HP1
 unfold text2 at HP2
 clear hg
 go_enter Tryz.func7,Tryz.ntmps7
 go_upto_region 2 with (first | (go_at_call 8;((with_reducible refine HP1.out.mono ?_);rintro e w1 ⟨hb1,x,er,a,st,rfl,hx1,hp1⟩;obtain ⟨rfl,rfl,rfl⟩:=prs1 hp1;obtain ⟨own,⟨v1,v2,v3,v4,v5,v6,v7,v8⟩,rfl,hlm,g1,g2,g3,g4,g5,g6,g7,g8⟩:=hx1;have HB1:=Lib.hid hb1;have HG2:=Lib.hid g2;have ev1:=Kd.R_slice g1;dsimp only at ev1;obtain ⟨B1,d1,rfl⟩:=ev1;have ev2:=Kd.R_slice g2;dsimp only at ev2;obtain ⟨B2,d2,rfl⟩:=ev2;have ev3:=Kd.R_slice g3;dsimp only at ev3;obtain ⟨B3,d3,rfl⟩:=ev3;have ev4:=Kd.R_slice g4;dsimp only at ev4;obtain ⟨B4,d4,rfl⟩:=ev4;have ev5:=Kd.R_slice g5;dsimp only at ev5;obtain ⟨B5,d5,rfl⟩:=ev5;have ev6:=Kd.R_slice g6;dsimp only at ev6;obtain ⟨B6,d6,rfl⟩:=ev6;have ev7:=Kd.R_slice g7;dsimp only at ev7;obtain ⟨B7,d7,rfl⟩:=ev7;have ev8:=Kd.R_slice g8;dsimp only at ev8;obtain ⟨B8,d8,rfl⟩:=ev8;clear hb1 g1 g2 g3 g4 g5 g6 g7 g8 hlm hp1)))
 obtain ⟨X,hX⟩:∃ X,w1.alloc (.cells #[.string ⟨#[]⟩,.slice B1 1 d1,.slice B2 2 d2,.slice B3 1 d3,.slice B4 0 d4,.slice B5 0 d5,.slice B6 0 d6,.slice B7 0 d7,.slice B8 0 d8] 32)=X:=⟨_,rfl⟩
 obtain ⟨b,hb⟩:∃ b,w1.heap.size=b:=⟨_,rfl⟩
 have HBX:=Lib.hid (show Below w.heap.size w X by rw [← hX];exact HB1.out.alloc HB1.out.size _)
 have HBB:=Lib.hid (show X.heap[b]?=some (.cells #[.string ⟨#[]⟩,.slice B1 1 d1,.slice B2 2 d2,.slice B3 1 d3,.slice B4 0 d4,.slice B5 0 d5,.slice B6 0 d6,.slice B7 0 d7,.slice B8 0 d8] 32 (0,0)) by rw [← hX,← hb];exact heap_alloc_new w1 _)
 have HR:=Lib.hid (Kd.R_below HG2.out (show Below w1.heap.size w1 X by rw [← hX];exact (Below.refl _ w1).alloc (Nat.le_refl _) _))
 have HP3:=Lib.hid (HP2.out X (HG.out.imp fun m hm=>keep_cell hm HBX.out))
 try rw [hX]
 try rw [hb]
 clear hX hb
 go_upto_region 3 with (first | (go_at_call 8;((with_reducible refine HP3.out.mono ?_);rintro e w2 ⟨hb2,x,er,a,st,rfl,hx2,hp2⟩;obtain ⟨rfl,rfl,rfl⟩:=prs2 hp2;obtain ⟨own2,⟨u1,u2,u3,u4,u5,u6,u7,u8⟩,rfl,hlm2,g1,g2,g3,g4,g5,g6,g7,g8⟩:=hx2;have HB2:=Lib.hid hb2;have ev1:=Kd.R_slice g1;dsimp only [noStt] at ev1;obtain ⟨C1,q1,rfl⟩:=ev1;have ev2:=Kd.R_slice g2;dsimp only [noStt] at ev2;obtain ⟨C2,q2,rfl⟩:=ev2;have ev3:=Kd.R_slice g3;dsimp only [noStt] at ev3;obtain ⟨C3,q3,rfl⟩:=ev3;have ev4:=Kd.R_slice g4;dsimp only [noStt] at ev4;obtain ⟨C4,q4,rfl⟩:=ev4;have ev5:=Kd.R_slice g5;dsimp only [noStt] at ev5;obtain ⟨C5,q5,rfl⟩:=ev5;have ev6:=Kd.R_slice g6;dsimp only [noStt] at ev6;obtain ⟨C6,q6,rfl⟩:=ev6;have ev7:=Kd.R_slice g7;dsimp only [noStt] at ev7;obtain ⟨C7,q7,rfl⟩:=ev7;have ev8:=Kd.R_slice g8;dsimp only [noStt] at ev8;obtain ⟨C8,q8,rfl⟩:=ev8;clear hb2 g1 g2 g3 g4 g5 g6 g7 g8 hlm2 hp2)))
 obtain ⟨Y,hY⟩:∃ Y,w2.alloc (.cells #[.string noStt.title,.slice C1 0 q1,.slice C2 0 q2,.slice C3 0 q3,.slice C4 0 q4,.slice C5 0 q5,.slice C6 0 q6,.slice C7 0 q7,.slice C8 0 q8] 32)=Y:=⟨_,rfl⟩
 have hbY:Below X.heap.size X Y:=by rw [← hY];exact HB2.out.alloc HB2.out.size _
 have HBY:=Lib.hid (show Below w.heap.size w Y from HBX.out.trans (hbY.mono HBX.out.size))
 have hbb:=(hbY.block b (blk_lt HBB.out)).trans HBB.out
 have y1:=blk_cell (v:=.slice B1 1 d1) hbb 1 rfl
 have y2:=blk_cell (v:=.slice B2 2 d2) hbb 2 rfl
 have y3:=blk_cell (v:=.slice B3 1 d3) hbb 3 rfl
 obtain ⟨A7,c7,e7,_,hC⟩:=Kd.R_reads (Kd.R_below HR.out hbY)
 injection e7 with e8 _ _
 subst e8
 obtain ⟨ad,ea,t0,t1⟩:=at_T54 hC 1 (by decide) (by decide)
 have HT0:=Lib.hid t0
 subst ea
 try rw [hY]
 clear hY hbY hbb hC t0 t1
 have t0:Y.cell? ⟨ad.block,ad.off+2,none⟩=some (.string ⟨#[98,101,110]⟩):=HT0.out
 go_wp2_with (first | (go_at_call 9;((with_reducible refine (lnum_calls _ _).mono ?_);rintro e w6 ⟨rfl,rfl⟩)))
 go_ret
 exact ⟨rfl,HBY.out⟩
end Go.Proofs.YtcakgennlliejaaGreatDoor
