import Derived.Test.YtcakgennlliejaaGreatDoorSynK20
import Derived.Test.YtcakgennlliejaaGreatDoorSynK22
import Derived.Test.YtcakgennlliejaaGreatDoorSynK23
set_option maxHeartbeats 8000000
set_option maxRecDepth 100000
namespace Go.Proofs.YtcakgennlliejaaGreatDoor
open Go.Shelf Go.RowKit Go.Lib
open Go.Proofs.YtcakgennlliejaaGreatDoorW.PrintWords
open Go.Proofs.YtcakgennlliejaaGreatDoor.PSyntaxJoined
open Sx
set_option linter.unusedVariables false
set_option linter.unusedSimpArgs false
theorem Sx.tok_text {s:ByteArray} {p q:Nat} {t:S48} (hp:p<s.size) (h:Sx.step (tl s p) p=.tok t q):t.f2=p∧p<q∧q≤s.size∧(t.f0≠5→t.f1=s.extract p q)∧(t.f0=5→t.f1=s.extract (p+1) (q-1)∧p+1≤q-1):=by
 have hf:=step_fit (p:=p) (tl_ne hp)
 rw [h] at hf
 have hl:=tl_len s p
 refine ⟨hf.2.2.2,hf.1,by have:=hf.2.1;omega,?_⟩
 have hput:∀ k n,0<n→putS k n (tl s p) p=.tok t q→k≠5→(t.f0≠5→t.f1=s.extract p q)∧(t.f0=5→t.f1=s.extract (p+1) (q-1)∧p+1≤q-1):=by
  intro k n hn hk h5
  unfold putS at hk
  split at hk
  ·cases hk
  ·injection hk with h1 h2
   subst h1 h2
   refine ⟨fun _=>?_,fun e=>absurd e h5⟩
   rw [Sx.extract_eq,show p+n-p=n by omega]
   rfl
 have hwd:∀ k (g:Int→Bool),0<runN g (tl s p)→wordS k g (tl s p) p=.tok t q→k≠5→(t.f0≠5→t.f1=s.extract p q)∧(t.f0=5→t.f1=s.extract (p+1) (q-1)∧p+1≤q-1):=by
  intro k g hn hk h5
  unfold wordS at hk
  split at hk
  ·cases hk
  ·exact hput k _ hn hk h5
 have hr:∀ g:Int→Bool,g (cls (s[p]'hp).toNat)=true→0<runN g (tl s p):=fun g hg=>by rw [tl_cons hp,runN_cons,hg];simp
 have h2:Sx.step (s[p]'hp::tl s (p+1)) p=.tok t q:=by rw [← tl_cons hp];exact h
 rw [Sx.step_cons,← tl_cons hp] at h2
 split at h2
 ·cases h2
 split at h2
 ·rename_i hc;exact hwd 1 isNm (hr _ (by rw [hc];rfl)) h2 (by decide)
 split at h2
 ·rename_i hc;exact hwd 2 isVr (hr _ (by rw [hc];rfl)) h2 (by decide)
 split at h2
 ·rename_i hc
  unfold numberS at h2
  split at h2
  ·exact hput 4 10 (by decide) h2 (by decide)
  ·exact hput 3 _ (by rw [tl_cons hp];exact numN_pos (by rw [hc];rfl)) h2 (by decide)
 split at h2
 ·rcases quote_idx (tl s (p+1)) with ⟨_,hd⟩ | ⟨m,c,t2,_,hm,htk,hd,hc⟩
  ·rw [quote_none p hd] at h2;cases h2
  ·rcases hc with rfl | rfl
   ·rw [quote_ok p (p+1) (p+1+m) m rfl rfl hm htk hd] at h2
    injection h2 with e1 e2
    subst e1 e2
    exact ⟨fun e=>absurd rfl e,fun _=>⟨by rw [show p+1+m+1-1=p+1+m by omega],by omega⟩⟩
   ·rw [quote_line p m hm hd] at h2;cases h2
 split at h2
 ·cases h2
 ·unfold markS at h2
  rcases markL_len (l:=tl s p) (p:=p) (ms:=marks8) (by decide) with ⟨m,hm,hpr,_,he⟩ | he
  ·rw [he] at h2
   injection h2 with e1 e2
   subst e1 e2
   refine ⟨fun _=>?_,fun e=>(by cases e)⟩
   rw [Sx.extract_eq,show p+m.length-p=m.length by omega]
   have h9:=prefix_take (m:=m) (l:=tl s p)
   rw [hpr] at h9
   have h8:(tl s p).take m.length=m:=by simpa using h9.symm
   show (⟨m.toArray⟩:ByteArray)=⟨((tl s p).take m.length).toArray⟩
   rw [h8]
  ·rw [he] at h2;cases h2
structure Sx.Rw (w wr:World) (s:ByteArray) (p:Nat) (l:List S48) (rm:List ByteArray) (tv rv:Value):Prop where
 b:Below w.heap.size w wr
 rt:Kd.R k48 48 wr w.heap.size (fun k=>w.heap.size≤k) tv l
 rr:Kd.R Kd.string 9 wr w.heap.size (fun k=>w.heap.size≤k) rv rm
 le:p≤s.size
 nt:l.length≤p
 nr:rm.length≤p
 f:lex s=lexT s p l
theorem Sx.Rw.pushT {w wr w3:World} {s:ByteArray} {p q:Nat} {l:List S48} {rm:List ByteArray} {tv rv v9:Value} {t:S48} (h:Rw w wr s p l rm tv rv) (hs3:Kd.R k48 48 w3 w.heap.size (fun k=>w.heap.size≤k) v9 (l++[t])) (hb3:Below w.heap.size wr w3) (hg3:wr.grownBy w3 tv.ownBlock) (hpq:p<q) (hq:q≤s.size) (hf:lex s=lexT s q (l++[t])):Rw w w3 s q (l++[t]) rm v9 rv :=
 ⟨h.b.trans hb3,hs3,Kd.R_mono (Kd.R_step (Kd.R_apartR h.rr h.rt (by decide)) (fun i hi hlt=>hg3.block i hlt hi.2)) (fun k hk=>hk.1),hq,by rw [List.length_append,List.length_singleton];have:=h.nt;omega,by have:=h.nr;omega,hf⟩
theorem Sx.Rw.pushR {w wr w3:World} {s:ByteArray} {p q:Nat} {l:List S48} {rm:List ByteArray} {tv rv v9:Value} {t:ByteArray} (h:Rw w wr s p l rm tv rv) (hs3:Kd.R Kd.string 9 w3 w.heap.size (fun k=>w.heap.size≤k) v9 (rm++[t])) (hb3:Below w.heap.size wr w3) (hg3:wr.grownBy w3 rv.ownBlock) (hpq:p<q) (hq:q≤s.size) (hf:lex s=lexT s q l):Rw w w3 s q l (rm++[t]) tv v9 :=
 ⟨h.b.trans hb3,Kd.R_mono (Kd.R_step (Kd.R_apartR h.rt h.rr (by decide)) (fun i hi hlt=>hg3.block i hlt hi.2)) (fun k hk=>hk.1),hs3,hq,by have:=h.nt;omega,by rw [List.length_append,List.length_singleton];have:=h.nr;omega,hf⟩
theorem Sx.Rw.below {w wr w1:World} {s:ByteArray} {p:Nat} {l:List S48} {rm:List ByteArray} {tv rv:Value} (h:Rw w wr s p l rm tv rv) (b:Below wr.heap.size wr w1):Rw w w1 s p l rm tv rv :=
 ⟨h.b.trans (b.mono h.b.size),Kd.R_below h.rt b,Kd.R_below h.rr b,h.le,h.nt,h.nr,h.f⟩
theorem Sx.rem_step {s:ByteArray} {p:Nat} (hp:p<s.size) (hc:s[p]'hp=35):Sx.step (tl s p) p=.rem ⟨((tl s (p+1)).takeWhile inLine).toArray⟩ (p+1+((tl s (p+1)).takeWhile inLine).length):=by
 rw [tl_cons hp,Sx.step_cons,hc]
 rfl
theorem Sx.go_step {s:ByteArray} {p:Nat} (hp:p<s.size) (hc:cls (s[p]'hp).toNat=1):Sx.step (tl s p) p=.go (p+1):=by
 rw [tl_cons hp,Sx.step_cons,if_pos hc]
def Sx.WalkDone (X:Lx) (w:World) (e:Ending) (w':World):Prop:=∃ tv rv,e=.returned (.tuple #[tv,rv,.int .i64 X.e,.int .i64 X.at_])∧Kd.R k48 48 w' w.heap.size (fun k=>w.heap.size≤k) tv X.l∧Below w.heap.size w w'
theorem rwalk_calls (s:ByteArray) (w:World):Calls Tryz.prog 28 #[.string s] w (WalkDone (lex s) w):=by
 by_cases hbig:65536<s.size
 ·have z1:decide ((65536:Int)<(s.size:Int))=true:=decide_eq_true (by omega)
  have HL:=Lib.hid (show lex s=⟨[],5,0⟩ by unfold lex;rw [if_pos hbig])
  clear hbig
  go_enter Tryz.func28,Tryz.ntmps28
  go_wp2_with fail
  ((try simp only [Exit.inBlock,Exit.then]);refine bodyPost_ret (results_four rfl _ _ _) rfl ?_)
  rw [HL.out]
  exact ⟨_,_,rfl,Kd.R_nil _ _ _ _ _,Below.refl _ _⟩
 ·have z1:decide ((65536:Int)<(s.size:Int))=false:=decide_eq_false (by omega)
  have HL:=Lib.hid (lex_start hbig)
  have HZ:=Lib.hid (show s.size≤65536 by omega)
  clear hbig
  go_enter Tryz.func28,Tryz.ntmps28
  go_wp2_with fail
  go_loopw [6,7,8] (fun u6 u7 u8 wr=>∃ (p:Nat) (l:List S48) (rm:List ByteArray),u8=.int .i64 p∧Rw w wr s p l rm u6 u7) (fun _ _ u8 _=>s.size-(RowKit.intOf u8).toNat)
  case atStart=>exact ⟨0,[],[],rfl,Below.refl _ _,Kd.R_nil _ _ _ _ _,Kd.R_nil _ _ _ _ _,Nat.zero_le _,Nat.le_refl _,Nat.le_refl _,HL.out⟩
  case round =>
   obtain ⟨p,l,rm,rfl,hrw⟩:=hrel
   obtain ⟨A0,c0,rfl⟩:=Kd.R_slice hrw.rt
   obtain ⟨B0,d0,rfl⟩:=Kd.R_slice hrw.rr
   obtain ⟨W1,rfl⟩:∃ X:World,X=wr:=⟨_,rfl⟩
   have HRW:=Lib.hid hrw
   have hzz:=HZ.out
   have hle:=hrw.le
   have g1:(0:Int)≤(p:Int):=by omega
   have g2:(p:Int)≤65536:=by omega
   by_cases hlt:p<s.size
   ·have z2:decide ((p:Int)<(s.size:Int))=true:=decide_eq_true (by omega)
    have z3:decide (p<s.size)=true:=decide_eq_true hlt
    have z4:(p:Int)<(s.size:Int):=by omega
    by_cases hb:cls (s[p]'hlt).toNat=1
    ·have HBK:=Lib.hid (show (cls (s[p]'hlt).toNat==1)=true by rw [hb];rfl)
     have HN:=Lib.hid (lexT_ok (l:=l) hlt (go_step hlt hb) rfl)
     clear hb hrw hle
     go_wp2_with (first | (go_at_call 46;((with_reducible refine (rblank_calls _ _).mono ?_);rw [HBK.out];rintro e w4 ⟨rfl,rfl⟩)))
     go_roundw
     case rel=>exact ⟨p+1,l,rm,rfl,HRW.out.b,HRW.out.rt,HRW.out.rr,hlt,by have:=HRW.out.nt;omega,by have:=HRW.out.nr;omega,HRW.out.f.trans HN.out.1⟩
     case measure=>simp [RowKit.intOf];omega
    ·have HBK:=Lib.hid (show (cls (s[p]'hlt).toNat==1)=false by simpa using hb)
     by_cases hh:s[p]'hlt=35
     ·skip
      have h35:(((s[p]'hlt).toNat:Int)==35)=true:=by rw [hh];rfl
      obtain ⟨p1,hp1⟩:∃ p1,p+1=p1:=⟨_,rfl⟩
      obtain ⟨Q,hQ⟩:∃ Q,p1+((tl s p1).takeWhile inLine).length=Q:=⟨_,rfl⟩
      have e1:(p:Int)+1=(p1:Int):=by omega
      have hst:=rem_step hlt hh
      rw [hp1,hQ] at hst
      have HN:=Lib.hid (lexT_ok (l:=l) hlt hst rfl)
      have HQ:=Lib.hid (show p+((tl s p).takeWhile inLine).length=Q by
       rw [tl_cons hlt,List.takeWhile_cons,hh,hp1]
       show p+(((tl s p1).takeWhile inLine).length+1)=Q
       omega)
      have HQP:=Lib.hid (show p1≤Q∧p<p1 by omega)
      have HLR:=Lib.hid (show (rm.length+1)*16≤140737488355328 by have:=HRW.out.nr;omega)
      clear hst hb hh hrw hle hp1 hQ
      go_wp2_with (first | (go_at_call 46;((with_reducible refine (rblank_calls _ _).mono ?_);rw [HBK.out];rintro e w4 ⟨rfl,rfl⟩)))
      go_loop [9] (fun u9=>∃ j:Nat,u9=.int .i64 j∧p≤j∧j≤s.size∧j+((tl s j).takeWhile inLine).length=Q) (fun u9=>s.size-(RowKit.intOf u9).toNat)
      case atStart=>exact ⟨p,rfl,Nat.le_refl _,Nat.le_of_lt hlt,HQ.out⟩
      case round =>
       obtain ⟨j,rfl,hpj,hjs,hj⟩:=hrel
       have HPJ:=Lib.hid hpj
       have j1:(0:Int)≤(j:Int):=by omega
       have j2:(j:Int)≤65536:=by omega
       by_cases hlj:j<s.size
       ·have w1:decide ((j:Int)<(s.size:Int))=true:=decide_eq_true (by omega)
        have w2:decide (j<s.size)=true:=decide_eq_true hlj
        have w3:(j:Int)<(s.size:Int):=by omega
        rw [tl_cons hlj,List.takeWhile_cons] at hj
        by_cases h10:s[j]'hlj=10
        ·have i3:(((s[j]'hlj).toNat:Int) != 10)=false:=by rw [h10];rfl
         obtain rfl:j=Q:=by rw [h10] at hj;exact hj
         clear hj h10
         have HPJ1:=Lib.hid (show p<j by have:=HQP.out;omega)
         have HJS:=Lib.hid hjs
         have m1:(p1:Int)≤(j:Int):=by have:=HQP.out;omega
         have m2:(j:Int)≤(s.size:Int):=by omega
         have m3:¬ ((j:Int)<(p1:Int)):=by omega
         have m4:¬ ((s.size:Int)<(j:Int)):=by omega
         have m5:(0:Int)≤(p1:Int):=by omega
         clear hpj hjs
         go_wp2_with (first | (at_builtin;refine Kd.R_append Kd.string (w0:=W1) w.heap.size rfl (.tmp 45) (.tmp 51) 23 9 (.string ⟨#[]⟩) 16 rfl Tryz.underlying23 info_st rfl (by decide) (by decide) (.slice B0 rm.length d0) rm (s.extract p1 j) [.string (s.extract p1 j)] (fun k=>w.heap.size≤k) (fun _=>False) rfl rfl (by rfl) (fun _ hk=>hk.elim) (fun k hk=>Nat.le_trans HRW.out.b.size hk) HRW.out.rr (Below.refl _ _) HRW.out.b.size HLR.out ?_;intro v3 w3 hs3 hb3 hg3 hat3;obtain ⟨A9,c9,rfl⟩:=Kd.R_slice hs3;rw [List.length_append,List.length_singleton] at hs3;have HR3:=Lib.hid (HRW.out.pushR hs3 hb3 hg3 HPJ1.out HJS.out (HRW.out.f.trans HN.out.1));clear hs3 hb3 hg3 hat3))
         go_roundw
         case rel=>exact ⟨j,l,rm++[s.extract p1 j],rfl,HR3.out⟩
         case measure=>(have h9:=HPJ1.out;have h8:=HJS.out;simp [RowKit.intOf];omega)
        ·have i3:(((s[j]'hlj).toNat:Int) != 10)=true:=by
          simp only [bne_iff_ne,ne_eq];intro h2;exact h10 (UInt8.toNat_inj.1 (by show (s[j]'hlj).toNat=10;omega))
         have hin:inLine (s[j]'hlj)=true:=by unfold inLine;simp [h10]
         rw [hin,if_pos rfl,List.length_cons] at hj
         have HJ1:=Lib.hid (show (j+1)+((tl s (j+1)).takeWhile inLine).length=Q by omega)
         clear h10 hj hpj hjs hin
         go_wp2_with fail
         go_round
         case rel=>exact ⟨j+1,rfl,by have:=HPJ.out;omega,hlj,HJ1.out⟩
         case measure=>simp [RowKit.intOf];omega
       ·have w1:decide ((j:Int)<(s.size:Int))=false:=decide_eq_false (by omega)
        have w2:decide (j<s.size)=false:=decide_eq_false hlj
        obtain rfl:j=Q:=by rw [tl_nil hlj] at hj;exact hj
        clear hj
        have HPJ1:=Lib.hid (show p<j by have:=HQP.out;omega)
        have HJS:=Lib.hid hjs
        have m1:(p1:Int)≤(j:Int):=by have:=HQP.out;omega
        have m2:(j:Int)≤(s.size:Int):=by omega
        have m3:¬ ((j:Int)<(p1:Int)):=by omega
        have m4:¬ ((s.size:Int)<(j:Int)):=by omega
        have m5:(0:Int)≤(p1:Int):=by omega
        clear hpj hjs
        go_wp2_with (first | (at_builtin;refine Kd.R_append Kd.string (w0:=W1) w.heap.size rfl (.tmp 45) (.tmp 51) 23 9 (.string ⟨#[]⟩) 16 rfl Tryz.underlying23 info_st rfl (by decide) (by decide) (.slice B0 rm.length d0) rm (s.extract p1 j) [.string (s.extract p1 j)] (fun k=>w.heap.size≤k) (fun _=>False) rfl rfl (by rfl) (fun _ hk=>hk.elim) (fun k hk=>Nat.le_trans HRW.out.b.size hk) HRW.out.rr (Below.refl _ _) HRW.out.b.size HLR.out ?_;intro v3 w3 hs3 hb3 hg3 hat3;obtain ⟨A9,c9,rfl⟩:=Kd.R_slice hs3;rw [List.length_append,List.length_singleton] at hs3;have HR3:=Lib.hid (HRW.out.pushR hs3 hb3 hg3 HPJ1.out HJS.out (HRW.out.f.trans HN.out.1));clear hs3 hb3 hg3 hat3))
        go_roundw
        case rel=>exact ⟨j,l,rm++[s.extract p1 j],rfl,HR3.out⟩
        case measure=>(have h9:=HPJ1.out;have h8:=HJS.out;simp [RowKit.intOf];omega)
     ·have h35:(((s[p]'hlt).toNat:Int)==35)=false:=by
       simp only [beq_eq_false_iff_ne,ne_eq];intro h9;exact hh (UInt8.toNat_inj.1 (by show (s[p]'hlt).toNat=35;omega))
      obtain ⟨st,hst⟩:∃ st,Sx.step (tl s p) p=st:=⟨_,rfl⟩
      have hO:=rone_calls s p hlt hzz hb hh W1
      rw [hst] at hO
      have hfit:=step_fit (p:=p) (tl_ne hlt)
      rw [hst] at hfit
      cases st with
      | go q =>
       have HO:=Lib.hid hO
       clear hO hst hfit hb hh hrw hle
       go_wp2_with (first | (go_at_call 46;((with_reducible refine (rblank_calls _ _).mono ?_);rw [HBK.out];rintro e w4 ⟨rfl,rfl⟩)) | (go_at_call 47;((with_reducible refine HO.out.mono ?_);rintro e w5 ⟨k,en,er,a,rfl,hone,hb5⟩;exact hone.elim)))
      | rem r q =>
       have HO:=Lib.hid hO
       clear hO hst hfit hb hh hrw hle
       go_wp2_with (first | (go_at_call 46;((with_reducible refine (rblank_calls _ _).mono ?_);rw [HBK.out];rintro e w4 ⟨rfl,rfl⟩)) | (go_at_call 47;((with_reducible refine HO.out.mono ?_);rintro e w5 ⟨k,en,er,a,rfl,hone,hb5⟩;exact hone.elim)))
      | jam t q =>
       have HN:=Lib.hid (lexT_no (l:=l) hlt hst rfl)
       have HO:=Lib.hid hO
       clear hO hst hfit hb hh hrw hle
       go_wp2_with (first | (go_at_call 46;((with_reducible refine (rblank_calls _ _).mono ?_);rw [HBK.out];rintro e w4 ⟨rfl,rfl⟩)) | (go_at_call 47;((with_reducible refine HO.out.mono ?_);rintro e w5 ⟨k,en,er,a,rfl,⟨rfl,rfl,rfl,rfl⟩,hb5⟩;have HB5:=Lib.hid (HRW.out.b.trans (hb5.mono HRW.out.b.size));clear hb5)))
       ((try simp only [Exit.inBlock,Exit.then]);refine bodyPost_ret (results_four rfl _ _ _) rfl ?_)
       rw [HRW.out.f,HN.out.1]
       exact ⟨_,_,rfl,Kd.R_nil _ _ _ _ _,HB5.out⟩
      | no e0 a0 =>
       have hno:=lexT_no (l:=l) hlt hst rfl
       have hne:(e0 != 0)=true:=by simpa using hfit.1
       have HN:=Lib.hid hno
       have HO:=Lib.hid hO
       clear hO hst hfit hb hh hrw hle hno
       go_wp2_with (first | (go_at_call 46;((with_reducible refine (rblank_calls _ _).mono ?_);rw [HBK.out];rintro e w4 ⟨rfl,rfl⟩)) | (go_at_call 47;((with_reducible refine HO.out.mono ?_);rintro e w5 ⟨k,en,er,a,rfl,⟨rfl,rfl,rfl,rfl⟩,hb5⟩;have HB5:=Lib.hid (HRW.out.b.trans (hb5.mono HRW.out.b.size));clear hb5)))
       ((try simp only [Exit.inBlock,Exit.then]);refine bodyPost_ret (results_four rfl _ _ _) rfl ?_)
       rw [HRW.out.f,HN.out.1]
       exact ⟨_,_,rfl,Kd.R_nil _ _ _ _ _,HB5.out⟩
      | tok t q =>
       obtain ⟨k,tx,a⟩:=t
       obtain ⟨ha,hpq,hqs,ht1,ht2⟩:=tok_text hlt hst
       dsimp only at ha ht1 ht2
       subst ha
       have HN:=Lib.hid (lexT_ok (l:=l) hlt hst rfl)
       have HO:=Lib.hid hO
       have HPQ:=Lib.hid (And.intro hpq hqs)
       have HLL:=Lib.hid (show (l.length+1)*32≤140737488355328 by have:=HRW.out.nt;omega)
       have k1:(p:Int)≤(q:Int):=by omega
       have k2:(q:Int)≤(s.size:Int):=by omega
       have k3:¬ ((q:Int)<(p:Int)):=by omega
       have k4:¬ ((s.size:Int)<(q:Int)):=by omega
       have k5:p≤q:=by omega
       have k6:(0:Int)≤(q:Int):=by omega
       by_cases h5:k=5
       ·subst h5
        obtain ⟨htx,hpq1⟩:=ht2 rfl
        obtain ⟨p1,hp1⟩:∃ p1,p+1=p1:=⟨_,rfl⟩
        obtain ⟨q1,hq1⟩:∃ q1,q-1=q1:=⟨_,rfl⟩
        rw [hp1,hq1] at htx hpq1
        subst htx
        have e1:(p:Int)+1=(p1:Int):=by omega
        have e2:(q:Int)-1=(q1:Int):=by omega
        have m0:(0:Int)≤(p1:Int):=by omega
        have m1:(p1:Int)≤(q1:Int):=by omega
        have m2:(q1:Int)≤(s.size:Int):=by omega
        have m3:¬ ((q1:Int)<(p1:Int)):=by omega
        have m4:¬ ((s.size:Int)<(q1:Int)):=by omega
        clear hO hst hfit hb hh hrw hle hpq hqs ht1 ht2 hp1 hq1
        go_wp2_with (first | (go_at_call 46;((with_reducible refine (rblank_calls _ _).mono ?_);rw [HBK.out];rintro e w4 ⟨rfl,rfl⟩)) | (go_at_call 47;((with_reducible refine HO.out.mono ?_);rintro e w5 ⟨k,en,er,a,rfl,⟨rfl,rfl,rfl,rfl⟩,hb5⟩;have HRW2:=Lib.hid (HRW.out.below hb5);clear hb5)) | (at_builtin;refine Kd.R_append k48 (w0:=w5) w.heap.size rfl (.tmp 78) (.tmp 83) 40 48 (.agg #[.int .i64 0,.string ⟨#[]⟩,.int .i64 0]) 32 rfl Tryz.underlying40 info_tk rfl (by decide) (by decide) (.slice A0 l.length c0) l (⟨5,s.extract p1 q1,p⟩:S48) [.int .i64 5,.string (s.extract p1 q1),.int .i64 p] (fun k=>w.heap.size≤k) (fun _=>False) rfl rfl (k48_mkM _ _ _ ⟨5,s.extract p1 q1,p⟩) (fun _ hk=>hk.elim) (fun k hk=>Nat.le_trans HRW2.out.b.size hk) HRW2.out.rt (Below.refl _ _) HRW2.out.b.size HLL.out ?_;intro v3 w3 hs3 hb3 hg3 hat3;obtain ⟨A9,c9,rfl⟩:=Kd.R_slice hs3;rw [List.length_append,List.length_singleton] at hs3;have HR3:=Lib.hid (HRW2.out.pushT hs3 hb3 hg3 HPQ.out.1 HPQ.out.2 (HRW2.out.f.trans HN.out.1));clear hs3 hb3 hg3 hat3))
        go_roundw
        case rel=>exact ⟨q,l++[⟨5,s.extract p1 q1,p⟩],rm,rfl,HR3.out⟩
        case measure=>(have h9:=HPQ.out;simp [RowKit.intOf];omega)
       ·have htx:=ht1 h5
        subst htx
        have hk5:(k==5)=false:=by simpa using h5
        clear hO hst hfit hb hh hrw hle hpq hqs ht1 ht2 h5
        go_wp2_with (first | (go_at_call 46;((with_reducible refine (rblank_calls _ _).mono ?_);rw [HBK.out];rintro e w4 ⟨rfl,rfl⟩)) | (go_at_call 47;((with_reducible refine HO.out.mono ?_);rintro e w5 ⟨k,en,er,a,rfl,⟨rfl,rfl,rfl,rfl⟩,hb5⟩;have HRW2:=Lib.hid (HRW.out.below hb5);clear hb5)) | (at_builtin;refine Kd.R_append k48 (w0:=w5) w.heap.size rfl (.tmp 78) (.tmp 83) 40 48 (.agg #[.int .i64 0,.string ⟨#[]⟩,.int .i64 0]) 32 rfl Tryz.underlying40 info_tk rfl (by decide) (by decide) (.slice A0 l.length c0) l (⟨k,s.extract p q,p⟩:S48) [.int .i64 k,.string (s.extract p q),.int .i64 p] (fun k=>w.heap.size≤k) (fun _=>False) rfl rfl (k48_mkM _ _ _ ⟨k,s.extract p q,p⟩) (fun _ hk=>hk.elim) (fun k hk=>Nat.le_trans HRW2.out.b.size hk) HRW2.out.rt (Below.refl _ _) HRW2.out.b.size HLL.out ?_;intro v3 w3 hs3 hb3 hg3 hat3;obtain ⟨A9,c9,rfl⟩:=Kd.R_slice hs3;rw [List.length_append,List.length_singleton] at hs3;have HR3:=Lib.hid (HRW2.out.pushT hs3 hb3 hg3 HPQ.out.1 HPQ.out.2 (HRW2.out.f.trans HN.out.1));clear hs3 hb3 hg3 hat3))
        go_roundw
        case rel=>exact ⟨q,l++[⟨k,s.extract p q,p⟩],rm,rfl,HR3.out⟩
        case measure=>(have h9:=HPQ.out;simp [RowKit.intOf];omega)
   ·have z2:decide ((p:Int)<(s.size:Int))=false:=decide_eq_false (by omega)
    have z3:decide (p<s.size)=false:=decide_eq_false hlt
    have HE:=Lib.hid (lexT_end (l:=l) hlt)
    have HPE:=Lib.hid (show p=s.size by omega)
    clear hrw hle
    go_wp2_with fail
    ((try simp only [Exit.inBlock,Exit.then]);refine bodyPost_ret (results_four rfl _ _ _) rfl ?_)
    rw [HRW.out.f,HE.out,HPE.out]
    exact ⟨_,_,rfl,HRW.out.rt,HRW.out.b⟩
end Go.Proofs.YtcakgennlliejaaGreatDoor
namespace Go.Proofs.YtcakgennlliejaaGreatDoor
open Go.Shelf Go.RowKit Go.Lib
open Go.Proofs.YtcakgennlliejaaGreatDoorW.PrintWords
open Go.Proofs.YtcakgennlliejaaGreatDoor.PSyntaxJoined
set_option linter.unusedVariables false
set_option linter.unusedSimpArgs false
namespace Sx
def lexL (r:List UInt8) (p:Nat) (l:List S48):Lx:=lexM r.length r p l
theorem lexL_step {c:UInt8} {r:List UInt8} {p:Nat} {l:List S48}:lexL (c::r) p l=nxt r.length (c::r) p l (Sx.step (c::r) p):=lexM_succ _ _ _ _ (List.cons_ne_nil _ _)
theorem lexL_go {c:UInt8} {r:List UInt8} {p q:Nat} {l:List S48} (h:Sx.step (c::r) p=.go q) (hq:p<q):lexL (c::r) p l=lexL ((c::r).drop (q-p)) q l:=by
 rw [lexL_step,h]
 exact lexM_fuel _ _ _ _ _ (by rw [List.length_drop,List.length_cons];omega) (Nat.le_refl _)
theorem lexL_rem {c:UInt8} {r:List UInt8} {b:ByteArray} {p q:Nat} {l:List S48} (h:Sx.step (c::r) p=.rem b q) (hq:p<q):lexL (c::r) p l=lexL ((c::r).drop (q-p)) q l:=by
 rw [lexL_step,h]
 exact lexM_fuel _ _ _ _ _ (by rw [List.length_drop,List.length_cons];omega) (Nat.le_refl _)
theorem lexL_tok {c:UInt8} {r:List UInt8} {t:S48} {p q:Nat} {l:List S48} (h:Sx.step (c::r) p=.tok t q) (hq:p<q):lexL (c::r) p l=lexL ((c::r).drop (q-p)) q (l++[t]):=by
 rw [lexL_step,h]
 exact lexM_fuel _ _ _ _ _ (by rw [List.length_drop,List.length_cons];omega) (Nat.le_refl _)
theorem lexL_blank {c:UInt8} {r:List UInt8} {p:Nat} {l:List S48} (hc:cls c.toNat=1):lexL (c::r) p l=lexL r (p+1) l:=by
 rw [lexL_go (q:=p+1) (by rw [Sx.step_cons,if_pos hc]) (Nat.lt_succ_self p),show p+1-p=1 by omega]
 rfl
def gap0:List UInt8:=[32]
def gap1:List UInt8:=[10,9]
def gap2:List UInt8:=[32,35,32,97,32,114,101,109,97,114,107,46,32,107,105,110,100,10]
def gap3:List UInt8:=[32,32,13,10]
def IsGap (g:List UInt8):Prop:=g=gap0∨g=gap1∨g=gap2∨g=gap3
def tokB (t:S48):List UInt8:=if t.f0=5 then 34::(t.f1.data.toList++[34]) else t.f1.data.toList
end Sx
end Go.Proofs.YtcakgennlliejaaGreatDoor
namespace Go.Proofs.YtcakgennlliejaaGreatDoor
open Go.Shelf Go.RowKit Go.Lib
open Go.Proofs.YtcakgennlliejaaGreatDoorW.PrintWords
open Go.Proofs.YtcakgennlliejaaGreatDoor.PSyntaxJoined
set_option linter.unusedVariables false
set_option linter.unusedSimpArgs false
namespace Sx
def Al {α:Type} (P:α→Prop):Res α→Prop
 | .ok v _=>P v
 | .bad _ _=>True
section
variable {α β:Type} {P:α→Prop} {Q:β→Prop}
theorem Al.bnd {r:Res α} {k:α→Nat→Res β} (h:Al P r) (hk:∀ v q,P v→Al Q (k v q)):Al Q (r.bnd k):=by
 cases r with
 | ok v q=>exact hk v q h
 | bad e a=>trivial
theorem Al.cond {b:Bool} {x y:Res α} (hx:Al P x) (hy:Al P y):Al P (if b then x else y):=by cases b;exact hy;exact hx
theorem Al.ite {b:Prop} [Decidable b] {x y:Res α} (hx:Al P x) (hy:Al P y):Al P (if b then x else y):=by
 by_cases c:b
 ·rw [if_pos c];exact hx
 ·rw [if_neg c];exact hy
theorem Al.any (r:Res α):Al (fun _=>True) r:=by cases r <;> trivial
end
section
variable (V:Env)
theorem Al_room (n most:Int) (p:Nat):Al (fun _=>n<most) (V.room n most p):=by
 unfold Env.room
 by_cases h:most≤n
 ·rw [if_pos h];trivial
 ·rw [if_neg h];show n<most;omega
theorem Al_listM {α:Type} {P:α→Prop} {g:Nat→Res α} (hg:∀ p,Al P (g p)) (N:Nat):∀ (n:Nat) (out:List α) (p:Nat),out.length+n≤N→(∀ x∈out,P x)→Al (fun l=>l.length≤N∧∀ x∈l,P x) (V.listM g n out p)
 | 0,out,p,_,_=>trivial
 | n+1,out,p,hn,ho=>by
  unfold Env.listM
  refine (hg p).bnd fun v q hv=>?_
  have h2:∀ x∈out++[v],P x:=fun x hx=>by
   rcases List.mem_append.1 hx with hx | hx
   ·exact ho x hx
   ·rw [List.mem_singleton.1 hx];exact hv
  have h3:(out++[v]).length=out.length+1:=by rw [List.length_append,List.length_singleton]
  exact Al.cond (Al_listM hg N n _ _ (by omega) h2) ⟨by omega,h2⟩
theorem Al_list {α:Type} {P:α→Prop} {g:Nat→Res α} (hg:∀ p,Al P (g p)) (n most:Int) (p:Nat) (N:Nat) (h:(most-n).toNat≤N):Al (fun l=>l.length≤N∧∀ x∈l,P x) (V.list g n most p) :=
 Al_listM V hg N _ _ _ (by simpa using h) (fun _ h=>by cases h)
theorem sm_of {α:Type} {l:List α} {N:Nat} (h:l.length≤N) (hN:N≤4294967296):sm l:=Nat.le_trans h hN
theorem Al_brackets (g:Nat→Res ByteArray) (p:Nat):Al (fun l=>sm l) (V.brackets g p):=by
 unfold Env.brackets
 refine Al.cond ?_ (show sm [] from Nat.zero_le _)
 exact (Al_list V (P:=fun _=>True) (fun p=>Al.any _) 0 4 (p+1) 4 (by decide)).bnd fun l q hl=>(Al.any (V.must 6 ⟨#[41]⟩ q)).bnd fun _ _ _=>sm_of hl.1 (by decide)
theorem Al_literal (p:Nat):Al smLit (V.literal p):=by
 unfold Env.literal
 refine (Al.any _).bnd fun n q2 _=>(Al_brackets V _ _).bnd fun l q3 hl=>Al.cond ?_ hl
 exact (Al.any _).bnd fun m q4 _=>hl
theorem Al_term (sg:Int) (p:Nat):Al smTerm (V.term sg p):=by
 unfold Env.term
 refine Al.cond ((Al.any _).bnd fun c q _=>(Al.any _).bnd fun n q2 _=>(Al_brackets V _ _).bnd fun l q3 hl=>hl) (Al.cond ((Al.any _).bnd fun m q _=>?_) ((Al.any _).bnd fun n q2 _=>(Al_brackets V _ _).bnd fun l q3 hl=>hl))
 exact Nat.zero_le _
theorem Al_sumM:∀ (n:Nat) (out:List S102) (p:Nat),out.length+n≤8→(∀ x∈out,smTerm x)→Al smTerms (V.sumM n out p)
 | 0,out,p,hn,ho=>by
  unfold Env.sumM
  exact Al.cond trivial ⟨sm_of (N:=8) (by omega) (by decide),ho⟩
 | n+1,out,p,hn,ho=>by
  unfold Env.sumM
  have hk:∀ t q,smTerm t→Al smTerms (V.sumM n (out++[t]) q):=fun t q ht=>Al_sumM n _ _ (by rw [List.length_append,List.length_singleton];omega) (fun x hx=>by
   rcases List.mem_append.1 hx with hx | hx
   ·exact ho x hx
   ·rw [List.mem_singleton.1 hx];exact ht)
  exact Al.cond ((Al_term V _ _).bnd hk) (Al.cond ((Al_term V _ _).bnd hk) ⟨sm_of (N:=8) (by omega) (by decide),ho⟩)
theorem Al_sum (p:Nat):Al smTerms (V.sum p):=(Al_term V 1 p).bnd fun t q ht=>Al_sumM V 7 [t] q (Nat.le_refl 8) (fun x hx=>by rw [List.mem_singleton.1 hx];exact ht)
theorem smNoLit:smLit noLit:=Nat.zero_le _
theorem smNoGuard:smGuard noGuard:=⟨⟨Nat.zero_le _,fun _ h=>by cases h⟩,⟨Nat.zero_le _,fun _ h=>by cases h⟩⟩
theorem Al_premise (p:Nat):Al smPrem (V.premise p):=by
 unfold Env.premise
 refine Al.cond ((Al_sum V _).bnd fun l q hl=>(Al.any _).bnd fun o q2 _=>(Al_sum V _).bnd fun r q3 hr=>(Al.any _).bnd fun _ q4 _=>⟨smNoLit,hl,hr⟩) (Al.cond ((Al.any _).bnd fun a q _=>(Al.any _).bnd fun _ q2 _=>(Al.any _).bnd fun b q3 _=>⟨smNoLit,smNoGuard⟩) ((Al_literal V _).bnd fun l q hl=>⟨hl,smNoGuard⟩))
theorem Al_rule (cal:ByteArray→Int × Int) (p:Nat):Al smRule (V.rule cal p):=by
 unfold Env.rule
 refine (Al.any _).bnd fun n q1 _=>(Al.any _).bnd fun _ q2 _=>(Al.any _).bnd fun s q3 _=>(Al.any _).bnd fun _ q4 _=>(Al.any _).bnd fun a q5 _=>(Al.any _).bnd fun u q6 _=>(Al.any _).bnd fun _ q7 _=>?_
 unfold Env.ruleT
 refine Al.bnd (P:=fun b=>smPrems b) (Al.ite ?_ ⟨Nat.zero_le _,fun _ h=>by cases h⟩) fun b q hb=>Al.ite trivial ((Al_literal V _).bnd fun h q9 hh=>⟨hb,hh⟩)
 have h:=Al_list V (P:=smPrem) (fun p=>Al_premise V p) 0 16 q7 16 (by decide)
 cases hr:V.list V.premise 0 16 q7 with
 | bad e a=>trivial
 | ok v q=>rw [hr] at h;exact ⟨sm_of h.1 (by decide),h.2⟩
theorem Al_pred (n:Nat) (sort:Int) (p:Nat):Al (fun x=>smPred x∧n<256) (V.pred n sort p):=by
 unfold Env.pred
 refine (Al_room V _ _ _).bnd fun _ q0 hn=>(Al.any _).bnd fun nm q1 _=>(Al_brackets V _ _).bnd fun ks q2 hk=>Al.cond ((Al.any _).bnd fun _ q3 _=>(Al_list V (P:=fun _=>True) (fun p=>Al.any _) 0 64 q3 64 (by decide)).bnd fun vs q4 hv=>⟨⟨hk,sm_of hv.1 (by decide)⟩,by omega⟩) ⟨⟨hk,Nat.zero_le _⟩,by omega⟩
theorem Al_total (p:Nat):Al smTotal (V.total p):=by
 unfold Env.total
 refine (Al.any _).bnd fun n q1 _=>(Al.any _).bnd fun _ q2 _=>(Al.any _).bnd fun k q3 _=>(Al.any _).bnd fun _ q4 _=>(Al.any _).bnd fun _ q5 _=>(Al_list V (P:=fun _=>True) (fun p=>Al.any _) 0 16 q5 16 (by decide)).bnd fun l q6 hl=>Al.cond ((Al.any _).bnd fun m q7 _=>sm_of hl.1 (by decide)) (sm_of hl.1 (by decide))
end
structure Sh (s:Stt):Prop where
 n1:s.kinds.length≤1000
 n2:s.members.length≤1000
 n3:s.preds.length≤1000
 n4:s.classes.length≤1000
 n5:s.sources.length≤1000
 n6:s.rules.length≤1000
 n7:s.excepts.length≤1000
 n8:s.totals.length≤1000
 a3:∀ x∈s.preds,smPred x
 a4:∀ x∈s.classes,sm x
 a6:∀ x∈s.rules,smRule x
 a8:∀ x∈s.totals,smTotal x
theorem Sh.sm {s:Stt} (h:Sh s):smStt s :=
 ⟨sm_of h.n1 (by decide),sm_of h.n2 (by decide),⟨sm_of h.n3 (by decide),h.a3⟩,⟨sm_of h.n4 (by decide),h.a4⟩,sm_of h.n5 (by decide),⟨sm_of h.n6 (by decide),h.a6⟩,sm_of h.n7 (by decide),⟨sm_of h.n8 (by decide),h.a8⟩⟩
theorem Sh.none (t:ByteArray):Sh ⟨t,[],[],[],[],[],[],[],[]⟩ :=
 ⟨Nat.zero_le _,Nat.zero_le _,Nat.zero_le _,Nat.zero_le _,Nat.zero_le _,Nat.zero_le _,Nat.zero_le _,Nat.zero_le _,fun _ h=>(by cases h),fun _ h=>(by cases h),fun _ h=>(by cases h),fun _ h=>(by cases h)⟩
theorem all_one {α:Type} {P:α→Prop} {l:List α} {v:α} (h:∀ x∈l,P x) (hv:P v):∀ x∈l++[v],P x:=fun x hx=>by
 rcases List.mem_append.1 hx with hx | hx
 ·exact h x hx
 ·rw [List.mem_singleton.1 hx];exact hv
theorem len_one {α:Type} (l:List α) (v:α) {N:Nat} {most:Int} (h:(l.length:Int)<most) (hN:most≤N):(l++[v]).length≤N:=by rw [List.length_append,List.length_singleton];omega
theorem Al_item (V:Env) (cal:ByteArray→Int × Int) (s:Stt) (hs:Sh s) (p:Nat):Al Sh (V.item cal s p):=by
 unfold Env.item
 refine Al.cond ?_ trivial
 refine Al.cond ((Al_room V _ _ _).bnd fun _ q hn=>(Al.any _).bnd fun n q2 _=>{ hs with n1:=len_one _ _ hn (by decide) }) ?_
 refine Al.cond ((Al_list V (P:=fun _=>True) (fun p=>Al.any _) _ 64 _ (64-(s.members.length:Int)).toNat (Nat.le_refl _)).bnd fun l q hl=>(Al.any _).bnd fun _ q2 _=>(Al.any _).bnd fun k q3 _=>{ hs with n2:=by rw [List.length_append,List.length_map];have h1:=hl.1;have h2:=hs.n2;omega }) ?_
 refine Al.cond ((Al_pred V _ _ _).bnd fun x q hx=>{ hs with n3:=len_one _ _ (most:=256) (by have:=hx.2;omega) (by decide),a3:=all_one hs.a3 hx.1 }) ?_
 refine Al.cond ((Al_pred V _ _ _).bnd fun x q hx=>{ hs with n3:=len_one _ _ (most:=256) (by have:=hx.2;omega) (by decide),a3:=all_one hs.a3 hx.1 }) ?_
 refine Al.cond ((Al_pred V _ _ _).bnd fun x q hx=>{ hs with n3:=len_one _ _ (most:=256) (by have:=hx.2;omega) (by decide),a3:=all_one hs.a3 hx.1 }) ?_
 refine Al.cond ((Al_room V _ _ _).bnd fun _ q hn=>(Al.any _).bnd fun f q2 _=>(Al.any _).bnd fun _ q3 _=>(Al_list V (P:=fun _=>True) (fun p=>Al.any _) 1 16 q3 16 (by decide)).bnd fun l q4 hl=>{ hs with n4:=len_one _ _ hn (by decide),a4:=all_one hs.a4 (sm_of (N:=17) (by rw [List.length_cons];have:=hl.1;omega) (by decide)) }) ?_
 refine Al.cond ((Al_room V _ _ _).bnd fun _ q hn=>(Al.any _).bnd fun f q2 _=>(Al.any _).bnd fun _ q3 _=>(Al.any _).bnd fun l q4 _=>{ hs with n5:=len_one _ _ hn (by decide) }) ?_
 refine Al.cond ((Al_room V _ _ _).bnd fun _ q hn=>(Al_rule V cal _).bnd fun x q2 hx=>{ hs with n6:=len_one _ _ hn (by decide),a6:=all_one hs.a6 hx }) ?_
 refine Al.cond ((Al_room V _ _ _).bnd fun _ q hn=>(Al.any _).bnd fun f q2 _=>(Al.any _).bnd fun _ q3 _=>(Al.any _).bnd fun l q4 _=>{ hs with n7:=len_one _ _ hn (by decide) }) ?_
 exact Al.cond ((Al_room V _ _ _).bnd fun _ q hn=>(Al_total V _).bnd fun x q2 hx=>{ hs with n8:=len_one _ _ hn (by decide),a8:=all_one hs.a8 hx }) trivial
theorem Al_items (V:Env) (cal:ByteArray→Int × Int):∀ (n:Nat) (s:Stt),Sh s→∀ p,Al Sh (V.items cal n s p)
 | 0,s,hs,p=>hs
 | n+1,s,hs,p=>by
  unfold Env.items
  exact Al.ite ((Al_item V cal s hs p).bnd fun s2 q h2=>(Al.any _).bnd fun _ q2 _=>Al_items V cal n s2 h2 q2) hs
theorem Al_statute (V:Env) (cal:ByteArray→Int × Int) (p:Nat):Al Sh (V.statute cal p):=(Al.any _).bnd fun t q _=>Al_items V cal _ _ (Sh.none t) q
theorem prs_sm {cal:ByteArray→Int × Int} {X:Lx} {n:Int} {st:Stt} {er a:Int} (h:PrsIs cal X n st er a):smStt st:=by
 rcases h with ⟨_,h,_⟩ | ⟨_,rb,A,c,hm⟩
 ·rw [h];exact (Sh.none _).sm
 ·have h2:=Al_statute ⟨rb,A,c,toks X.l,n⟩ cal 0
  cases hs:(⟨rb,A,c,toks X.l,n⟩:Env).statute cal 0 with
  | ok v q=>rw [hs] at hm h2;rw [hm.1];exact h2.sm
  | bad e b=>rw [hs] at hm;rw [hm.1];exact (Sh.none _).sm
end Sx
end Go.Proofs.YtcakgennlliejaaGreatDoor
namespace Go.Proofs.YtcakgennlliejaaGreatDoor
open Go.Shelf Go.RowKit Go.Lib
open Go.Proofs.YtcakgennlliejaaGreatDoorW.PrintWords
open Go.Proofs.YtcakgennlliejaaGreatDoor.PSyntaxJoined
set_option linter.unusedVariables false
set_option linter.unusedSimpArgs false
namespace Sx
def kt (t:S48):Int × ByteArray:=(t.f0,t.f1)
def SpB:List S48→List UInt8→Prop
 | [],r=>r=[]
 | t::l,r=>∃ g r2,IsGap g∧r=tokB t++(g++r2)∧SpB l r2
theorem SpB.snoc:∀ {l:List S48} {r:List UInt8} {t:S48} {g:List UInt8},SpB l r→IsGap g→SpB (l++[t]) (r++(tokB t++g))
 | [],r,t,g,h,hg=>by
  have h':r=[]:=h
  subst h'
  exact ⟨g,[],hg,by rw [List.nil_append,List.append_nil],rfl⟩
 | x::l,r,t,g,h,hg=>by
  obtain ⟨g1,r2,h1,rfl,h3⟩:=h
  exact ⟨g1,r2++(tokB t++g),h1,by rw [List.append_assoc,List.append_assoc],h3.snoc hg⟩
end Sx
end Go.Proofs.YtcakgennlliejaaGreatDoor
namespace Go.Proofs.YtcakgennlliejaaGreatDoor
open Go.Shelf Go.RowKit Go.Lib
open Go.Proofs.YtcakgennlliejaaGreatDoorW.PrintWords
open Go.Proofs.YtcakgennlliejaaGreatDoor.PSyntaxJoined
set_option linter.unusedVariables false
set_option linter.unusedSimpArgs false
namespace Sx
theorem tw_app (f:UInt8→Bool) (h:f 10=false) (r:List UInt8):∀ (l:List UInt8),(l++10::r).takeWhile f=l.takeWhile f
 | []=>by rw [List.nil_append,List.takeWhile_cons,h];rfl
 | x::l=>by rw [List.cons_append,List.takeWhile_cons,List.takeWhile_cons,tw_app f h r l]
theorem runN_app {g:Int→Bool} (hg:g 1=false) (l r:List UInt8):runN g (l++10::r)=runN g l:=by
 unfold runN
 rw [tw_app _ (show g (cls (10:UInt8).toNat)=false by rw [show cls (10:UInt8).toNat=1 by decide];exact hg)]
theorem jam_app (l r:List UInt8):jamL (l++10::r)=jamL l:=by
 cases l with
 | nil=>rfl
 | cons c l=>rfl
theorem putS_app {k:Int} {n p:Nat} {l:List UInt8} (r:List UInt8) (hn:n≤l.length):putS k n (l++10::r) p=putS k n l p:=by
 unfold putS
 rw [List.drop_append_of_le_length hn,jam_app,List.take_append_of_le_length hn]
theorem datF_app (r:List UInt8):∀ (n:Nat) (l:List UInt8),datF n (l++10::r)=datF n l
 | 0,_=>rfl
 | n+1,[]=>by
  show ((if n=5∨n=2 then (10:UInt8)==45 else dg8 10)&&datF n r)=false
  split <;> rfl
 | n+1,c::l=>by
  show ((if n=5∨n=2 then c==45 else dg8 c)&&datF n (l++10::r))=((if n=5∨n=2 then c==45 else dg8 c)&&datF n l)
  rw [datF_app r n l]
theorem numN_app (l r:List UInt8):numN (l++10::r)=numN l:=by
 unfold numN
 rw [runN_app rfl,List.drop_append_of_le_length (runN_le _ _)]
 cases l.drop (runN isDig l) with
 | nil=>cases r <;> rfl
 | cons c t =>
  cases t with
  | nil =>
   show (if c==46&&dg8 10 then _ else _)=_
   rw [show dg8 10=false from rfl,Bool.and_false]
   rfl
  | cons d t =>
   show (if c==46&&dg8 d then runN isDig l+1+runN isDig (d::t++10::r) else runN isDig l)=_
   rw [runN_app rfl]
theorem prefix_app (r:List UInt8):∀ (m l:List UInt8),(10:UInt8) ∉ m→m.isPrefixOf (l++10::r)=m.isPrefixOf l
 | [],_,_=>by cases ‹List UInt8› <;> rfl
 | a::m,[],h=>by
  show (a==10&&m.isPrefixOf r)=false
  have h2:(a==10)=false:=by
   rw [beq_eq_false_iff_ne];rintro rfl;exact h List.mem_cons_self
  rw [h2];rfl
 | a::m,b::l,h=>by
  show (a==b&&m.isPrefixOf (l++10::r))=(a==b&&m.isPrefixOf l)
  rw [prefix_app r m l (fun h2=>h (List.mem_cons_of_mem _ h2))]
theorem markL_app (l r:List UInt8) (p:Nat):∀ ms:List (List UInt8),(∀ m∈ms,(10:UInt8) ∉ m)→markL (l++10::r) p ms=markL l p ms
 | [],_=>rfl
 | m::ms,h=>by
  unfold markL
  rw [prefix_app r m l (h m List.mem_cons_self),markL_app l r p ms (fun x hx=>h x (List.mem_cons_of_mem _ hx))]
theorem step_app {c:UInt8} {l:List UInt8} {p:Nat} (r:List UInt8) (h:(Sx.step (c::l) p).ok=true):Sx.step (c::l++10::r) p=Sx.step (c::l) p:=by
 rw [List.cons_append,step_cons,step_cons]
 rw [step_cons] at h
 have hw:∀ (k:Int) (g:Int→Bool),g 1=false→wordS k g (c::(l++10::r)) p=wordS k g (c::l) p:=fun k g hg=>by
  unfold wordS
  rw [show c::(l++10::r)=(c::l)++10::r from rfl,runN_app hg,putS_app r (runN_le _ _)]
 by_cases h1:cls c.toNat=1
 ·rw [if_pos h1,if_pos h1]
 rw [if_neg h1,if_neg h1]
 rw [if_neg h1] at h
 by_cases h2:cls c.toNat=2
 ·rw [if_pos h2,if_pos h2];exact hw _ _ rfl
 rw [if_neg h2,if_neg h2]
 rw [if_neg h2] at h
 by_cases h3:cls c.toNat=3
 ·rw [if_pos h3,if_pos h3];exact hw _ _ rfl
 rw [if_neg h3,if_neg h3]
 rw [if_neg h3] at h
 by_cases h4:cls c.toNat=4
 ·rw [if_pos h4,if_pos h4]
  unfold numberS datedL
  rw [show c::(l++10::r)=(c::l)++10::r from rfl,datF_app,numN_app,putS_app r (numN_le _)]
  by_cases hd:datF 10 (c::l)=true
  ·rw [if_pos hd,if_pos hd,putS_app r (datF_len hd)]
  ·rw [if_neg hd,if_neg hd]
 rw [if_neg h4,if_neg h4]
 rw [if_neg h4] at h
 by_cases h5:(c==34)=true
 ·rw [if_pos h5,if_pos h5]
  rw [if_pos h5] at h
  unfold quoteS at h ⊢
  rw [tw_app _ rfl,List.drop_append_of_le_length (takeWhile_le _ _)]
  cases hd:l.drop (l.takeWhile inQ).length with
  | nil=>rw [hd] at h;cases h
  | cons a t=>rfl
 rw [if_neg h5,if_neg h5]
 by_cases h6:(c==35)=true
 ·rw [if_pos h6,if_pos h6]
  unfold remarkS
  rw [tw_app _ rfl]
 rw [if_neg h6,if_neg h6]
 exact markL_app (c::l) r p marks8 (by decide)
theorem lexL_app (r:List UInt8):∀ (n:Nat) (l:List UInt8) (p:Nat) (acc:List S48),l.length≤n→(lexL l p acc).e=0→lexL (l++10::r) p acc=lexL r (p+l.length+1) (lexL l p acc).l
 | _,[],p,acc,_,_=>lexL_blank (by decide)
 | n+1,c::l,p,acc,hn,he=>by
  have hf:=step_fit (l:=c::l) (p:=p) (List.cons_ne_nil _ _)
  have ha:(Sx.step (c::l) p).ok=true→Sx.step (c::(l++10::r)) p=Sx.step (c::l) p:=step_app (c:=c) (l:=l) (p:=p) r
  have hd:∀ q,p<q→q≤p+(c::l).length→(c::(l++10::r)).drop (q-p)=(c::l).drop (q-p)++10::r∧((c::l).drop (q-p)).length≤n∧q+((c::l).drop (q-p)).length+1=p+(c::l).length+1:=fun q h1 h2=>by
   refine ⟨(List.drop_append_of_le_length (l₁:=c::l) (by omega)),?_,?_⟩
   ·rw [List.length_drop];omega
   ·rw [List.length_drop];omega
  cases hs:Sx.step (c::l) p with
  | go q =>
   rw [hs] at ha hf
   obtain ⟨e1,e2,e3⟩:=hd q hf.1 hf.2
   rw [lexL_go hs hf.1] at he ⊢
   rw [List.cons_append,lexL_go (ha rfl) hf.1,e1,lexL_app r n _ _ _ e2 he,e3]
  | rem b q =>
   rw [hs] at ha hf
   obtain ⟨e1,e2,e3⟩:=hd q hf.1 hf.2.1
   rw [lexL_rem hs hf.1] at he ⊢
   rw [List.cons_append,lexL_rem (ha rfl) hf.1,e1,lexL_app r n _ _ _ e2 he,e3]
  | tok t q =>
   rw [hs] at ha hf
   obtain ⟨e1,e2,e3⟩:=hd q hf.1 hf.2.1
   rw [lexL_tok hs hf.1] at he ⊢
   rw [List.cons_append,lexL_tok (ha rfl) hf.1,e1,lexL_app r n _ _ _ e2 he,e3]
  | jam t q=>rw [lexL_step,hs] at he;cases he
  | no e a=>rw [hs] at hf;rw [lexL_step,hs] at he;exact absurd he hf.1
def StpR (p p':Nat):Stp→Stp→Prop
 | .go q,.go q'=>q-p=q'-p'
 | .rem _ q,.rem _ q'=>q-p=q'-p'
 | .tok t q,.tok t' q'=>kt t=kt t'∧q-p=q'-p'
 | .jam _ _,.jam _ _=>True
 | .no e _,.no e' _=>e=e'
 | _,_=>False
theorem putS_shift (k:Int) (n:Nat) (l:List UInt8) (p p':Nat):StpR p p' (putS k n l p) (putS k n l p'):=by
 unfold putS
 split
 ·trivial
 ·exact ⟨rfl,by omega⟩
theorem markL_shift (l:List UInt8) (p p':Nat):∀ ms:List (List UInt8),StpR p p' (markL l p ms) (markL l p' ms)
 | []=>rfl
 | m::ms=>by
  unfold markL
  split
  ·exact ⟨rfl,by omega⟩
  ·exact markL_shift l p p' ms
theorem step_shift (c:UInt8) (l:List UInt8) (p p':Nat):StpR p p' (Sx.step (c::l) p) (Sx.step (c::l) p'):=by
 rw [step_cons,step_cons]
 have hw:∀ (k:Int) (g:Int→Bool),StpR p p' (wordS k g (c::l) p) (wordS k g (c::l) p'):=fun k g=>by
  unfold wordS
  split
  ·rfl
  ·exact putS_shift _ _ _ _ _
 split
 ·show p+1-p=p'+1-p';omega
 split
 ·exact hw _ _
 split
 ·exact hw _ _
 split
 ·unfold numberS
  split <;> exact putS_shift _ _ _ _ _
 split
 ·unfold quoteS
  split
  ·split
   ·exact ⟨rfl,by omega⟩
   ·rfl
  ·rfl
 split
 ·show p+1+_-p=p'+1+_-p';omega
 ·exact markL_shift _ _ _ _
theorem lexM_shift:∀ (n:Nat) (r:List UInt8) (p p':Nat) (l l':List S48),(lexM n r p' l').e=0→(lexM n r p l).e=0∧∃ x,(lexM n r p' l').l.map kt=l'.map kt++x∧(lexM n r p l).l.map kt=l.map kt++x
 | 0,_,_,_,_,_,_=>⟨rfl,[],(List.append_nil _).symm,(List.append_nil _).symm⟩
 | n+1,[],_,_,_,_,_=>⟨rfl,[],(List.append_nil _).symm,(List.append_nil _).symm⟩
 | n+1,c::r,p,p',l,l',h=>by
  rw [lexM_succ _ _ _ _ (List.cons_ne_nil _ _)] at h ⊢
  rw [lexM_succ _ _ _ _ (List.cons_ne_nil _ _)]
  have hs:=step_shift c r p p'
  cases h1:Sx.step (c::r) p <;> cases h2:Sx.step (c::r) p' <;> rw [h1,h2] at hs <;> first | exact hs.elim | skip
  ·rename_i q q'
   have hs:q-p=q'-p':=hs
   rw [h2] at h
   simp only [nxt] at h ⊢
   rw [hs]
   exact lexM_shift n _ q q' l l' h
  ·rename_i b q b' q'
   have hs:q-p=q'-p':=hs
   rw [h2] at h
   simp only [nxt] at h ⊢
   rw [hs]
   exact lexM_shift n _ q q' l l' h
  ·rename_i t q t' q'
   obtain ⟨hk,hs⟩:kt t=kt t'∧q-p=q'-p':=hs
   rw [h2] at h
   simp only [nxt] at h ⊢
   rw [hs]
   obtain ⟨e0,x,e1,e2⟩:=lexM_shift n _ q q' (l++[t]) (l'++[t']) h
   refine ⟨e0,kt t::x,?_,?_⟩
   ·rw [e1,hk,List.map_append,List.append_assoc];rfl
   ·rw [e2,List.map_append,List.append_assoc];rfl
  ·rw [h2] at h;cases h
  ·rename_i e a e' a'
   rw [h2] at h
   have hs:e=e':=hs
   have h:e'=0:=h
   exact ⟨hs.trans h,[],by show ([]:List S48).map kt=_;exact absurd h (by have hf:=step_fit (l:=c::r) (p:=p') (List.cons_ne_nil _ _);rw [h2] at hf;exact hf.1),by show ([]:List S48).map kt=_;exact absurd h (by have hf:=step_fit (l:=c::r) (p:=p') (List.cons_ne_nil _ _);rw [h2] at hf;exact hf.1)⟩
theorem lex_join {a b o:ByteArray} (ho:o.data.toList=a.data.toList++10::b.data.toList) (ha:(lex a).e=0) (hb:(lex b).e=0) (hz:o.size≤65536):(lex o).e=0∧(lex o).l.map kt=(lex a).l.map kt++(lex b).l.map kt:=by
 have hl:∀ s:ByteArray,s.size≤65536→lex s=lexL s.data.toList 0 []:=fun s h=>by
  unfold lex
  rw [if_neg (by omega)]
  rfl
 have hza:=lex_big a ha
 have hzb:=lex_big b hb
 rw [hl a hza] at ha
 rw [hl b hzb] at hb
 rw [hl o hz,hl a hza,hl b hzb,ho,lexL_app _ _ _ _ _ (Nat.le_refl _) ha]
 obtain ⟨e0,x,e1,e2⟩:=lexM_shift b.data.toList.length b.data.toList (0+a.data.toList.length+1) 0 (lexL a.data.toList 0 []).l [] hb
 have e1:(lexL b.data.toList 0 []).l.map kt=x:=e1
 refine ⟨e0,?_⟩
 rw [e1]
 exact e2
end Sx
end Go.Proofs.YtcakgennlliejaaGreatDoor
namespace Go.Proofs.YtcakgennlliejaaGreatDoor
open Go.Shelf Go.RowKit Go.Lib
open Go.Proofs.YtcakgennlliejaaGreatDoorW.PrintWords
open Go.Proofs.YtcakgennlliejaaGreatDoor.PSyntaxJoined
set_option linter.unusedVariables false
set_option linter.unusedSimpArgs false
namespace Sx
def jn (s t:Stt):Stt:=⟨s.title,s.kinds++t.kinds,s.members++t.members,s.preds++t.preds,s.classes++t.classes,s.sources++t.sources,s.rules++t.rules,s.excepts++t.excepts,s.totals++t.totals⟩
structure Sht (s:Stt):Prop where
 n1:s.kinds.length≤8
 n2:s.members.length≤32
 n3:s.preds.length≤128
 n4:s.classes.length≤32
 n5:s.sources.length≤32
 n6:s.rules.length≤256
 n7:s.excepts.length≤256
 n8:s.totals.length≤32
structure Leq (s t:Stt):Prop where
 n1:s.kinds.length≤t.kinds.length
 n2:s.members.length≤t.members.length
 n3:s.preds.length≤t.preds.length
 n4:s.classes.length≤t.classes.length
 n5:s.sources.length≤t.sources.length
 n6:s.rules.length≤t.rules.length
 n7:s.excepts.length≤t.excepts.length
 n8:s.totals.length≤t.totals.length
theorem Leq.refl (s:Stt):Leq s s:=⟨Nat.le_refl _,Nat.le_refl _,Nat.le_refl _,Nat.le_refl _,Nat.le_refl _,Nat.le_refl _,Nat.le_refl _,Nat.le_refl _⟩
theorem Leq.trans {s t u:Stt} (h:Leq s t) (k:Leq t u):Leq s u:=⟨Nat.le_trans h.n1 k.n1,Nat.le_trans h.n2 k.n2,Nat.le_trans h.n3 k.n3,Nat.le_trans h.n4 k.n4,Nat.le_trans h.n5 k.n5,Nat.le_trans h.n6 k.n6,Nat.le_trans h.n7 k.n7,Nat.le_trans h.n8 k.n8⟩
theorem Leq.sht {s t:Stt} (h:Leq s t) (k:Sht t):Sht s:=⟨Nat.le_trans h.n1 k.n1,Nat.le_trans h.n2 k.n2,Nat.le_trans h.n3 k.n3,Nat.le_trans h.n4 k.n4,Nat.le_trans h.n5 k.n5,Nat.le_trans h.n6 k.n6,Nat.le_trans h.n7 k.n7,Nat.le_trans h.n8 k.n8⟩
def Jr (s t:Stt):Res Stt→Res Stt→Prop
 | .ok u q,r'=>Leq t u∧(Sht u→r'=.ok (jn s u) q)
 | .bad _ _,_=>True
section
variable {s t:Stt} {α:Type}
theorem Jr.bnd (r:Res α) {k k':α→Nat→Res Stt} (h:∀ v q,Jr s t (k v q) (k' v q)):Jr s t (r.bnd k) (r.bnd k'):=by
 cases r with
 | ok v q=>exact h v q
 | bad e a=>trivial
theorem Jr.cond {b:Bool} {x x' y y':Res Stt} (hx:Jr s t x x') (hy:Jr s t y y'):Jr s t (if b then x else y) (if b then x' else y'):=by cases b;exact hy;exact hx
theorem Jr.first {r r':Res α} {k k':α→Nat→Res Stt} (hl:∀ v q u q2,r=.ok v q→k v q=.ok u q2→Sht u→r'=.ok v q) (h:∀ v q,r=.ok v q→Jr s t (k v q) (k' v q)):Jr s t (r.bnd k) (r'.bnd k'):=by
 cases r with
 | bad e a=>trivial
 | ok v q =>
  have h1:=h v q rfl
  show Jr s t (k v q) _
  cases hk:k v q with
  | bad e a=>trivial
  | ok u q2 =>
   rw [hk] at h1
   refine ⟨h1.1,fun hu=>?_⟩
   rw [hl v q u q2 rfl hk hu]
   exact h1.2 hu
end
section
variable (V:Env)
theorem room_ok_of {n m most:Int} {p q:Nat} (h:V.room n most p=.ok () q) (hm:m<most):V.room m most p=.ok () q:=by
 unfold Env.room at h ⊢
 rw [if_neg (by omega)]
 split at h
 ·cases h
 ·exact h
theorem listM_of {α:Type} {g:Nat→Res α}:∀ (m:Nat) (out:List α) (p:Nat) (l:List α) (q:Nat),V.listM g m out p=.ok l q→out.length<l.length∧∀ m',l.length≤out.length+m'→V.listM g m' out p=.ok l q
 | 0,out,p,l,q,h=>by cases h
 | m+1,out,p,l,q,h=>by
  unfold Env.listM at h
  cases hg:g p with
  | bad e a=>rw [hg] at h;cases h
  | ok v q1 =>
   rw [hg] at h
   have h:(if V.isT 6 ⟨#[44]⟩ q1 then V.listM g m (out++[v]) (q1+1) else .ok (out++[v]) q1)=.ok l q:=h
   by_cases hc:V.isT 6 ⟨#[44]⟩ q1=true
   ·rw [if_pos hc] at h
    obtain ⟨h1,h2⟩:=listM_of m _ _ l q h
    rw [List.length_append,List.length_singleton] at h1 h2
    refine ⟨by omega,fun m' hm=>?_⟩
    cases m' with
    | zero=>omega
    | succ m' =>
     unfold Env.listM
     rw [hg]
     show (if V.isT 6 ⟨#[44]⟩ q1 then V.listM g m' (out++[v]) (q1+1) else .ok (out++[v]) q1)=.ok l q
     rw [if_pos hc]
     exact h2 m' (by omega)
   ·rw [if_neg hc] at h
    injection h with h1 h2
    subst h1
    rw [List.length_append,List.length_singleton]
    refine ⟨by omega,fun m' hm=>?_⟩
    cases m' with
    | zero=>omega
    | succ m' =>
     unfold Env.listM
     rw [hg]
     show (if V.isT 6 ⟨#[44]⟩ q1 then V.listM g m' (out++[v]) (q1+1) else .ok (out++[v]) q1)=.ok _ q
     rw [if_neg hc,h2]
theorem pred_of {n m:Nat} {sort:Int} {p q:Nat} {x:S85} (h:V.pred n sort p=.ok x q) (hm:m<256):V.pred m sort p=.ok x q:=by
 unfold Env.pred at h ⊢
 cases hr:V.room n 256 p with
 | bad e a=>rw [hr] at h;cases h
 | ok u q0 =>
  rw [hr] at h
  rw [room_ok_of V hr (show (m:Int)<256 by omega)]
  exact h
theorem Jr_item (cal:ByteArray→Int × Int) (s t:Stt) (hs:Sht s) (p:Nat):Jr s t (V.item cal t p) (V.item cal (jn s t) p):=by
 have hl:∀ {α:Type} (a b:List α) (x:α),(a++b)++[x]=a++(b++[x]):=fun a b x=>List.append_assoc _ _ _
 have ok:∀ (u u':Stt) (q:Nat),Leq t u→u'=jn s u→Jr s t (.ok u q) (.ok u' q):=fun u u' q h e=>⟨h,fun _=>by rw [e]⟩
 have hR:=Leq.refl t
 have one:∀ {α:Type} (l:List α) (x:α),l.length≤(l++[x]).length:=fun l x=>by rw [List.length_append];omega
 unfold Env.item
 refine Jr.cond ?_ trivial
 refine Jr.cond (Jr.first (fun v q u q2 h1 h2 h3=>?_) fun _ q _=>Jr.bnd _ fun n q2=>ok _ _ _ { hR with n1:=one _ _ } (by unfold jn;rw [hl])) ?_
 ·refine room_ok_of V h1 ?_
  cases hn:V.name q with
  | bad e a=>rw [hn] at h2;cases h2
  | ok n q9 =>
   rw [hn] at h2
   injection h2 with h2
   have h4:=h3.n1
   rw [← h2] at h4
   have h4:(t.kinds++[n]).length≤8:=h4
   have h5:=hs.n1
   show ((s.kinds++t.kinds).length:Int)<16
   rw [List.length_append] at h4 ⊢
   rw [List.length_singleton] at h4
   omega
 refine Jr.cond (Jr.first (fun v q u q2 h1 h2 h3=>?_) fun l q _=>Jr.bnd _ fun _ q2=>Jr.bnd _ fun k q3=>ok _ _ _ { hR with n2:=by rw [List.length_append];omega } (by unfold jn;rw [List.append_assoc])) ?_
 ·refine (listM_of V _ _ _ _ _ h1).2 _ ?_
  have h4:t.members.length+v.length≤32:=by
   cases hn:V.must 6 ⟨#[58]⟩ q with
   | bad e a=>rw [hn] at h2;cases h2
   | ok n q9 =>
    rw [hn] at h2
    have h2:(V.name q9).bnd (fun k q3=>Res.ok { t with members:=t.members++v.map fun n=>⟨n,k⟩ } q3)=.ok u q2:=h2
    cases hk:V.name q9 with
    | bad e a=>rw [hk] at h2;cases h2
    | ok k q8 =>
     rw [hk] at h2
     injection h2 with h2
     have h4:=h3.n2
     rw [← h2] at h4
     have h4:(t.members++v.map fun n=>(⟨n,k⟩:S54)).length≤32:=h4
     rw [List.length_append,List.length_map] at h4
     exact h4
  have h5:=hs.n2
  show v.length≤([]:List ByteArray).length+((64:Int)-((s.members++t.members).length:Int)).toNat
  rw [List.length_append,List.length_nil]
  omega
 have hp:∀ sort:Int,Jr s t ((V.pred t.preds.length sort (p+1)).bnd fun x q=>.ok { t with preds:=t.preds++[x] } q) ((V.pred (jn s t).preds.length sort (p+1)).bnd fun x q=>.ok { jn s t with preds:=(jn s t).preds++[x] } q):=fun sort=>by
  refine Jr.first (fun v q u q2 h1 h2 h3=>?_) fun x q _=>ok _ _ _ { hR with n3:=one _ _ } (by unfold jn;rw [hl])
  refine pred_of V h1 ?_
  injection h2 with h2
  have h4:=h3.n3
  rw [← h2] at h4
  have h4:(t.preds++[v]).length≤128:=h4
  have h5:=hs.n3
  show (s.preds++t.preds).length<256
  rw [List.length_append] at h4 ⊢
  rw [List.length_singleton] at h4
  omega
 refine Jr.cond (hp 1) ?_
 refine Jr.cond (hp 2) ?_
 refine Jr.cond (hp 3) ?_
 refine Jr.cond (Jr.first (fun v q u q2 h1 h2 h3=>?_) fun _ q _=>Jr.bnd _ fun f q2=>Jr.bnd _ fun _ q3=>Jr.bnd _ fun l q4=>ok _ _ _ { hR with n4:=one _ _ } (by unfold jn;rw [hl])) ?_
 ·refine room_ok_of V h1 ?_
  have h4:Al (fun u:Stt=>u.classes.length=t.classes.length+1) ((V.name q).bnd fun f q2=>(V.must 6 ⟨#[44]⟩ q2).bnd fun _ q3=>(V.list V.name 1 16 q3).bnd fun l q4=>.ok { t with classes:=t.classes++[f::l] } q4) :=
   (Al.any _).bnd fun _ _ _=>(Al.any _).bnd fun _ _ _=>(Al.any _).bnd fun _ _ _=>by show (t.classes++[_]).length=_;rw [List.length_append];rfl
  rw [h2] at h4
  have h4:u.classes.length=t.classes.length+1:=h4
  have h5:=hs.n4
  have h6:=h3.n4
  show ((s.classes++t.classes).length:Int)<64
  rw [List.length_append]
  omega
 refine Jr.cond (Jr.first (fun v q u q2 h1 h2 h3=>?_) fun _ q _=>Jr.bnd _ fun f q2=>Jr.bnd _ fun _ q3=>Jr.bnd _ fun l q4=>ok _ _ _ { hR with n5:=one _ _ } (by unfold jn;rw [hl])) ?_
 ·refine room_ok_of V h1 ?_
  have h4:Al (fun u:Stt=>u.sources.length=t.sources.length+1) ((V.name q).bnd fun n q2=>(V.must 1 ⟨#[114,97,110,107]⟩ q2).bnd fun _ q3=>(V.whole 0 1000 q3).bnd fun r q4=>.ok { t with sources:=t.sources++[⟨n,r⟩] } q4) :=
   (Al.any _).bnd fun _ _ _=>(Al.any _).bnd fun _ _ _=>(Al.any _).bnd fun _ _ _=>by show (t.sources++[_]).length=_;rw [List.length_append];rfl
  rw [h2] at h4
  have h4:u.sources.length=t.sources.length+1:=h4
  have h5:=hs.n5
  have h6:=h3.n5
  show ((s.sources++t.sources).length:Int)<64
  rw [List.length_append]
  omega
 refine Jr.cond (Jr.first (fun v q u q2 h1 h2 h3=>?_) fun _ q _=>Jr.bnd _ fun f q2=>ok _ _ _ { hR with n6:=one _ _ } (by unfold jn;rw [hl])) ?_
 ·refine room_ok_of V h1 ?_
  have h4:Al (fun u:Stt=>u.rules.length=t.rules.length+1) ((V.rule cal q).bnd fun x q2=>.ok { t with rules:=t.rules++[x] } q2) :=
   (Al.any _).bnd fun _ _ _=>by show (t.rules++[_]).length=_;rw [List.length_append];rfl
  rw [h2] at h4
  have h4:u.rules.length=t.rules.length+1:=h4
  have h5:=hs.n6
  have h6:=h3.n6
  show ((s.rules++t.rules).length:Int)<512
  rw [List.length_append]
  omega
 refine Jr.cond (Jr.first (fun v q u q2 h1 h2 h3=>?_) fun _ q _=>Jr.bnd _ fun f q2=>Jr.bnd _ fun _ q3=>Jr.bnd _ fun l q4=>ok _ _ _ { hR with n7:=one _ _ } (by unfold jn;rw [hl])) ?_
 ·refine room_ok_of V h1 ?_
  have h4:Al (fun u:Stt=>u.excepts.length=t.excepts.length+1) ((V.name q).bnd fun a q2=>(V.must 1 ⟨#[116,111]⟩ q2).bnd fun _ q3=>(V.name q3).bnd fun b q4=>.ok { t with excepts:=t.excepts++[⟨a,b⟩] } q4) :=
   (Al.any _).bnd fun _ _ _=>(Al.any _).bnd fun _ _ _=>(Al.any _).bnd fun _ _ _=>by show (t.excepts++[_]).length=_;rw [List.length_append];rfl
  rw [h2] at h4
  have h4:u.excepts.length=t.excepts.length+1:=h4
  have h5:=hs.n7
  have h6:=h3.n7
  show ((s.excepts++t.excepts).length:Int)<512
  rw [List.length_append]
  omega
 refine Jr.cond (Jr.first (fun v q u q2 h1 h2 h3=>?_) fun _ q _=>Jr.bnd _ fun f q2=>ok _ _ _ { hR with n8:=one _ _ } (by unfold jn;rw [hl])) trivial
 ·refine room_ok_of V h1 ?_
  have h4:Al (fun u:Stt=>u.totals.length=t.totals.length+1) ((V.total q).bnd fun x q2=>.ok { t with totals:=t.totals++[x] } q2) :=
   (Al.any _).bnd fun _ _ _=>by show (t.totals++[_]).length=_;rw [List.length_append];rfl
  rw [h2] at h4
  have h4:u.totals.length=t.totals.length+1:=h4
  have h5:=hs.n8
  have h6:=h3.n8
  show ((s.totals++t.totals).length:Int)<64
  rw [List.length_append]
  omega
end
theorem must_ok_of {V:Env} {k:Int} {s:ByteArray} {p q:Nat} (h:V.must k s p=.ok () q):V.isT k s p=true∧q=p+1:=by
 unfold Env.must Env.stop at h
 split at h
 ·injection h with _ h2;exact ⟨by assumption,h2.symm⟩
 ·cases h
section
variable {V W:Env}
theorem items_first (cal:ByteArray→Int × Int) (hA:∀ i,i<V.T.length→(V.next i).k=(W.next i).k∧(V.next i).t=(W.next i).t) (hL:V.T.length≤W.T.length) :
  ∀ (m:Nat) (s:Stt) (p:Nat) (s':Stt) (q:Nat),p≤V.T.length→V.T.length≤p+m→V.items cal m s p=.ok s' q→∃ k,k+p≤V.T.length∧∀ M,W.items cal (M+k) s p=W.items cal M s' V.T.length
 | 0,s,p,s',q,hp,hm,h=>by
  injection h with h1 h2
  subst h1
  obtain rfl:p=V.T.length:=by omega
  exact ⟨0,by omega,fun M=>rfl⟩
 | m+1,s,p,s',q,hp,hm,h=>by
  unfold Env.items at h
  by_cases hlt:p<V.T.length
  ·rw [if_pos hlt] at h
   have hr:=Rl_item (V:=V) (V':=W) (d:=0) cal s p
   cases hi:V.item cal s p with
   | bad e a=>rw [hi] at h;cases h
   | ok s2 q1 =>
    rw [hi] at h hr
    have h:(V.must 6 ⟨#[46]⟩ q1).bnd (fun _ q2=>V.items cal m s2 q2)=.ok s' q:=h
    cases hmu:V.must 6 ⟨#[46]⟩ q1 with
    | bad e a=>rw [hmu] at h;cases h
    | ok u q2 =>
     rw [hmu] at h
     have h:V.items cal m s2 q2=.ok s' q:=h
     obtain ⟨ht,rfl⟩:=must_ok_of hmu
     have hq:q1<V.T.length:=isT_lt ht (by decide)
     have hag:Agree V W 0 q1:=fun i hi=>⟨(hA i (by omega)).1,(hA i (by omega)).2,by rw [decide_eq_true (show i<V.T.length by omega),decide_eq_true (show i+0<W.T.length by omega)]⟩
     have h3:=hr.2 hag
     obtain ⟨k,hk,hM⟩:=items_first cal hA hL m s2 (q1+1) s' q (by omega) (by have:=hr.1;omega) h
     refine ⟨k+1,by have:=hr.1;omega,fun M=>?_⟩
     show W.items cal (M+k+1) s p=_
     rw [Env.items,if_pos (show p<W.T.length by omega)]
     have h3:W.item cal s p=.ok s2 q1:=h3
     rw [h3]
     show (W.must 6 ⟨#[46]⟩ q1).bnd (fun _ q2=>W.items cal (M+k) s2 q2)=_
     have h4:W.isT 6 ⟨#[46]⟩ q1=true:=by rw [← ht];exact (hag.is (Nat.le_refl _) 6 ⟨#[46]⟩).symm
     unfold Env.must
     rw [h4]
     exact hM M
  ·rw [if_neg hlt] at h
   injection h with h1 h2
   subst h1
   obtain rfl:p=V.T.length:=by omega
   exact ⟨0,by omega,fun M=>rfl⟩
theorem items_second (cal:ByteArray→Int × Int) (d:Nat) (hA:∀ q,Agree V W d q) (s:Stt) (hs:Sht s) :
  ∀ (m:Nat) (t:Stt) (p:Nat) (t':Stt) (q M:Nat),V.T.length≤p+m→m≤M→V.items cal m t p=.ok t' q→Leq t t'∧(Sht t'→∃ q',W.items cal M (jn s t) (p+d)=.ok (jn s t') q')
 | 0,t,p,t',q,M,hm,hM,h=>by
  injection h with h1 h2
  subst h1
  refine ⟨Leq.refl _,fun _=>⟨p+d,?_⟩⟩
  have hl:¬ p+d<W.T.length:=fun h=>absurd (((hA p).l (Nat.le_refl _)).2 h) (by omega)
  cases M with
  | zero=>rfl
  | succ M=>unfold Env.items;rw [if_neg hl]
 | m+1,t,p,t',q,M,hm,hM,h=>by
  unfold Env.items at h
  by_cases hlt:p<V.T.length
  ·rw [if_pos hlt] at h
   have hr:=Rl_item (V:=V) (V':=W) (d:=d) cal t p
   have hj:=Jr_item W cal s t hs (p+d)
   cases hi:V.item cal t p with
   | bad e a=>rw [hi] at h;cases h
   | ok t2 q1 =>
    rw [hi] at h hr
    have h:(V.must 6 ⟨#[46]⟩ q1).bnd (fun _ q2=>V.items cal m t2 q2)=.ok t' q:=h
    cases hmu:V.must 6 ⟨#[46]⟩ q1 with
    | bad e a=>rw [hmu] at h;cases h
    | ok u q2 =>
     rw [hmu] at h
     have h:V.items cal m t2 q2=.ok t' q:=h
     obtain ⟨ht,rfl⟩:=must_ok_of hmu
     cases M with
     | zero=>omega
     | succ M =>
      obtain ⟨g1,g2⟩:=items_second cal d hA s hs m t2 (q1+1) t' q M (by have:=hr.1;omega) (by omega) h
      rw [hr.2 (hA q1)] at hj
      refine ⟨hj.1.trans g1,fun hu=>?_⟩
      obtain ⟨q',hq'⟩:=g2 hu
      refine ⟨q',?_⟩
      rw [Env.items,if_pos (((hA p).l (Nat.le_refl _)).1 hlt),hj.2 (g1.sht hu)]
      show (W.must 6 ⟨#[46]⟩ (q1+d)).bnd (fun _ q2=>W.items cal M (jn s t2) q2)=_
      have h4:W.isT 6 ⟨#[46]⟩ (q1+d)=true:=by rw [← ht];exact ((hA q1).is (Nat.le_refl _) 6 ⟨#[46]⟩).symm
      unfold Env.must
      rw [h4]
      show W.items cal M (jn s t2) (q1+d+1)=_
      rw [show q1+d+1=q1+1+d by omega]
      exact hq'
  ·rw [if_neg hlt] at h
   injection h with h1 h2
   subst h1
   refine ⟨Leq.refl _,fun _=>⟨p+d,?_⟩⟩
   have hl:¬ p+d<W.T.length:=fun h=>hlt (((hA p).l (Nat.le_refl _)).2 h)
   cases M with
   | zero=>rfl
   | succ M=>unfold Env.items;rw [if_neg hl]
end
end Sx
end Go.Proofs.YtcakgennlliejaaGreatDoor
namespace Go.Proofs.YtcakgennlliejaaGreatDoor
open Go.Shelf Go.RowKit Go.Lib
open Go.Proofs.YtcakgennlliejaaGreatDoorW.PrintWords
open Go.Proofs.YtcakgennlliejaaGreatDoor.PSyntaxJoined
set_option linter.unusedVariables false
set_option linter.unusedSimpArgs false
namespace Sx
theorem getD_kt (l:List S48) (i:Nat):kt (l.getD i z48)=(l.map kt).getD i (kt z48):=by
 rw [List.getD_eq_getElem?_getD,List.getD_eq_getElem?_getD,List.getElem?_map]
 cases l[i]? <;> rfl
theorem next_kt {V:Env} {l:List S48} (h:V.T=toks l) (i:Nat):((V.next i).k,(V.next i).t)=(l.map kt).getD i (kt z48):=by
 rw [← getD_kt]
 unfold Env.next
 rw [h,toks_next]
 rfl
theorem getD_l {α:Type} {l r:List α} {z:α} {i:Nat} (h:i<l.length):(l++r).getD i z=l.getD i z:=by
 rw [List.getD_eq_getElem?_getD,List.getD_eq_getElem?_getD,List.getElem?_append_left h]
theorem getD_r {α:Type} {l r:List α} {z:α} {i:Nat} (h:l.length≤i):(l++r).getD i z=r.getD (i-l.length) z:=by
 rw [List.getD_eq_getElem?_getD,List.getD_eq_getElem?_getD,List.getElem?_append_right h]
theorem toks_len (l:List S48):(toks l).length=(l.map kt).length:=by unfold toks;rw [List.length_map,List.length_map]
theorem statute_bad {V:Env} {cal:ByteArray→Int × Int} {e a:Int} (h:V.statute cal 0=.bad e a):e≠0:=by
 have hr:Rl V V 0 0 (V.statute cal 0) (V.statute cal 0):=by
  unfold Env.statute
  exact (Rl_title (V:=V) (V':=V) (d:=0) 0).bnd (fun t q _=>Rl_items cal _ _ q)
 rw [h] at hr
 exact hr.1
theorem prs_good {cal:ByteArray→Int × Int} {X:Lx} {n:Int} {st:Stt} {a:Int} (h:PrsIs cal X n st 0 a):X.e=0∧∃ V:Env,V.T=toks X.l∧∃ q,V.statute cal 0=.ok st q:=by
 rcases h with ⟨h1,_,h2,_⟩ | ⟨h1,rb,A,c,h2⟩
 ·exact absurd h2.symm h1
 ·refine ⟨h1,⟨rb,A,c,toks X.l,n⟩,rfl,?_⟩
  cases hs:(⟨rb,A,c,toks X.l,n⟩:Env).statute cal 0 with
  | ok v q=>rw [hs] at h2;exact ⟨q,by rw [h2.1]⟩
  | bad e b=>rw [hs] at h2;exact absurd h2.2.1.symm (statute_bad hs)
def sword:ByteArray:=⟨#[115,116,97,116,117,116,101]⟩
theorem prs_join {cal:ByteArray→Int × Int} {A B O:Lx} {n m k:Int} {s t x:Stt} {er a a1 a2:Int} (hA:PrsIs cal A n s 0 a1) (hB:PrsIs cal B m t 0 a2) (hO:PrsIs cal O k x er a) (eO:O.e=0) (hk:O.l.map kt=A.l.map kt++B.l.map kt)
  (hs:Sht s) (ht:Sht t) (hw:¬ (0<B.l.length∧(B.l.getD 0 z48).f0=1∧(B.l.getD 0 z48).f1=sword)):er=0∧x=jn s t:=by
 obtain ⟨eA,U,hU,qs,hus⟩:=prs_good hA
 obtain ⟨eB,V,hV,qt,hvs⟩:=prs_good hB
 rcases hO with ⟨g,_⟩ | ⟨_,rb,Ad,c,hm⟩
 ·exact absurd eO g
 obtain ⟨W,hW⟩:∃ W:Env,(⟨rb,Ad,c,toks O.l,k⟩:Env)=W:=⟨_,rfl⟩
 have hWT:W.T=toks O.l:=by rw [← hW]
 rw [hW] at hm
 have lU:U.T.length=(A.l.map kt).length:=by rw [hU,toks_len]
 have lV:V.T.length=(B.l.map kt).length:=by rw [hV,toks_len]
 have lW:W.T.length=U.T.length+V.T.length:=by rw [hWT,toks_len,hk,List.length_append,lU,lV]
 have hUA:∀ i,i<U.T.length→(U.next i).k=(W.next i).k∧(U.next i).t=(W.next i).t:=fun i hi=>by
  have h1:=next_kt hU i
  have h2:=next_kt hWT i
  rw [hk,getD_l (by omega),← h1] at h2
  injection h2 with h3 h4
  exact ⟨h3.symm,h4.symm⟩
 have hVA:∀ i,(V.next i).k=(W.next (i+U.T.length)).k∧(V.next i).t=(W.next (i+U.T.length)).t:=fun i=>by
  have h1:=next_kt hV i
  have h2:=next_kt hWT (i+U.T.length)
  rw [hk,getD_r (by omega),← lU,Nat.add_sub_cancel,← h1] at h2
  injection h2 with h3 h4
  exact ⟨h3.symm,h4.symm⟩
 have hag:∀ q,Agree V W U.T.length q:=fun q i _=>⟨(hVA i).1,(hVA i).2,by
  by_cases h:i<V.T.length
  ·rw [decide_eq_true h,decide_eq_true (by omega)]
  ·rw [decide_eq_false h,decide_eq_false (by omega)]⟩
 have hword:V.isT 1 sword 0=false:=by
  cases h:V.isT 1 sword 0 with
  | false=>rfl
  | true =>
   have h0:=isT_lt h (by decide)
   exfalso
   refine hw ⟨by rw [lV,List.length_map] at h0;exact h0,?_⟩
   unfold Env.isT at h
   rw [Bool.and_eq_true] at h
   have h1:=next_kt hV 0
   rw [← getD_kt] at h1
   injection h1 with h2 h3
   refine ⟨h2.symm.trans (by simpa using h.1),?_⟩
   have h4:(V.next 0).t.toList=sword.toList:=by simpa using h.2
   rw [← h3]
   rw [Lib.toList_data,Lib.toList_data] at h4
   have h5:=Array.toList_inj.1 h4
   cases hx:(V.next 0).t
   rw [hx] at h5
   exact congrArg ByteArray.mk h5
 have htitle:∀ tt q,U.title 0=.ok tt q→W.title 0=.ok tt q∧q≤U.T.length:=fun tt q h=>by
  unfold Env.title at h ⊢
  by_cases hc:U.isT 1 sword 0=true
  ·have h0:=isT_lt hc (by decide)
   rw [show (⟨#[115,116,97,116,117,116,101]⟩:ByteArray)=sword from rfl,if_pos hc] at h
   by_cases h5:((U.next (0+1)).k==5)=true
   ·rw [if_pos h5] at h
    cases hmu:U.must 6 ⟨#[46]⟩ (0+2) with
    | bad e b=>rw [hmu] at h;cases h
    | ok u q2 =>
     rw [hmu] at h
     obtain ⟨h6,rfl⟩:=must_ok_of hmu
     injection h with h7 h8
     subst h8
     have h9:=isT_lt h6 (by decide)
     have e0:=hUA 0 h0
     have e1:=hUA 1 (by omega)
     have e2:=hUA 2 h9
     have f0:W.isT 1 sword 0=true:=by rw [← hc];unfold Env.isT;rw [e0.1,e0.2]
     have f2:W.isT 6 ⟨#[46]⟩ (0+2)=true:=by rw [← h6];unfold Env.isT;rw [e2.1,e2.2]
     refine ⟨?_,h9⟩
     rw [show (⟨#[115,116,97,116,117,116,101]⟩:ByteArray)=sword from rfl,if_pos f0,if_pos (by rw [← e1.1];exact h5)]
     unfold Env.must
     rw [if_pos f2]
     show Res.ok (W.next (0+1)).t (0+2+1)=_
     rw [← h7]
     exact congrArg (fun z=>Res.ok z _) e1.2.symm
   ·rw [if_neg h5] at h;cases h
  ·rw [show (⟨#[115,116,97,116,117,116,101]⟩:ByteArray)=sword from rfl,if_neg hc] at h
   injection h with h1 h2
   subst h2
   refine ⟨?_,Nat.zero_le _⟩
   have hc2:¬ W.isT 1 sword 0=true:=by
    by_cases h0:0<U.T.length
    ·have e0:=hUA 0 h0
     intro h;apply hc;rw [← h];unfold Env.isT;rw [e0.1,e0.2]
    ·have e0:=hVA 0
     rw [show 0+U.T.length=0 by omega] at e0
     intro h;rw [← Bool.not_eq_false] at h;apply h;rw [← hword];unfold Env.isT;rw [e0.1,e0.2]
   rw [show (⟨#[115,116,97,116,117,116,101]⟩:ByteArray)=sword from rfl,if_neg hc2,h1]
 have hus2:=hus
 unfold Env.statute at hus2
 cases hti:U.title 0 with
 | bad e b=>rw [hti] at hus2;cases hus2
 | ok tt q0 =>
  rw [hti] at hus2
  have hus2:U.items cal U.T.length ⟨tt,[],[],[],[],[],[],[],[]⟩ q0=.ok s qs:=hus2
  obtain ⟨g1,g2⟩:=htitle tt q0 hti
  obtain ⟨i,hi,hM⟩:=items_first (V:=U) (W:=W) cal hUA (by omega) U.T.length _ q0 s qs g2 (by omega) hus2
  have hvs2:=hvs
  unfold Env.statute Env.title at hvs2
  rw [show (⟨#[115,116,97,116,117,116,101]⟩:ByteArray)=sword from rfl,hword] at hvs2
  have hvs2:V.items cal V.T.length ⟨⟨#[]⟩,[],[],[],[],[],[],[],[]⟩ 0=.ok t qt:=hvs2
  obtain ⟨_,g3⟩:=items_second (V:=V) (W:=W) cal U.T.length hag s hs V.T.length _ 0 t qt (W.T.length-i) (by omega) (by omega) hvs2
  obtain ⟨q',g4⟩:=g3 ht
  have hj:jn s ⟨⟨#[]⟩,[],[],[],[],[],[],[],[]⟩=s:=by cases s;unfold jn;simp
  rw [hj,Nat.zero_add,← hM] at g4
  have hst:W.statute cal 0=.ok (jn s t) q':=by
   unfold Env.statute
   rw [g1]
   show W.items cal W.T.length ⟨tt,[],[],[],[],[],[],[],[]⟩ q0=_
   rw [show W.T.length=W.T.length-i+i by omega]
   exact g4
  rw [hst] at hm
  exact ⟨hm.2.1,hm.1⟩
end Sx
open Sx
def Sx.shtB (x:Stt):Bool:=decide (x.kinds.length≤8)&&decide (x.members.length≤32)&&decide (x.preds.length≤128)&&decide (x.classes.length≤32)&&decide (x.sources.length≤32)&&decide (x.rules.length≤256)&&decide (x.excepts.length≤256)&&decide (x.totals.length≤32)
theorem Sx.shtB_sht {x:Stt} (h:shtB x=true):Sht x:=by
 unfold shtB at h
 simp only [Bool.and_eq_true,decide_eq_true_eq] at h
 obtain ⟨⟨⟨⟨⟨⟨⟨a,b⟩,c⟩,d⟩,e⟩,f⟩,g⟩,h⟩:=h
 exact ⟨a,b,c,d,e,f,g,h⟩
theorem short_calls (x:Stt) (A1:Option Addr) (c1:Nat) (A2:Option Addr) (c2:Nat) (A3:Option Addr) (c3:Nat) (A4:Option Addr) (c4:Nat) (A5:Option Addr) (c5:Nat) (A6:Option Addr) (c6:Nat) (A7:Option Addr) (c7:Nat) (A8:Option Addr) (c8:Nat) (w:World) (hs:smStt x) :
  Calls Tryz.prog 13 #[.agg #[.string x.title,.slice A1 x.kinds.length c1,.slice A2 x.members.length c2,.slice A3 x.preds.length c3,.slice A4 x.classes.length c4,.slice A5 x.sources.length c5,.slice A6 x.rules.length c6,.slice A7 x.excepts.length c7,.slice A8 x.totals.length c8]] w fun e w'=>e=.returned (.bool (shtB x))∧Below w.heap.size w w':=by
 obtain ⟨s1,s2,⟨s3,_⟩,⟨s4,_⟩,s5,⟨s6,_⟩,s7,⟨s8,_⟩⟩:=hs
 obtain ⟨z1,z2,z3,z4,z5,z6,z7,z8⟩:x.kinds.length≤4294967296∧x.members.length≤4294967296∧x.preds.length≤4294967296∧x.classes.length≤4294967296∧x.sources.length≤4294967296∧x.rules.length≤4294967296∧x.excepts.length≤4294967296∧x.totals.length≤4294967296:=⟨s1,s2,s3,s4,s5,s6,s7,s8⟩
 have HS:=Lib.hid (show shtB x=(decide (x.kinds.length≤8)&&decide (x.members.length≤32)&&decide (x.preds.length≤128)&&decide (x.classes.length≤32)&&decide (x.sources.length≤32)&&decide (x.rules.length≤256)&&decide (x.excepts.length≤256)&&decide (x.totals.length≤32)) from rfl)
 generalize x.kinds.length=n1 at *
 generalize x.members.length=n2 at *
 generalize x.preds.length=n3 at *
 generalize x.classes.length=n4 at *
 generalize x.sources.length=n5 at *
 generalize x.rules.length=n6 at *
 generalize x.excepts.length=n7 at *
 generalize x.totals.length=n8 at *
 clear s1 s2 s3 s4 s5 s6 s7 s8
 obtain ⟨X,hX⟩:∃ X,w.alloc (.cells #[.string x.title,.slice A1 n1 c1,.slice A2 n2 c2,.slice A3 n3 c3,.slice A4 n4 c4,.slice A5 n5 c5,.slice A6 n6 c6,.slice A7 n7 c7,.slice A8 n8 c8] 32)=X:=⟨_,rfl⟩
 obtain ⟨b,hb⟩:∃ b,w.heap.size=b:=⟨_,rfl⟩
 have HB:=Lib.hid (show Below w.heap.size w X by rw [← hX];exact (Below.refl _ w).alloc (Nat.le_refl _) _)
 have hbl:X.heap[b]?=some (.cells #[.string x.title,.slice A1 n1 c1,.slice A2 n2 c2,.slice A3 n3 c3,.slice A4 n4 c4,.slice A5 n5 c5,.slice A6 n6 c6,.slice A7 n7 c7,.slice A8 n8 c8] 32 (0,0)):=by rw [← hX,← hb];exact heap_alloc_new w _
 have y1:=blk_cell (v:=.slice A1 n1 c1) hbl 1 rfl
 have y2:=blk_cell (v:=.slice A2 n2 c2) hbl 2 rfl
 have y3:=blk_cell (v:=.slice A3 n3 c3) hbl 3 rfl
 have y4:=blk_cell (v:=.slice A4 n4 c4) hbl 4 rfl
 have y5:=blk_cell (v:=.slice A5 n5 c5) hbl 5 rfl
 have y6:=blk_cell (v:=.slice A6 n6 c6) hbl 6 rfl
 have y7:=blk_cell (v:=.slice A7 n7 c7) hbl 7 rfl
 have y8:=blk_cell (v:=.slice A8 n8 c8) hbl 8 rfl
 have HN:=Lib.hid hb
 clear hbl hb
 go_enter Tryz.func13,Tryz.ntmps13
 go_upto_region 1 with fail
 try rw [hX]
 try rw [HN.out]
 clear hX
 by_cases h1:n1≤8
 case neg =>
  have q1:decide ((n1:Int)≤8)=false:=decide_eq_false (by omega)
  have H1:=Lib.hid h1
  clear h1
  go_wp2_with fail
  go_ret
  exact ⟨by rw [HS.out,decide_eq_false H1.out];simp,HB.out⟩
 have q1:decide ((n1:Int)≤8)=true:=decide_eq_true (by omega)
 have H1:=Lib.hid h1
 clear h1
 by_cases h2:n2≤32
 case neg =>
  have q2:decide ((n2:Int)≤32)=false:=decide_eq_false (by omega)
  have H2:=Lib.hid h2
  clear h2
  go_wp2_with fail
  go_ret
  exact ⟨by rw [HS.out,decide_eq_false H2.out];simp,HB.out⟩
 have q2:decide ((n2:Int)≤32)=true:=decide_eq_true (by omega)
 have H2:=Lib.hid h2
 clear h2
 by_cases h3:n3≤128
 case neg =>
  have q3:decide ((n3:Int)≤128)=false:=decide_eq_false (by omega)
  have H3:=Lib.hid h3
  clear h3
  go_wp2_with fail
  go_ret
  exact ⟨by rw [HS.out,decide_eq_false H3.out];simp,HB.out⟩
 have q3:decide ((n3:Int)≤128)=true:=decide_eq_true (by omega)
 have H3:=Lib.hid h3
 clear h3
 by_cases h4:n4≤32
 case neg =>
  have q4:decide ((n4:Int)≤32)=false:=decide_eq_false (by omega)
  have H4:=Lib.hid h4
  clear h4
  go_wp2_with fail
  go_ret
  exact ⟨by rw [HS.out,decide_eq_false H4.out];simp,HB.out⟩
 have q4:decide ((n4:Int)≤32)=true:=decide_eq_true (by omega)
 have H4:=Lib.hid h4
 clear h4
 by_cases h5:n5≤32
 case neg =>
  have q5:decide ((n5:Int)≤32)=false:=decide_eq_false (by omega)
  have H5:=Lib.hid h5
  clear h5
  go_wp2_with fail
  go_ret
  exact ⟨by rw [HS.out,decide_eq_false H5.out];simp,HB.out⟩
 have q5:decide ((n5:Int)≤32)=true:=decide_eq_true (by omega)
 have H5:=Lib.hid h5
 clear h5
 by_cases h6:n6≤256
 case neg =>
  have q6:decide ((n6:Int)≤256)=false:=decide_eq_false (by omega)
  have H6:=Lib.hid h6
  clear h6
  go_wp2_with fail
  go_ret
  exact ⟨by rw [HS.out,decide_eq_false H6.out];simp,HB.out⟩
 have q6:decide ((n6:Int)≤256)=true:=decide_eq_true (by omega)
 have H6:=Lib.hid h6
 clear h6
 by_cases h7:n7≤256
 case neg =>
  have q7:decide ((n7:Int)≤256)=false:=decide_eq_false (by omega)
  have H7:=Lib.hid h7
  clear h7
  go_wp2_with fail
  go_ret
  exact ⟨by rw [HS.out,decide_eq_false H7.out];simp,HB.out⟩
 have q7:decide ((n7:Int)≤256)=true:=decide_eq_true (by omega)
 have H7:=Lib.hid h7
 clear h7
 by_cases h8:n8≤32
 case neg =>
  have q8:decide ((n8:Int)≤32)=false:=decide_eq_false (by omega)
  have H8:=Lib.hid h8
  clear h8
  go_wp2_with fail
  go_ret
  exact ⟨by rw [HS.out,decide_eq_false H8.out];simp,HB.out⟩
 have q8:decide ((n8:Int)≤32)=true:=decide_eq_true (by omega)
 have H8:=Lib.hid h8
 clear h8
 go_wp2_with fail
 go_ret
 exact ⟨by rw [HS.out,decide_eq_true H1.out,decide_eq_true H2.out,decide_eq_true H3.out,decide_eq_true H4.out,decide_eq_true H5.out,decide_eq_true H6.out,decide_eq_true H7.out,decide_eq_true H8.out];rfl,HB.out⟩
theorem copy_strings (l:List ByteArray) (A0:Option Addr) (c0:Nat) (w:World) (h0:Kd.C Kd.string w A0 l.length l) (hl:sm l) :
  Calls Tryz.prog 29 #[.slice A0 l.length c0] w fun e w'=>∃ v,e=.returned v∧Kd.R Kd.string 9 w' w.heap.size (fun k=>w.heap.size≤k) v l∧Below w.heap.size w w':=by
 have HC0:=Lib.hid h0
 obtain ⟨n,hn⟩:∃ n,l.length=n:=⟨_,rfl⟩
 have HN:=Lib.hid hn
 have HL:=Lib.hid (show n≤4294967296 by rw [← hn];exact hl)
 rw [hn]
 clear h0 hl hn
 go_enter Tryz.func29,Tryz.ntmps29
 go_wp2_with fail
 go_loopw [3,4] (fun u3 u4 wr=>∃ (i:Nat) (A:Option Addr) (c:Nat),u4=.int .i64 i∧u3=.slice A i c∧i≤n∧Kd.R Kd.string 9 wr w.heap.size (fun k=>w.heap.size≤k) (.slice A i c) (l.take i)∧Below w.heap.size w wr) (fun _ u4 _=>n-(RowKit.intOf u4).toNat)
 case atStart=>exact ⟨0,none,0,rfl,rfl,Nat.zero_le _,Kd.R_nil _ _ _ _ _,Below.refl _ _⟩
 case round =>
  obtain ⟨i,A,c,rfl,rfl,hi,hr,hb⟩:=hrel
  have HB:=Lib.hid hb
  have HR:=Lib.hid hr
  by_cases hlt:i<n
  ·obtain ⟨a0,ea0,t0⟩:=Kd.at_string HC0.out (i:Int) (Int.natCast_nonneg i) (by have:=HN.out;omega)
   subst ea0
   simp only [Int.toNat_natCast] at t0
   have hx:rdOf ByteArray.empty l (i:Int)=l[i]'(by have:=HN.out;omega):=by
    show l.getD i _=_
    rw [List.getD_eq_getElem?_getD,List.getElem?_eq_getElem (by have:=HN.out;omega)]
    rfl
   have htk:l.take (i+1)=l.take i++[rdOf ByteArray.empty l (i:Int)]:=by rw [hx];exact List.take_succ_eq_append_getElem _
   generalize rdOf ByteArray.empty l (i:Int)=x at *
   have y0:=keep_cell t0 hb
   have HTK:=Lib.hid htk
   have HLT:=Lib.hid hlt
   have HLN:=Lib.hid (show ((l.take i).length+1)*16≤140737488355328 by have h1:=HL.out;rw [List.length_take];omega)
   have HTL:=Lib.hid (show (l.take i++[x]).length=i+1 by rw [← htk,List.length_take];have:=HN.out;omega)
   have x0:(0:Int)≤(i:Int):=by omega
   have x1:(i:Int)<(n:Int):=by omega
   have x5:(i:Int)≤4294967296:=by have:=HL.out;omega
   have x2:decide ((i:Int)<(n:Int))=true:=decide_eq_true x1
   have x3:decide (i<n)=true:=decide_eq_true hlt
   clear hlt hi hr hb htk t0 hx
   go_wp2_with (first | (at_builtin;refine Kd.R_append Kd.string (w0:=w) w.heap.size rfl (.tmp 11) (.tmp 16) 23 9 (.string ⟨#[]⟩) 16 rfl Tryz.underlying23 info_st rfl (by decide) (by decide) (.slice A i c) (l.take i) x [.string x] (fun k=>w.heap.size≤k) (fun _=>False) rfl rfl (by rfl) (fun _ hk=>hk.elim) (fun k hk=>Nat.le_trans HB.out.size hk) HR.out HB.out HB.out.size HLN.out ?_;intro v3 w3 hs3 hb3 hg3 hat3;obtain ⟨A9,c9,rfl⟩:=Kd.R_slice hs3;rw [HTL.out] at hs3 ⊢;rw [← HTK.out] at hs3;have HR3:=Lib.hid hs3;have HB3:=Lib.hid hb3;clear hs3 hb3 hg3 hat3))
   go_roundw
   case rel=>exact ⟨i+1,A9,c9,rfl,rfl,HLT.out,HR3.out,HB3.out⟩
   case measure=>(show n-(i+1:Int).toNat<n-(i:Int).toNat;have:=HLT.out;omega)
  ·have HTK:=Lib.hid (show l.take i=l by rw [List.take_of_length_le];have:=HN.out;omega)
   have x2:decide ((i:Int)<(n:Int))=false:=decide_eq_false (by omega)
   have x3:decide (i<n)=false:=decide_eq_false hlt
   clear hb hlt hi hr
   go_wp2_with fail
   go_ret
   refine ⟨_,rfl,?_,HB.out⟩
   have h9:=HR.out
   rw [HTK.out] at h9
   exact h9
end Go.Proofs.YtcakgennlliejaaGreatDoor
