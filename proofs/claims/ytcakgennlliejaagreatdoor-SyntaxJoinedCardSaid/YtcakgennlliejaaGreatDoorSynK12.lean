import Derived.Deep.RegionHeldLaw
import Derived.Test.YtcakgennlliejaaGreatDoorSynK11
set_option maxHeartbeats 8000000
set_option maxRecDepth 100000
namespace Go.Proofs.YtcakgennlliejaaGreatDoor
open Go.Shelf Go.RowKit Go.Lib
open Go.Proofs.YtcakgennlliejaaGreatDoorW.PrintWords
open Go.Proofs.YtcakgennlliejaaGreatDoor.PSyntaxJoined
open Sx
set_option linter.unusedVariables false
set_option linter.unusedSimpArgs false
theorem Sx.word_eq (s:ByteArray) (k:Int) (g:Int→Bool) (p q:Nat) (h:runL g (tl s p) p=q):wordS k g (tl s p) p=if 32<q-p then .no 5 p else putS k (q-p) (tl s p) p:=by
 rw [runL_eq] at h
 unfold wordS
 rw [show q-p=runN g (tl s p) by omega]
theorem Sx.runs_to (s:ByteArray) (g:Int→Bool) (p q:Nat) (hp:p≤s.size) (h:runL g (tl s p) p=q):p≤q∧q≤s.size:=by
 rw [runL_eq] at h
 have h1:=runN_le g (tl s p)
 have h2:(tl s p).length=s.size-p:=by unfold tl;rw [List.length_drop];rfl
 omega
theorem Sx.run_pos (s:ByteArray) (g:Int→Bool) (p q:Nat) (hp:p<s.size) (hg:g (cls (s[p]'hp).toNat)=true) (h:runL g (tl s p) p=q):p<q:=by
 rw [runL_eq,tl_cons hp,runN_cons,hg,if_pos rfl] at h
 omega
theorem Sx.Dn.behind {st:Stp} {sb:Nat} {s:ByteArray} {p:Nat} {l:List S48} {rm:List ByteArray} {er pl:Int} {w w1 w2:World} {x:Ending} (h:Dn st sb s p l rm er pl w1 x w2) (b:Below w.heap.size w w1):Dn st sb s p l rm er pl w x w2:=by
 obtain ⟨tv',rv',e,hs,hk⟩:=h
 exact ⟨tv',rv',e,hs,(Keep.of_below b:Keep (sF sb) w w1).trans hk (fun _ _ h=>h)⟩
theorem word_calls (good:Int→Bool) (K:FuncId)
  (eK:∀ args w,(callFunc K args).run Tryz.prog w=.ok (.enter K args) w)
  (hg0:good 0=false)
  (hK:∀ k w,Calls Tryz.prog K #[.int .i64 k] w fun e w'=>e=.returned (.bool (good k))∧w=w')
  (sb:Nat) (s:ByteArray) (p:Nat) (l:List S48) (rm:List ByteArray) (er pl:Int) (tv rv:Value) (k:Int) (hp:p<s.size) (hgp:good (cls (s[p]'hp).toNat)=true) (w:World) (h:Sn w sb s p l rm er pl tv rv) :
  Calls Tryz.prog 78 #[.pointer (some ⟨sb,0,none⟩),.int .i64 k,.func (.func K) #[] #[]] w (Dn (wordS k good (tl s p) p) sb s p l rm er pl w):=by
 obtain ⟨q,hq⟩:∃ q,runL good (tl s p) p=q:=⟨_,rfl⟩
 have HW:=Lib.hid (word_eq s k good p q hq)
 have HR:=Lib.hid (run_calls good K eK hg0 hK sb s p w (blk_cell (v:=.string s) h.blk 0 rfl) (Nat.le_of_lt hp) h.z)
 have hin:=runs_to s good p q (Nat.le_of_lt hp) hq
 have HIN:=Lib.hid hin
 have HPQ:=Lib.hid (run_pos s good p q hp hgp hq)
 have HQ:=Lib.hid hq
 have HS:=Lib.hid h
 have hz:=h.z
 have y1:=blk_cell (v:=.int .i64 p) h.blk 1 rfl
 have b1:(0:Int)≤(p:Int):=by omega
 have b2:(0:Int)≤(q:Int):=by omega
 have b3:(p:Int)≤65536:=by omega
 have b4:(q:Int)≤65536:=by omega
 have b5:(p:Int)≤(q:Int):=by omega
 by_cases hlt:32<q-p
 ·have z1:decide ((32:Int)<(q:Int)-(p:Int))=true:=decide_eq_true (by omega)
  have HL:=Lib.hid hlt
  clear h hq hin hz hlt hK eK
  go_enter Tryz.func78,Tryz.ntmps78
  go_wp2_with (first | (go_at_call 98;refine HR.out.mono ?_;rintro e w1 ⟨rfl,hb1⟩;have hs1:=HS.out.below hb1;have y1':=blk_cell (v:=.int .i64 p) hs1.blk 1 rfl;have HS1:=Lib.hid hs1;have HB1:=Lib.hid hb1;clear hs1 hb1;rw [show Sx.runL good (s.data.toList.drop p) p=q from HQ.out]) | (go_at_call 51;refine (fail_calls sb s p l rm er pl tv rv 5 p _ HS1.out).mono ?_;rintro e w8 ⟨rfl,hs8,hk8⟩))
  go_ret
  rw [HW.out,if_pos HL.out]
  exact Dn.behind ⟨_,_,rfl,hs8,hk8⟩ HB1.out
 ·have z1:decide ((32:Int)<(q:Int)-(p:Int))=false:=decide_eq_false (by omega)
  have HL:=Lib.hid hlt
  clear h hq hin hz hlt hK eK
  go_enter Tryz.func78,Tryz.ntmps78
  go_wp2_with (first | (go_at_call 98;refine HR.out.mono ?_;rintro e w1 ⟨rfl,hb1⟩;have hs1:=HS.out.below hb1;have y1':=blk_cell (v:=.int .i64 p) hs1.blk 1 rfl;have HS1:=Lib.hid hs1;have HB1:=Lib.hid hb1;clear hs1 hb1;rw [show Sx.runL good (s.data.toList.drop p) p=q from HQ.out]) | (go_at_call 99;refine (put_calls sb s p l rm er pl tv rv k q HPQ.out HIN.out.2 _ HS1.out).mono ?_;rintro e w8 ⟨tv8,rv8,rfl,hs8,hk8⟩))
  go_ret
  rw [HW.out,if_neg HL.out]
  exact Dn.behind ⟨_,_,rfl,hs8,hk8⟩ HB1.out
theorem Sx.datF_cons (n:Nat) (c:UInt8) (l:List UInt8):datF (n+1) (c::l)=((if n=5∨n=2 then c==45 else dg8 c)&&datF n l):=rfl
theorem dated_calls (S:ByteArray) (w:World):Calls Tryz.prog 100 #[.string S] w fun e w'=>e=.returned (.bool (datedL S.data.toList))∧w=w':=by
 obtain ⟨F,hF⟩:∃ F,datedL S.data.toList=F:=⟨_,rfl⟩
 rw [hF]
 by_cases h10:S.size<10
 ·have z1:decide ((S.size:Int)<10)=true:=decide_eq_true (by omega)
  have HF:=Lib.hid (show F=false by
   rw [← hF]
   cases h:datedL S.data.toList with
   | false=>rfl
   | true=>have h1:=datedL_len h;have h2:S.data.toList.length=S.size:=rfl;omega)
  clear hF
  go_enter Tryz.func100,Tryz.ntmps100
  go_wp2_with fail
  go_ret
  exact ⟨by rw [HF.out];try rfl,rfl⟩
 ·have z1:decide ((S.size:Int)<10)=false:=decide_eq_false (by omega)
  have HF:=Lib.hid hF
  have HZ:=Lib.hid h10
  clear hF
  go_enter Tryz.func100,Tryz.ntmps100
  go_wp2_with fail
  go_loop [7] (fun u7=>∃ i:Nat,u7=.int .i64 i∧i≤10∧F=datF (10-i) (S.data.toList.drop i)) (fun u7=>10-(RowKit.intOf u7).toNat)
  case atStart=>exact ⟨0,rfl,by omega,HF.out.symm⟩
  case round =>
   obtain ⟨i,rfl,hi,hf⟩:=hrel
   by_cases hlt:i<10
   ·have hs:i<S.size:=by omega
    obtain ⟨n,hn⟩:∃ n,10-i=n+1:=⟨9-i,by omega⟩
    have e5:S.data.toList.drop i=S[i]::S.data.toList.drop (i+1):=by
     rw [List.drop_eq_getElem_cons (show i<S.data.toList.length from hs)]
     rfl
    rw [hn,e5,datF_cons] at hf
    have hn2:10-(i+1)=n:=by omega
    have x1:decide ((i:Int)<10)=true:=decide_eq_true (by omega)
    have x2:(i:Int)<(S.size:Int):=by omega
    have x3:(0:Int)≤(i:Int):=by omega
    have x4:(i:Int)<10:=by omega
    by_cases hi4:i=4∨i=7
    ·have hc:(if n=5∨n=2 then S[i]==45 else dg8 S[i])=(S[i]==45):=if_pos (by omega)
     rw [hc] at hf
     have e47:(((i:Int)==4)=true∧(i==4)=true)∨(((i:Int)==4)=false∧(i==4)=false∧((i:Int)==7)=true∧(i==7)=true):=by
      rcases hi4 with rfl | rfl
      ·exact .inl ⟨rfl,rfl⟩
      ·exact .inr ⟨rfl,rfl,rfl,rfl⟩
     cases hb:(S[i]==(45:UInt8))
     ·have hne:(((S[i]).toNat:Int) != 45)=true:=by
       have h1:S[i]≠45:=by simpa using hb
       simp only [bne_iff_ne,ne_eq]
       intro h2
       exact h1 (UInt8.toNat_inj.1 (by show (S[i]).toNat=45;omega))
      have HFF:=Lib.hid (show F=false by rw [hf,hb];rfl)
      clear hf hb e5 hc hn hn2 hi4 hlt
      rcases e47 with ⟨g1,g2⟩ | ⟨g1,g2,g3,g4⟩
      all_goals
       go_wp2_with fail
       go_ret
       exact ⟨by rw [HFF.out];try rfl,rfl⟩
     ·have hne:(((S[i]).toNat:Int) != 45)=false:=by
       have h1:S[i]=45:=by simpa using hb
       rw [h1];rfl
      have HFF:=Lib.hid (show F=datF (10-(i+1)) (S.data.toList.drop (i+1)) by rw [hf,hb,hn2];rfl)
      clear hf hb e5 hc hn hn2 hi4 hlt
      rcases e47 with ⟨g1,g2⟩ | ⟨g1,g2,g3,g4⟩
      all_goals
       go_wp2_with fail
       go_round
       case rel=>exact ⟨i+1,rfl,by omega,HFF.out⟩
       case measure=>simp [RowKit.intOf];omega
    ·have hc:(if n=5∨n=2 then S[i]==45 else dg8 S[i])=dg8 S[i]:=if_neg (by omega)
     rw [hc] at hf
     have g1:((i:Int)==4)=false:=by simp only [beq_eq_false_iff_ne,ne_eq];omega
     have g2:(i==4)=false:=by simp only [beq_eq_false_iff_ne,ne_eq];omega
     have g3:((i:Int)==7)=false:=by simp only [beq_eq_false_iff_ne,ne_eq];omega
     have g4:(i==7)=false:=by simp only [beq_eq_false_iff_ne,ne_eq];omega
     cases hb:dg8 S[i]
     ·have hne:(cls (S[i]).toNat != 4)=true:=by unfold dg8 isDig at hb;simpa using hb
      have HFF:=Lib.hid (show F=false by rw [hf,hb];rfl)
      clear hf hb e5 hc hn hn2 hi4 hlt
      go_wp2_with (first | (go_at_call 75;refine (classOf_calls _ _).mono ?_;rintro e w6 ⟨rfl,rfl⟩))
      go_ret
      exact ⟨by rw [HFF.out];try rfl,rfl⟩
     ·have hne:(cls (S[i]).toNat != 4)=false:=by unfold dg8 isDig at hb;simpa using hb
      have HFF:=Lib.hid (show F=datF (10-(i+1)) (S.data.toList.drop (i+1)) by rw [hf,hb,hn2];rfl)
      clear hf hb e5 hc hn hn2 hi4 hlt
      go_wp2_with (first | (go_at_call 75;refine (classOf_calls _ _).mono ?_;rintro e w6 ⟨rfl,rfl⟩))
      go_round
      case rel=>exact ⟨i+1,rfl,by omega,HFF.out⟩
      case measure=>simp [RowKit.intOf];omega
   ·have HFF:=Lib.hid (show F=true by rw [hf,show 10-i=0 by omega];rfl)
    have x1:decide ((i:Int)<10)=false:=decide_eq_false (by omega)
    clear hf hlt
    go_wp2_with fail
    go_ret
    exact ⟨by rw [HFF.out];try rfl,rfl⟩
theorem Sx.extract_tl (s:ByteArray) (p:Nat):(s.extract p s.size).data.toList=tl s p:=by
 rw [extract_eq]
 show (List.take (s.size-p) (s.data.toList.drop p))=tl s p
 rw [List.take_of_length_le (by rw [List.length_drop];exact Nat.le_refl _)]
 rfl
set_option maxRecDepth 100000 in
theorem digit_enters:∀ args w,(callFunc 101 args).run Tryz.prog w=.ok (.enter 101 args) w:=Go.Proofs.enters_of (f:=101) rfl rfl rfl
theorem drun_calls (sb:Nat) (s:ByteArray) (a b:Nat) (w:World) (hc:w.cell? ⟨sb,0,none⟩=some (.string s)) (ha:a≤s.size) (hz:s.size≤65536) (hb:runL isDig (tl s a) a=b) :
  Calls Tryz.prog 98 #[.pointer (some ⟨sb,0,none⟩),.int .i64 a,.func (.func 101) #[] #[]] w fun e w'=>e=.returned (.int .i64 b)∧Below w.heap.size w w':=by
 subst hb
 exact run_calls isDig 101 digit_enters rfl digit_calls sb s a w hc ha hz
theorem Sx.num_none (s:ByteArray) (p q:Nat) (hp:p<s.size) (h:runL isDig (tl s p) p=q) (hq:∀ h1:q+1<s.size,(s[q]'(Nat.lt_of_succ_lt h1)==46&&dg8 (s[q+1]'h1))=false):numN (tl s p)=q-p:=by
 have hr:=h
 rw [runL_eq] at h
 have h3:runN isDig (tl s p)=q-p:=by omega
 unfold numN
 rw [h3,tl_drop,show p+(q-p)=q by omega]
 by_cases h1:q+1<s.size
 ·rw [tl_cons (Nat.lt_of_succ_lt h1),tl_cons h1]
  show (if (s[q]'(Nat.lt_of_succ_lt h1)==46&&dg8 (s[q+1]'h1))=true then _ else _)=_
  rw [hq h1];rfl
 ·by_cases h2:q<s.size
  ·rw [tl_cons h2,tl_nil h1]
  ·rw [tl_nil h2]
theorem Sx.num_more (s:ByteArray) (p q q2:Nat) (hp:p<s.size) (h:runL isDig (tl s p) p=q) (h1:q+1<s.size) (hd:s[q]'(Nat.lt_of_succ_lt h1)=46) (hg:dg8 (s[q+1]'h1)=true) (h2:runL isDig (tl s (q+1)) (q+1)=q2):numN (tl s p)=q2-p:=by
 rw [runL_eq] at h h2
 have h3:runN isDig (tl s p)=q-p:=by omega
 unfold numN
 rw [h3,tl_drop,show p+(q-p)=q by omega,tl_cons (Nat.lt_of_succ_lt h1),tl_cons h1]
 show (if (s[q]'(Nat.lt_of_succ_lt h1)==46&&dg8 (s[q+1]'h1))=true then q-p+1+runN isDig (s[q+1]'h1::tl s (q+1+1)) else _)=_
 rw [hd,hg,if_pos (by decide),← tl_cons h1]
 omega
theorem Sx.num_none' (s:ByteArray) (p q q1:Nat) (hq1:q+1=q1) (hp:p<s.size) (hd:datedL (tl s p)=false) (h:runL isDig (tl s p) p=q) (hq:∀ (h1:q1<s.size) (h0:q<s.size),(s[q]'h0==46&&dg8 (s[q1]'h1))=false):numberS (tl s p) p=putS 3 (q-p) (tl s p) p:=by
 subst hq1
 unfold numberS
 rw [hd,num_none s p q hp h (fun h1=>hq h1 _)]
 rfl
theorem Sx.num_more' (s:ByteArray) (p q q1 q2:Nat) (hq1:q+1=q1) (hp:p<s.size) (hd0:datedL (tl s p)=false) (h:runL isDig (tl s p) p=q) (h1:q1<s.size) (h0:q<s.size) (hd:(s[q]'h0==46)=true) (hg:dg8 (s[q1]'h1)=true) (h2:runL isDig (tl s q1) q1=q2):numberS (tl s p) p=putS 3 (q2-p) (tl s p) p:=by
 subst hq1
 unfold numberS
 rw [hd0,num_more s p q q2 hp h h1 (by simpa using hd) hg h2]
 rfl
theorem number_calls (sb:Nat) (s:ByteArray) (p:Nat) (l:List S48) (rm:List ByteArray) (er pl:Int) (tv rv:Value) (hp:p<s.size) (hgp:isDig (cls (s[p]'hp).toNat)=true) (w:World) (h:Sn w sb s p l rm er pl tv rv) :
  Calls Tryz.prog 82 #[.pointer (some ⟨sb,0,none⟩)] w (Dn (numberS (tl s p) p) sb s p l rm er pl w):=by
 have HS:=Lib.hid h
 have hz:=h.z
 have HZ:=Lib.hid hz
 have HP:=Lib.hid hp
 have hdt:=fun w=>dated_calls (s.extract p s.size) w
 rw [extract_tl] at hdt
 have ys:=blk_cell (v:=.string s) h.blk 0 rfl
 have yp:=blk_cell (v:=.int .i64 p) h.blk 1 rfl
 have b1:(0:Int)≤(p:Int):=by omega
 have b3:(p:Int)≤(s.size:Int):=by omega
 have c1:¬ ((p:Int)<0):=by omega
 have c2:¬ ((s.size:Int)<(p:Int)):=by omega
 cases hd:datedL (tl s p)
 ·rw [hd] at hdt
  have HDT:=Lib.hid (fun w:World=>(hdt w).mono (fun (e:Ending) (w':World) hh=>(⟨hh.1,hh.2.symm⟩:e=.returned (.bool false)∧w'=w)))
  have HD:=Lib.hid hd
  obtain ⟨q,hq⟩:∃ q,runL isDig (tl s p) p=q:=⟨_,rfl⟩
  have hin:=runs_to s isDig p q (Nat.le_of_lt hp) hq
  have HIN:=Lib.hid hin
  have HPQ:=Lib.hid (run_pos s isDig p q hp hgp hq)
  have HQ:=Lib.hid hq
  clear hdt hd
  obtain ⟨q1,hq1⟩:∃ q1,q+1=q1:=⟨_,rfl⟩
  have HQ1:=Lib.hid hq1
  have e2:(q:Int)+1=(q1:Int):=by omega
  have e3:wrap64 (q1:Int)=(q1:Int):=IntWalk.wrap64_in _ (by omega)
  have g1:(0:Int)≤(q:Int):=by omega
  have g2:(0:Int)≤(q1:Int):=by omega
  by_cases hq2:q1<s.size
  ·have z1:decide ((q1:Int)<(s.size:Int))=true:=decide_eq_true (by omega)
   have z2:decide (q1<s.size)=true:=decide_eq_true hq2
   have z3:(q1:Int)<(s.size:Int):=by omega
   have hq0:q<s.size:=by omega
   have z4:(q:Int)<(s.size:Int):=by omega
   cases hc:(s[q]'hq0==(46:UInt8))
   ·have hne:(((s[q]'hq0).toNat:Int)==46)=false:=by
     have h1:s[q]'hq0≠46:=by simpa using hc
     simp only [beq_eq_false_iff_ne,ne_eq]
     intro h2
     exact h1 (UInt8.toNat_inj.1 (by show (s[q]'hq0).toNat=46;omega))
    have HPE:=Lib.hid (num_none' s p q q1 hq1 hp HD.out hq (fun h1 h0=>by rw [hc];rfl))
    clear hq hin hc hq1 h hz hgp hp
    go_enter Tryz.func82,Tryz.ntmps82
    go_upto_region 1 with (fail)
    go_quiet ((go_at_call 100;exact Calls.quiet_of_same (HDT.out _)))
    obtain ⟨X,hX⟩:∃ X,w.drewN nq=X:=⟨_,rfl⟩
    have HB:=Lib.hid (show Below w.heap.size w X by rw [← hX];exact below_drewn (Below.refl _ w) _)
    have HSX:=Lib.hid (HS.out.below HB.out)
    have xp:=blk_cell (v:=.int .i64 p) HSX.out.blk 1 rfl
    have HR:=Lib.hid (drun_calls sb s p q X (blk_cell (v:=.string s) HSX.out.blk 0 rfl) (Nat.le_of_lt HP.out) HZ.out HQ.out)
    try rw [hX]
    clear hX ys yp
    go_upto_region 4 with (first | (go_at_call 98;((with_reducible refine HR.out.mono ?_);rintro e w1 ⟨rfl,hb1⟩)))
    have HS1:=Lib.hid (HSX.out.below hb1)
    have HB1:=Lib.hid (HB.out.trans (hb1.mono HB.out.size))
    have xs:=blk_cell (v:=.string s) HS1.out.blk 0 rfl
    have x1:=blk_cell (v:=.int .i64 p) HS1.out.blk 1 rfl
    clear hb1 xp
    go_wp2_with (first | (go_at_call 75;((with_reducible refine (classOf_calls _ _).mono ?_);rintro e w6 ⟨rfl,rfl⟩)) | (go_at_call 99;((with_reducible refine (put_calls sb s p l rm er pl tv rv 3 q HPQ.out HIN.out.2 _ HS1.out).mono ?_);rintro e w8 ⟨tv8,rv8,rfl,hs8,hk8⟩)))
    go_ret
    rw [HPE.out]
    exact Dn.behind ⟨_,_,rfl,hs8,hk8⟩ HB1.out
   ·have hne:(((s[q]'hq0).toNat:Int)==46)=true:=by
     have h1:s[q]'hq0=46:=by simpa using hc
     rw [h1];rfl
    cases hg:dg8 (s[q1]'hq2)
    ·have hcl:(cls (s[q1]'hq2).toNat==4)=false:=hg
     have HPE:=Lib.hid (num_none' s p q q1 hq1 hp HD.out hq (fun h1 h0=>by rw [hg];exact Bool.and_false _))
     clear hq hin hc hg hq1 h hz hgp hp
     go_enter Tryz.func82,Tryz.ntmps82
     go_upto_region 1 with (fail)
     go_quiet ((go_at_call 100;exact Calls.quiet_of_same (HDT.out _)))
     obtain ⟨X,hX⟩:∃ X,w.drewN nq=X:=⟨_,rfl⟩
     have HB:=Lib.hid (show Below w.heap.size w X by rw [← hX];exact below_drewn (Below.refl _ w) _)
     have HSX:=Lib.hid (HS.out.below HB.out)
     have xp:=blk_cell (v:=.int .i64 p) HSX.out.blk 1 rfl
     have HR:=Lib.hid (drun_calls sb s p q X (blk_cell (v:=.string s) HSX.out.blk 0 rfl) (Nat.le_of_lt HP.out) HZ.out HQ.out)
     try rw [hX]
     clear hX ys yp
     go_upto_region 4 with (first | (go_at_call 98;((with_reducible refine HR.out.mono ?_);rintro e w1 ⟨rfl,hb1⟩)))
     have HS1:=Lib.hid (HSX.out.below hb1)
     have HB1:=Lib.hid (HB.out.trans (hb1.mono HB.out.size))
     have xs:=blk_cell (v:=.string s) HS1.out.blk 0 rfl
     have x1:=blk_cell (v:=.int .i64 p) HS1.out.blk 1 rfl
     clear hb1 xp
     go_wp2_with (first | (go_at_call 75;((with_reducible refine (classOf_calls _ _).mono ?_);rintro e w6 ⟨rfl,rfl⟩)) | (go_at_call 99;((with_reducible refine (put_calls sb s p l rm er pl tv rv 3 q HPQ.out HIN.out.2 _ HS1.out).mono ?_);rintro e w8 ⟨tv8,rv8,rfl,hs8,hk8⟩)))
     go_ret
     rw [HPE.out]
     exact Dn.behind ⟨_,_,rfl,hs8,hk8⟩ HB1.out
    ·have hcl:(cls (s[q1]'hq2).toNat==4)=true:=hg
     obtain ⟨q2,hr2⟩:∃ q2,runL isDig (tl s q1) q1=q2:=⟨_,rfl⟩
     have HR2:=Lib.hid hr2
     have HIN2:=Lib.hid (runs_to s isDig q1 q2 (Nat.le_of_lt hq2) hr2)
     have HPE:=Lib.hid (num_more' s p q q1 q2 hq1 hp HD.out hq hq2 hq0 hc hg hr2)
     have HLE:=Lib.hid (show q1≤s.size from Nat.le_of_lt hq2)
     have HPQ2:=Lib.hid (show p<q2 by have h1:=HIN2.out.1;have h2:=HPQ.out;omega)
     clear hq hin hc hg hq1 h hz hgp hp hr2
     go_enter Tryz.func82,Tryz.ntmps82
     go_upto_region 1 with (fail)
     go_quiet ((go_at_call 100;exact Calls.quiet_of_same (HDT.out _)))
     obtain ⟨X,hX⟩:∃ X,w.drewN nq=X:=⟨_,rfl⟩
     have HB:=Lib.hid (show Below w.heap.size w X by rw [← hX];exact below_drewn (Below.refl _ w) _)
     have HSX:=Lib.hid (HS.out.below HB.out)
     have xp:=blk_cell (v:=.int .i64 p) HSX.out.blk 1 rfl
     have HR:=Lib.hid (drun_calls sb s p q X (blk_cell (v:=.string s) HSX.out.blk 0 rfl) (Nat.le_of_lt HP.out) HZ.out HQ.out)
     try rw [hX]
     clear hX ys yp
     go_upto_region 4 with (first | (go_at_call 98;((with_reducible refine HR.out.mono ?_);rintro e w1 ⟨rfl,hb1⟩)))
     have HS1:=Lib.hid (HSX.out.below hb1)
     have HB1:=Lib.hid (HB.out.trans (hb1.mono HB.out.size))
     have xs:=blk_cell (v:=.string s) HS1.out.blk 0 rfl
     have x1:=blk_cell (v:=.int .i64 p) HS1.out.blk 1 rfl
     clear hb1 xp
     go_wp2_with (first | (go_at_call 75;((with_reducible refine (classOf_calls _ _).mono ?_);rintro e w6 ⟨rfl,rfl⟩)) | (go_at_call 98;((with_reducible refine (drun_calls sb s q1 q2 _ xs HLE.out HZ.out HR2.out).mono ?_);rintro e w2 ⟨rfl,hb2⟩;have HS2:=Lib.hid (HS1.out.below hb2);have HB2:=Lib.hid (HB1.out.trans (hb2.mono HB1.out.size));clear hb2)) | (go_at_call 99;((with_reducible refine (put_calls sb s p l rm er pl tv rv 3 q2 HPQ2.out HIN2.out.2 _ HS2.out).mono ?_);rintro e w8 ⟨tv8,rv8,rfl,hs8,hk8⟩)))
     go_ret
     rw [HPE.out]
     exact Dn.behind ⟨_,_,rfl,hs8,hk8⟩ HB2.out
  ·have z1:decide ((q1:Int)<(s.size:Int))=false:=decide_eq_false (by omega)
   have z2:decide (q1<s.size)=false:=decide_eq_false hq2
   have HPE:=Lib.hid (num_none' s p q q1 hq1 hp HD.out hq (fun h1 h0=>absurd h1 hq2))
   clear hq hin hq1 h hz hgp hp
   go_enter Tryz.func82,Tryz.ntmps82
   go_upto_region 1 with (fail)
   go_quiet ((go_at_call 100;exact Calls.quiet_of_same (HDT.out _)))
   obtain ⟨X,hX⟩:∃ X,w.drewN nq=X:=⟨_,rfl⟩
   have HB:=Lib.hid (show Below w.heap.size w X by rw [← hX];exact below_drewn (Below.refl _ w) _)
   have HSX:=Lib.hid (HS.out.below HB.out)
   have xp:=blk_cell (v:=.int .i64 p) HSX.out.blk 1 rfl
   have HR:=Lib.hid (drun_calls sb s p q X (blk_cell (v:=.string s) HSX.out.blk 0 rfl) (Nat.le_of_lt HP.out) HZ.out HQ.out)
   try rw [hX]
   clear hX ys yp
   go_upto_region 4 with (first | (go_at_call 98;((with_reducible refine HR.out.mono ?_);rintro e w1 ⟨rfl,hb1⟩)))
   have HS1:=Lib.hid (HSX.out.below hb1)
   have HB1:=Lib.hid (HB.out.trans (hb1.mono HB.out.size))
   have xs:=blk_cell (v:=.string s) HS1.out.blk 0 rfl
   have x1:=blk_cell (v:=.int .i64 p) HS1.out.blk 1 rfl
   clear hb1 xp
   go_wp2_with (first | (go_at_call 75;((with_reducible refine (classOf_calls _ _).mono ?_);rintro e w6 ⟨rfl,rfl⟩)) | (go_at_call 99;((with_reducible refine (put_calls sb s p l rm er pl tv rv 3 q HPQ.out HIN.out.2 _ HS1.out).mono ?_);rintro e w8 ⟨tv8,rv8,rfl,hs8,hk8⟩)))
   go_ret
   rw [HPE.out]
   exact Dn.behind ⟨_,_,rfl,hs8,hk8⟩ HB1.out
 ·rw [hd] at hdt
  have HDT:=Lib.hid (fun w:World=>(hdt w).mono (fun (e:Ending) (w':World) hh=>(⟨hh.1,hh.2.symm⟩:e=.returned (.bool true)∧w'=w)))
  have HPE:=Lib.hid (show numberS (tl s p) p=putS 4 10 (tl s p) p from by unfold numberS;rw [hd];rfl)
  have hl:=datedL_len hd
  have hl2:(tl s p).length=s.size-p:=by unfold tl;rw [List.length_drop];rfl
  have hq:p+10≤s.size:=by omega
  obtain ⟨q,hq10⟩:∃ q,p+10=q:=⟨_,rfl⟩
  have wz3:wrap64 (q:Int)=(q:Int):=IntWalk.wrap64_in _ (by omega)
  have wz2:(p:Int)+10=(q:Int):=by omega
  have HQ:=Lib.hid (show p<q∧q≤s.size∧q-p=10 from ⟨by omega,by omega,by omega⟩)
  clear hd hl hl2 hq hq10 hdt h hz hgp hp
  go_enter Tryz.func82,Tryz.ntmps82
  go_upto_region 1 with (fail)
  go_quiet ((go_at_call 100;exact Calls.quiet_of_same (HDT.out _)))
  obtain ⟨X,hX⟩:∃ X,w.drewN nq=X:=⟨_,rfl⟩
  have HB:=Lib.hid (show Below w.heap.size w X by rw [← hX];exact below_drewn (Below.refl _ w) _)
  have HSX:=Lib.hid (HS.out.below HB.out)
  have xp:=blk_cell (v:=.int .i64 p) HSX.out.blk 1 rfl
  try rw [hX]
  clear hX ys yp
  go_wp2_with (first | (go_at_call 99;refine (put_calls sb s p l rm er pl tv rv 4 q HQ.out.1 HQ.out.2.1 _ HSX.out).mono ?_;rintro e w8 ⟨tv8,rv8,rfl,hs8,hk8⟩))
  go_ret
  rw [HPE.out,← HQ.out.2.2]
  exact Dn.behind ⟨_,_,rfl,hs8,hk8⟩ HB.out
theorem info_st:(Tryz.prog.info? 9).map (fun i=>(i.zero,i.size,i.bytes))=some (some (.string ⟨#[]⟩),1,16):=by kernel_rfl
theorem Sx.Sn.kept {w0 w3:World} {sb:Nat} {s:ByteArray} {p:Nat} {l:List S48} {rm:List ByteArray} {er pl:Int} {tv rv v9:Value} {t:ByteArray} (h:Sn w0 sb s p l rm er pl tv rv) (hs3:Kd.R Kd.string 9 w3 (sb+1) (fun k=>sb<k) v9 (rm++[t])) (hb3:Below (sb+1) w0 w3) (hg3:w0.grownBy w3 rv.ownBlock) (q:Nat) (hpq:p<q) (hq:q≤s.size) :
  Sn ((w3.setCell ⟨sb,3,none⟩ v9).setCell ⟨sb,1,none⟩ (.int .i64 q)) sb s q l (rm++[t]) er pl tv v9∧Keep (sF sb) w0 ((w3.setCell ⟨sb,3,none⟩ v9).setCell ⟨sb,1,none⟩ (.int .i64 q)):=by
 have hbk:=(hb3.block sb (Nat.lt_succ_self _)).trans h.blk
 have rt3:Kd.R k48 48 w3 (sb+1) (fun k=>sb<k) tv l:=Kd.R_mono (Kd.R_step (Kd.R_apartR h.rt h.rr (by decide)) (fun i hi hlt=>hg3.block i hlt hi.2)) (fun k hk=>hk.1)
 have hf:∀ k,sb<k→k≠sb:=fun k hk=>Nat.ne_of_gt hk
 have hk3:Keep (sF sb) w0 w3:=⟨hb3.os,hb3.tape,hb3.output,hg3.size,fun i hi hn=>hb3.block i (by unfold sF at hn;omega)⟩
 refine ⟨⟨heap_setCell_same (heap_setCell_same hbk 3 _) 1 _,Kd.R_far (Kd.R_far rt3 (p:=⟨sb,3,none⟩) hf _) (p:=⟨sb,1,none⟩) hf _,Kd.R_far (Kd.R_far hs3 (p:=⟨sb,3,none⟩) hf _) (p:=⟨sb,1,none⟩) hf _,h.z,hq,Nat.le_trans h.nt (Nat.le_of_lt hpq),?_⟩,(hk3.trans (keep_set _) (fun _ _ h=>h)).trans (keep_set _) (fun _ _ h=>h)⟩
 rw [List.length_append,List.length_singleton]
 have:=h.nr
 omega
theorem Sx.w64' (n:Nat) (h:n≤1400000):IntKind.i64.wrap (n:Int)=n∧wrap64 (n:Int)=n:=⟨IntWalk.i64_in _ (by omega),IntWalk.wrap64_in _ (by omega)⟩
theorem Sx.cut_line:∀ r:List UInt8,(Lib.cut r [10]).1=r.takeWhile inLine:=by
 have key:∀ r:List UInt8,(Lib.index r [10]=-1∧r.takeWhile inLine=r)∨∃ m:Nat,Lib.index r [10]=(m:Int)∧r.takeWhile inLine=r.take m:=by
  intro r
  induction r with
  | nil=>exact .inl ⟨rfl,rfl⟩
  | cons b r ih =>
   have hb:([10]:List UInt8).isPrefixOf (b::r)=!(inLine b):=by
    unfold inLine
    show ((10:UInt8)==b&&List.isPrefixOf [] r)=_
    rw [show List.isPrefixOf ([]:List UInt8) r=true by cases r <;> rfl,Bool.and_true,Bool.not_not,Bool.beq_comm]
   cases hq:inLine b
   ·rw [hq] at hb
    refine .inr ⟨0,?_,?_⟩
    ·rw [Lib.index,hb];rfl
    ·rw [List.takeWhile_cons,hq];rfl
   ·rw [hq] at hb
    have e1:(b::r).takeWhile inLine=b::r.takeWhile inLine:=by rw [List.takeWhile_cons,hq];rfl
    rcases ih with ⟨h1,h2⟩ | ⟨m,h1,h2⟩
    ·refine .inl ⟨by rw [Lib.index,hb,h1];rfl,by rw [e1,h2]⟩
    ·refine .inr ⟨m+1,?_,by rw [e1,h2];rfl⟩
     rw [Lib.index,hb,h1]
     have h6:((m:Int)==-1)=false:=by simp only [beq_eq_false_iff_ne,ne_eq];omega
     rw [h6]
     show (m:Int)+1=_
     omega
 intro r
 unfold Lib.cut
 rcases key r with ⟨h1,h2⟩ | ⟨m,h1,h2⟩
 ·rw [h1,h2];rfl
 ·rw [h1,h2,if_pos (by omega)];rfl
theorem remark_calls (sb:Nat) (s:ByteArray) (p:Nat) (l:List S48) (rm:List ByteArray) (er pl:Int) (tv rv:Value) (hp:p<s.size) (w:World) (h:Sn w sb s p l rm er pl tv rv) (hg:∃ m,w.cell? ⟨0,0,none⟩=some (.int .i64 m)) :
  Calls Tryz.prog 84 #[.pointer (some ⟨sb,0,none⟩)] w (Dn (remarkS (tl s (p+1)) p) sb s p l rm er pl w):=by
 have e0:=Kd.R_slice h.rr
 obtain ⟨A0,c0,rfl⟩:=e0
 obtain ⟨p1,hp1⟩:∃ p1,p+1=p1:=⟨_,rfl⟩
 rw [hp1]
 have HS:=Lib.hid h
 have hz:=h.z
 have hnr:=h.nr
 obtain ⟨gm,hgm⟩:=hg
 have hcut:=fun (w:World) (hm:w.cell? ⟨0,0,none⟩=some (.int .i64 gm))=>Tryz.strings_Cut (s.extract p1 s.size) ⟨#[10]⟩ gm w (by rw [ByteArray.size_extract];omega) hm
 obtain ⟨L,hL⟩:∃ L,(tl s p1).takeWhile inLine=L:=⟨_,rfl⟩
 obtain ⟨R,hR⟩:∃ R,(Lib.cut (tl s p1) [10]).2.1=R:=⟨_,rfl⟩
 obtain ⟨B,hB⟩:∃ B,(Lib.cut (tl s p1) [10]).2.2=B:=⟨_,rfl⟩
 have hcut2:∀ (w:World) (hm:w.cell? ⟨0,0,none⟩=some (.int .i64 gm)),Calls Tryz.prog 103 #[.string (s.extract p1 s.size),.string ⟨#[10]⟩] w fun e w'=>e=.returned (.tuple #[.string ⟨L.toArray⟩,.string ⟨R.toArray⟩,.bool B])∧∃ n,w'=w.drewN n:=by
  intro w hm
  have h1:=hcut w hm
  rw [extract_tl,show (⟨#[10]⟩:ByteArray).data.toList=[10] from rfl,cut_line,hL,hR,hB] at h1
  exact h1
 have HCT:=Lib.hid hcut2
 have hlen:(tl s p1).length=s.size-p1:=by unfold tl;rw [List.length_drop];rfl
 have hLl:L.length≤(tl s p1).length:=by rw [← hL];exact takeWhile_le _ _
 have HPE:=Lib.hid (show remarkS (tl s p1) p=.rem ⟨L.toArray⟩ (p+1+L.length) from by unfold remarkS;rw [hL])
 obtain ⟨q,hq⟩:∃ q,p+1+L.length=q:=⟨_,rfl⟩
 rw [hq] at HPE
 obtain ⟨n1,hn1⟩:∃ n1,1+L.length=n1:=⟨_,rfl⟩
 obtain ⟨t,ht⟩:∃ t:ByteArray,⟨L.toArray⟩=t:=⟨_,rfl⟩
 have hts:t.size=L.length:=by rw [← ht];show L.toArray.size=_;rw [List.size_toArray]
 rw [ht] at HPE HCT
 have HQ:=Lib.hid (show p<q∧q≤s.size by omega)
 have HLL:=Lib.hid (show (rm.length+1)*16≤140737488355328 by omega)
 have b1:(0:Int)≤(p:Int):=by omega
 have b2:(0:Int)≤(p1:Int):=by omega
 have b3:(p1:Int)≤(s.size:Int):=by omega
 have c1:¬ ((p1:Int)<0):=by omega
 have c2:¬ ((s.size:Int)<(p1:Int)):=by omega
 have e1:(p:Int)+1=(p1:Int):=by omega
 have e3:(1:Int)+(t.size:Int)=(n1:Int):=by omega
 have e4:(p:Int)+(n1:Int)=(q:Int):=by omega
 have HGC:=Lib.hid (keep_cell hgm (Below.refl _ w).drew)
 have HG0:=Lib.hid hgm
 have y0:=blk_cell (v:=.string s) h.blk 0 rfl
 have y1:=blk_cell (v:=.int .i64 p) h.blk 1 rfl
 have U1:=Lib.hid (w64' p1 (by omega))
 have U2:=Lib.hid (w64' n1 (by omega))
 have U3:=Lib.hid (w64' q (by omega))
 have HLB:=Lib.hid (show sb+1≤w.heap.size from h.lt)
 clear h hp hz hnr hcut hcut2 hL hR hB hlen hLl hq hn1 hts hp1 ht hgm
 have HE3:=Lib.hid (And.intro e3 e4)
 clear e3 e4
 obtain ⟨u1,u2⟩:=U1.out
 go_enter Tryz.func84,Tryz.ntmps84
 go_upto_region 1 with (fail)
 go_quiet ((go_at_call 103;exact Calls.quiet_of (HCT.out _ HG0.out)))
 obtain ⟨X,hX⟩:∃ X,w.drewN nq=X:=⟨_,rfl⟩
 have HBX:=Lib.hid (show Below w.heap.size w X by rw [← hX];exact below_drewn (Below.refl _ w) _)
 have HSX:=Lib.hid (HS.out.below HBX.out)
 have HLX:=Lib.hid (show sb+1≤X.heap.size from HSX.out.lt)
 have x3:=blk_cell (v:=.slice A0 rm.length c0) HSX.out.blk 3 rfl
 try rw [hX]
 clear hX y0 y1
 go_upto_region 3 with (first | (at_builtin;refine Kd.R_append Kd.string (w0:=X) (sb+1) rfl (.tmp 25) (.tmp 27) 23 9 (.string ⟨#[]⟩) 16 rfl Tryz.underlying23 info_st rfl (by decide) (by decide) (.slice A0 rm.length c0) rm t [.string t] (fun k=>sb<k) (fun _=>False) rfl rfl (by rfl) (fun _ hk=>hk.elim) (fun k hk=>Nat.lt_of_lt_of_le HLX.out hk) HSX.out.rr (Below.refl _ _) HLX.out HLL.out ?_;intro v3 w3 hs3 hb3 hg3 hat3;obtain ⟨A9,c9,rfl⟩:=Kd.R_slice hs3;rw [List.length_append,List.length_singleton] at hs3;have hbk3:=(hb3.block sb (Nat.lt_succ_self _)).trans HSX.out.blk;have f3:=blk_free hbk3 3;have y3:=blk_cell (v:=.slice A0 rm.length c0) hbk3 3 rfl;have HS3:=Lib.hid hs3;have HB3:=Lib.hid hb3;have HG3:=Lib.hid hg3;have HBK3:=Lib.hid hbk3;clear hs3 hb3 hg3 hat3 hbk3))
 have HP:=Lib.hid (HSX.out.kept HS3.out HB3.out HG3.out q HQ.out.1 HQ.out.2)
 obtain ⟨Z,hZ⟩:∃ Z,w3.setCell ⟨sb,3,none⟩ (.slice A9 (rm.length+1) c9)=Z:=⟨_,rfl⟩
 have z1:Z.cell? ⟨sb,1,none⟩=some (.int .i64 p):=by rw [← hZ];exact (World.cell?_setCell_other _ _ _ _ (by simp)).trans (blk_cell (v:=.int .i64 p) HBK3.out 1 rfl)
 have g1:Z.frozen? ⟨sb,1,none⟩=false:=by rw [← hZ,World.frozen?_setCell];exact blk_free HBK3.out 1
 rw [hZ] at HP
 try rw [hZ]
 clear hZ x3 y3 f3 HS3 HB3 HG3 HBK3
 have hkw:Keep (sF sb) w X:=Keep.of_below HBX.out
 have HKW:=Lib.hid (hkw.trans HP.out.2 (fun _ _ h=>h))
 clear hkw
 obtain ⟨e3,e4⟩:=HE3.out
 obtain ⟨u3,u4⟩:=U2.out
 obtain ⟨u5,u6⟩:=U3.out
 go_wp2_with fail
 go_ret
 rw [HPE.out]
 exact ⟨_,_,rfl,HP.out.1,HKW.out⟩
def Sx.markCells:List Value:=marks8.map fun m=>.string ⟨m.toArray⟩
theorem marks_calls (w:World):Calls Tryz.prog 104 #[] w fun e w'=>e=.returned (.slice (some ⟨w.heap.size,0,none⟩) 21 21)∧w'=w.alloc (.cells markCells.toArray 9):=by
 have HM:=Lib.hid (show markCells.toArray=#[.string ⟨#[45,62]⟩,.string ⟨#[61,62]⟩,.string ⟨#[126,62]⟩,.string ⟨#[33,61]⟩,.string ⟨#[60,61]⟩,.string ⟨#[62,61]⟩,.string ⟨#[61,61]⟩,.string ⟨#[60,62]⟩,.string ⟨#[60]⟩,.string ⟨#[62]⟩,.string ⟨#[40]⟩,.string ⟨#[41]⟩,.string ⟨#[123]⟩,.string ⟨#[125]⟩,.string ⟨#[44]⟩,.string ⟨#[46]⟩,.string ⟨#[58]⟩,.string ⟨#[61]⟩,.string ⟨#[45]⟩,.string ⟨#[43]⟩,.string ⟨#[42]⟩] from rfl)
 go_enter Tryz.func104,Tryz.ntmps104
 go_wp2_with fail
 go_ret
 exact ⟨rfl,by rw [HM.out]⟩
theorem Sx.mark_at {w:World} {b:Nat} (h:w.heap[b]?=some (.cells markCells.toArray 9 (0,0))) (i:Nat) (hi:i<marks8.length):w.cell? ⟨b,i,none⟩=some (.string ⟨(marks8[i]).toArray⟩):=by
 refine blk_cell h i ?_
 rw [List.getElem?_toArray]
 unfold markCells
 rw [List.getElem?_map,List.getElem?_eq_getElem hi]
 rfl
theorem Sx.markL_cons (l m:List UInt8) (p:Nat) (ms:List (List UInt8)):markL l p (m::ms)=if m.isPrefixOf l then .tok ⟨6,⟨m.toArray⟩,p⟩ (p+m.length) else markL l p ms:=rfl
theorem lmark_calls (sb:Nat) (s:ByteArray) (p:Nat) (l:List S48) (rm:List ByteArray) (er pl:Int) (tv rv:Value) (hp:p<s.size) (w:World) (h:Sn w sb s p l rm er pl tv rv) :
  Calls Tryz.prog 85 #[.pointer (some ⟨sb,0,none⟩)] w (Dn (markS (tl s p) p) sb s p l rm er pl w):=by
 have e0:=Kd.R_slice h.rt
 obtain ⟨A0,c0,rfl⟩:=e0
 obtain ⟨st,hst⟩:∃ st,markS (tl s p) p=st:=⟨_,rfl⟩
 rw [hst]
 have HST:=Lib.hid hst
 have HS:=Lib.hid h
 have HZ:=Lib.hid h.z
 have HP:=Lib.hid hp
 have HLL:=Lib.hid (show (l.length+1)*32≤140737488355328 by have:=h.nt;have:=h.z;omega)
 have b1:(0:Int)≤(p:Int):=by omega
 have b3:(p:Int)≤(s.size:Int):=by omega
 have c1:¬ ((p:Int)<0):=by omega
 have c2:¬ ((s.size:Int)<(p:Int)):=by omega
 have HHP:=Lib.hid (fun (m:ByteArray) (w:World)=>(show Calls Tryz.prog 105 #[.string (s.extract p s.size),.string m] w fun e w'=>e=.returned (.bool (Lib.hasPrefix (s.extract p s.size).data.toList m.data.toList))∧w'=w from Tryz.strings_HasPrefix (s.extract p s.size) m w))
 rw [extract_tl] at HHP
 obtain ⟨X,hX⟩:∃ X,w.alloc (.cells markCells.toArray 9)=X:=⟨_,rfl⟩
 have HBX:=Lib.hid (show Below w.heap.size w X by rw [← hX];exact (Below.refl _ w).alloc (Nat.le_refl _) _)
 have HMB:=Lib.hid (show X.heap[w.heap.size]?=some (.cells markCells.toArray 9 (0,0)) by rw [← hX];exact heap_alloc_new w _)
 have HX:=Lib.hid hX
 have HMC:=Lib.hid (fun w:World=>marks_calls w)
 clear h hp hst hX
 go_enter Tryz.func85,Tryz.ntmps85
 go_wp2_with (first | (go_at_call 104;((with_reducible refine (HMC.out _).mono ?_);rintro e w4 ⟨rfl,rfl⟩;rw [HX.out])))
 go_loopw [7] (fun u7 wr=>∃ i n,u7=.int .i64 (i:Nat)∧wr=X.drewN n∧i≤21∧st=markL (tl s p) p (marks8.drop i)) (fun u7 _=>21-(RowKit.intOf u7).toNat)
 case atStart=>exact ⟨0,0,rfl,rfl,by omega,HST.out.symm⟩
 case round =>
  obtain ⟨i,n,rfl,rfl,hi,hf⟩:=hrel
  obtain ⟨W1,hW1⟩:∃ W1,X.drewN n=W1:=⟨_,rfl⟩
  have HW1:=Lib.hid hW1
  have HBW:=Lib.hid (show Below w.heap.size w W1 by rw [← hW1];exact below_drewn HBX.out _)
  have HSW:=Lib.hid (HS.out.below HBW.out)
  have HMW:=Lib.hid (show W1.heap[w.heap.size]?=some (.cells markCells.toArray 9 (0,0)) by rw [← hW1];exact HMB.out)
  try rw [hW1]
  clear hW1
  by_cases hlt:i<21
  ·have hlm:i<marks8.length:=hlt
   have hmne:marks8[i]≠[]:=(show ∀ m∈marks8,m≠[] by decide) _ (List.getElem_mem hlm)
   obtain ⟨m,hm⟩:∃ m,marks8[i]=m:=⟨_,rfl⟩
   have ymi:=mark_at HMW.out i hlm
   rw [List.drop_eq_getElem_cons hlm,markL_cons] at hf
   rw [hm] at hf ymi hmne
   have y0:=blk_cell (v:=.string s) HSW.out.blk 0 rfl
   have y1:=blk_cell (v:=.int .i64 p) HSW.out.blk 1 rfl
   have x1:(i:Int)<21:=by omega
   have x2:(0:Int)≤(i:Int):=by omega
   have x3:decide ((i:Int)<21)=true:=decide_eq_true x1
   obtain ⟨tm,htm⟩:∃ tm:ByteArray,⟨m.toArray⟩=tm:=⟨_,rfl⟩
   rw [htm] at hf ymi
   have hms:tm.size=m.length:=by rw [← htm];show m.toArray.size=_;rw [List.size_toArray]
   have hhp:Lib.hasPrefix (tl s p) tm.data.toList=m.isPrefixOf (tl s p):=by rw [← htm];rfl
   cases hb:m.isPrefixOf (tl s p)
   ·rw [hb] at hf hhp
    have HFF:=Lib.hid (show st=markL (tl s p) p (marks8.drop (i+1)) from hf)
    have HHQ:=Lib.hid (fun w=>show Calls Tryz.prog 105 #[.string (s.extract p s.size),.string tm] w fun e w'=>e=.returned (.bool false)∧w'=w by have h1:=HHP.out tm w;rw [hhp] at h1;exact h1)
    clear hf hhp hb hms hmne hlm hm htm
    go_upto_region 4 with (fail)
    go_quiet ((go_at_call 105;exact Calls.quiet_of_same (HHQ.out _)))
    go_wp2_with fail
    go_roundw
    case rel=>exact ⟨i+1,n+nq,rfl,by rw [← HW1.out,World.drewN_drewN],by omega,HFF.out⟩
    case measure=>simp [RowKit.intOf];omega
   ·rw [hb] at hf hhp
    have hpl:=prefix_len hb
    have hlen:(tl s p).length=s.size-p:=by unfold tl;rw [List.length_drop];rfl
    have hml:=List.length_pos_iff.2 hmne
    obtain ⟨q,hq⟩:∃ q,p+m.length=q:=⟨_,rfl⟩
    rw [hq] at hf
    have HFF:=Lib.hid (show st=.tok ⟨6,tm,p⟩ q from hf)
    have HHQ:=Lib.hid (fun w=>show Calls Tryz.prog 105 #[.string (s.extract p s.size),.string tm] w fun e w'=>e=.returned (.bool true)∧w'=w by have h1:=HHP.out tm w;rw [hhp] at h1;exact h1)
    have hpp:=HP.out
    have hzz:=HZ.out
    have HQ:=Lib.hid (show p<q∧q≤s.size by omega)
    have e4:(p:Int)+(tm.size:Int)=(q:Int):=by omega
    have U7:=Lib.hid (w64' q (by omega))
    have HE4:=Lib.hid e4
    clear hf hhp hb hms hmne hlm hm htm hpl hlen hml hq e4 hpp hzz
    go_upto_region 4 with (fail)
    go_quiet ((go_at_call 105;exact Calls.quiet_of_same (HHQ.out _)))
    obtain ⟨Y,hY⟩:∃ Y,W1.drewN nq=Y:=⟨_,rfl⟩
    have HBY:=Lib.hid (show Below w.heap.size w Y by rw [← hY];exact below_drewn HBW.out _)
    have HSX:=Lib.hid (HS.out.below HBY.out)
    try rw [hY]
    clear hY y0 y1 ymi
    have HD:=Lib.hid (HSX.out.below ((Below.refl _ Y).drew))
    have ytd:=blk_cell (v:=.slice A0 l.length c0) HD.out.blk 2 rfl
    have HLB:=Lib.hid (show sb+1≤Y.drew.heap.size from HSX.out.lt)
    have HKC:=Lib.hid (fun o=>show ((Y.drew).alloc o).cell? ⟨sb,0,none⟩=some (.string s)∧((Y.drew).alloc o).cell? ⟨sb,1,none⟩=some (.int .i64 p)∧((Y.drew).alloc o).cell? ⟨sb,2,none⟩=some (.slice A0 l.length c0) from by
     have h7:=HD.out.below ((Below.refl _ Y.drew).alloc (Nat.le_refl _) o)
     exact ⟨blk_cell (v:=.string s) h7.blk 0 rfl,blk_cell (v:=.int .i64 p) h7.blk 1 rfl,blk_cell (v:=.slice A0 l.length c0) h7.blk 2 rfl⟩)
    have yta:((Y.alloc (.cells #[.int .i64 6,.string tm,.int .i64 p] 48)).drew).cell? ⟨sb,2,none⟩=some (.slice A0 l.length c0):=(HKC.out (.cells #[.int .i64 6,.string tm,.int .i64 p] 48)).2.2
    have HKD:=Lib.hid (show Y.drew.cell? ⟨sb,0,none⟩=some (.string s)∧Y.drew.cell? ⟨sb,1,none⟩=some (.int .i64 p) from ⟨blk_cell (v:=.string s) HD.out.blk 0 rfl,blk_cell (v:=.int .i64 p) HD.out.blk 1 rfl⟩)
    go_upto_region 5 with (fail)
    refine wp_region_held_drew (S:=fun w9=>w9.cell? ⟨sb,0,none⟩=some (.string s)∧w9.cell? ⟨sb,1,none⟩=some (.int .i64 p)) (by kernel_rfl) ?_ (fun hHeld=>?_)
    ·(try dsimp only);exact HKD.out
    refine wpAnyH_take (i:=0) (oi:=⟨some 22,_,_,_,_,_⟩) (v:=?_) rfl (by kernel_rfl) (by kernel_rfl) (by kernel_rfl) (fun _ _ _ h=>h) (Or.inl ⟨by rfl,?_⟩) (by assumption) ?_
    rotate_left
    ·intro w hSw;(try dsimp only at hSw);go_simp;try with_reducible rfl
    try simp only [Act.put,List.setIfInBounds_toArray,List.set_cons_zero,List.set_cons_succ]
    refine wpAnyH_take (i:=1) (oi:=⟨some 23,_,_,_,_,_⟩) (v:=?_) rfl (by kernel_rfl) (by kernel_rfl) (by kernel_rfl) (fun _ _ _ h=>h) (Or.inl ⟨by rfl,?_⟩) (by assumption) ?_
    rotate_left
    ·intro w hSw;(try dsimp only at hSw);go_simp;try with_reducible rfl
    try simp only [Act.put,List.setIfInBounds_toArray,List.set_cons_zero,List.set_cons_succ]
    refine wpAnyH_take (i:=2) (oi:=⟨some 24,_,_,_,_,_⟩) (v:=?_) rfl (by kernel_rfl) (by kernel_rfl) (by kernel_rfl) (fun _ _ _ h=>h) (Or.inl ⟨by rfl,?_⟩) (by assumption) ?_
    rotate_left
    ·intro w hSw;(try dsimp only at hSw);go_simp;try with_reducible rfl
    try simp only [Act.put,List.setIfInBounds_toArray,List.set_cons_zero,List.set_cons_succ]
    refine wpAnyH_take (i:=3) (oi:=⟨some 25,_,_,_,_,_⟩) (v:=?_) rfl (by kernel_rfl) (by kernel_rfl) (by kernel_rfl) (fun _ _ _ h=>h) (Or.inl ⟨by rfl,?_⟩) (by assumption) ?_
    rotate_left
    ·intro w hSw;(try dsimp only at hSw);go_simp;try with_reducible rfl
    try simp only [Act.put,List.setIfInBounds_toArray,List.set_cons_zero,List.set_cons_succ]
    refine wpAnyH_take (i:=5) (oi:=⟨some 27,_,_,_,_,_⟩) (v:=?_) rfl (by kernel_rfl) (by kernel_rfl) (by kernel_rfl) (fun _ _ _ h=>h) (Or.inl ⟨by rfl,?_⟩) (by assumption) ?_
    rotate_left
    ·intro w hSw;(try dsimp only at hSw);go_simp;try with_reducible rfl
    try simp only [Act.put,List.setIfInBounds_toArray,List.set_cons_zero,List.set_cons_succ]
    refine wpAnyH_take (i:=6) (oi:=⟨some 28,_,_,_,_,_⟩) (v:=?_) rfl (by kernel_rfl) (by kernel_rfl) (by kernel_rfl) (fun _ _ _ h=>h) (Or.inl ⟨by rfl,?_⟩) (by assumption) ?_
    rotate_left
    ·intro w hSw;(try dsimp only at hSw);go_simp;try with_reducible rfl
    try simp only [Act.put,List.setIfInBounds_toArray,List.set_cons_zero,List.set_cons_succ]
    refine wpAnyH_take (i:=7) (oi:=⟨some 29,_,_,_,_,_⟩) (v:=?_) rfl (by kernel_rfl) (by kernel_rfl) (by kernel_rfl) (fun _ _ _ h=>h) (Or.inl ⟨by rfl,?_⟩) (by assumption) ?_
    rotate_left
    ·intro w hSw;(try dsimp only at hSw);go_simp;try with_reducible rfl
    try simp only [Act.put,List.setIfInBounds_toArray,List.set_cons_zero,List.set_cons_succ]
    refine wpAnyH_take (i:=8) (oi:=⟨some 30,_,_,_,_,_⟩) (v:=?_) rfl (by kernel_rfl) (by kernel_rfl) (by kernel_rfl) (fun _ _ _ h=>h) (Or.inl ⟨by rfl,?_⟩) (by assumption) ?_
    rotate_left
    ·intro w hSw;(try dsimp only at hSw);go_simp;try with_reducible rfl
    try simp only [Act.put,List.setIfInBounds_toArray,List.set_cons_zero,List.set_cons_succ]
    refine wpAnyH_take (i:=9) (oi:=⟨some 31,_,_,_,_,_⟩) (v:=?_) rfl (by kernel_rfl) (by kernel_rfl) (by kernel_rfl) (fun _ _ _ h=>h) (Or.inl ⟨by rfl,?_⟩) (by assumption) ?_
    rotate_left
    ·intro w hSw;(try dsimp only at hSw);go_simp;try with_reducible rfl
    try simp only [Act.put,List.setIfInBounds_toArray,List.set_cons_zero,List.set_cons_succ]
    refine wpAnyH_take (i:=10) (oi:=⟨some 32,_,_,_,_,_⟩) (v:=?_) rfl (by kernel_rfl) (by kernel_rfl) (by kernel_rfl) (fun _ _ _ h=>h) (Or.inl ⟨by rfl,?_⟩) (by assumption) ?_
    rotate_left
    ·intro w hSw;(try dsimp only at hSw);go_simp;try with_reducible rfl
    try simp only [Act.put,List.setIfInBounds_toArray,List.set_cons_zero,List.set_cons_succ]
    refine wpAnyH_ready (rs:=[4,11]) (by kernel_rfl) (by simp) ?_
    refine AllReadyH.cons rfl (fun K hK=>?_) (AllReadyH.cons rfl (fun K hK=>?_) AllReadyH.nil)
    go_simp
    refine hK.out _ _ ?_ (fun hH2=>?_)
    ·(try dsimp only);exact HKD.out
    clear hK K hHeld
    have hHeld:=hH2
    clear hH2
    refine wpAnyH_ready (rs:=[11]) (by kernel_rfl) (by simp) ?_
    refine AllReadyH.cons rfl (fun K hK=>?_) AllReadyH.nil
    go_simp
    refine hK.out _ _ ?_ (fun hH2=>?_)
    ·(try dsimp only);exact ⟨(HKC.out _).1,(HKC.out _).2.1⟩
    clear hK K hHeld
    have hHeld:=hH2
    clear hH2
    refine wpAnyH_ready (rs:=[12]) (by kernel_rfl) (by simp) ?_
    refine AllReadyH.cons rfl (fun K hK=>?_) AllReadyH.nil
    refine Kd.R_append_step k48 (w0:=Y.drew) (sb+1) (by rfl) (.tmp 26) (.tmp 33) 40 48 (.agg #[.int .i64 0,.string ⟨#[]⟩,.int .i64 0]) 32 rfl Tryz.underlying40 info_tk rfl (by decide) (by decide) (.slice A0 l.length c0) l (⟨6,tm,p⟩:S48) [.int .i64 6,.string tm,.int .i64 p] (fun k=>sb<k) (fun _=>False) rfl rfl (k48_mkM _ _ _ ⟨6,tm,p⟩) (fun _ hk=>hk.elim) (fun k hk=>Nat.lt_of_lt_of_le HLB.out hk) HD.out.rt (Below.refl _ _) HLB.out HLL.out ?_
    intro v3 w3 hs3 hb3 hg3 hat3
    obtain ⟨A9,c9,rfl⟩:=Kd.R_slice hs3
    rw [List.length_append,List.length_singleton] at hs3
    have hbk3:=(hb3.block sb (Nat.lt_succ_self _)).trans HD.out.blk
    have z0:=blk_cell (v:=.string s) hbk3 0 rfl
    have z1:=blk_cell (v:=.int .i64 p) hbk3 1 rfl
    have y3:=blk_cell (v:=.slice A0 l.length c0) hbk3 2 rfl
    have f3:=blk_free hbk3 2
    have HS3:=Lib.hid hs3
    have HB3:=Lib.hid hb3
    have HG3:=Lib.hid hg3
    have HBK3:=Lib.hid hbk3
    clear hs3 hb3 hg3 hat3 hbk3
    refine hK.out _ _ ?_ (fun hH2=>?_)
    ·(try dsimp only);exact ⟨z0,z1⟩
    clear hK K hHeld
    have hHeld:=hH2
    clear hH2
    refine wpAnyH_take (i:=13) (oi:=⟨some 35,_,_,_,_,_⟩) (v:=?_) rfl (by kernel_rfl) (by kernel_rfl) (by kernel_rfl) (fun _ _ _ h=>h) (Or.inl ⟨by rfl,?_⟩) (by assumption) ?_
    rotate_left
    ·intro w hSw;(try dsimp only at hSw);go_simp;try with_reducible rfl
    try simp only [Act.put,List.setIfInBounds_toArray,List.set_cons_zero,List.set_cons_succ]
    refine wpAnyH_take (i:=14) (oi:=⟨some 36,_,_,_,_,_⟩) (v:=?_) rfl (by kernel_rfl) (by kernel_rfl) (by kernel_rfl) (fun _ _ _ h=>h) (Or.inl ⟨by rfl,?_⟩) (by assumption) ?_
    rotate_left
    ·intro w hSw;(try dsimp only at hSw);go_simp;try with_reducible rfl
    try simp only [Act.put,List.setIfInBounds_toArray,List.set_cons_zero,List.set_cons_succ]
    refine wpAnyH_ready (rs:=[15]) (by kernel_rfl) (by simp) ?_
    refine AllReadyH.cons rfl (fun K hK=>?_) AllReadyH.nil
    go_simp
    refine hK.out _ _ ?_ (fun hH2=>?_)
    ·(try dsimp only);exact ⟨(World.cell?_setCell_other _ _ _ _ (by simp)).trans (blk_cell (v:=.string s) HBK3.out 0 rfl),(World.cell?_setCell_other _ _ _ _ (by simp)).trans (blk_cell (v:=.int .i64 p) HBK3.out 1 rfl)⟩
    clear hK K hHeld
    have hHeld:=hH2
    clear hH2
    refine wpAnyH_done (by kernel_rfl) ?_ _
    rotate_left
    go_simp
    refine hK.out _ _ ?_ (fun hH2=>?_)
    ·(try dsimp only);exact ⟨(HKC.out _).1,(HKC.out _).2.1⟩
    clear hK K hHeld
    have hHeld:=hH2
    clear hH2
    refine wpAnyH_ready (rs:=[4]) (by kernel_rfl) (by simp) ?_
    refine AllReadyH.cons rfl (fun K hK=>?_) AllReadyH.nil
    go_simp
    refine hK.out _ _ ?_ (fun hH2=>?_)
    ·(try dsimp only);exact ⟨(HKC.out _).1,(HKC.out _).2.1⟩
    clear hK K hHeld
    have hHeld:=hH2
    clear hH2
    refine wpAnyH_ready (rs:=[12]) (by kernel_rfl) (by simp) ?_
    refine AllReadyH.cons rfl (fun K hK=>?_) AllReadyH.nil
    refine Kd.R_append_step k48 (w0:=Y.drew) (sb+1) (by rfl) (.tmp 26) (.tmp 33) 40 48 (.agg #[.int .i64 0,.string ⟨#[]⟩,.int .i64 0]) 32 rfl Tryz.underlying40 info_tk rfl (by decide) (by decide) (.slice A0 l.length c0) l (⟨6,tm,p⟩:S48) [.int .i64 6,.string tm,.int .i64 p] (fun k=>sb<k) (fun _=>False) rfl rfl (k48_mkM _ _ _ ⟨6,tm,p⟩) (fun _ hk=>hk.elim) (fun k hk=>Nat.lt_of_lt_of_le HLB.out hk) HD.out.rt (Below.refl _ _) HLB.out HLL.out ?_
    intro v3 w3 hs3 hb3 hg3 hat3
    obtain ⟨A9,c9,rfl⟩:=Kd.R_slice hs3
    rw [List.length_append,List.length_singleton] at hs3
    have hbk3:=(hb3.block sb (Nat.lt_succ_self _)).trans HD.out.blk
    have z0:=blk_cell (v:=.string s) hbk3 0 rfl
    have z1:=blk_cell (v:=.int .i64 p) hbk3 1 rfl
    have y3:=blk_cell (v:=.slice A0 l.length c0) hbk3 2 rfl
    have f3:=blk_free hbk3 2
    have HS3:=Lib.hid hs3
    have HB3:=Lib.hid hb3
    have HG3:=Lib.hid hg3
    have HBK3:=Lib.hid hbk3
    clear hs3 hb3 hg3 hat3 hbk3
    refine hK.out _ _ ?_ (fun hH2=>?_)
    ·(try dsimp only);exact ⟨z0,z1⟩
    clear hK K hHeld
    have hHeld:=hH2
    clear hH2
    refine wpAnyH_take (i:=13) (oi:=⟨some 35,_,_,_,_,_⟩) (v:=?_) rfl (by kernel_rfl) (by kernel_rfl) (by kernel_rfl) (fun _ _ _ h=>h) (Or.inl ⟨by rfl,?_⟩) (by assumption) ?_
    rotate_left
    ·intro w hSw;(try dsimp only at hSw);go_simp;try with_reducible rfl
    try simp only [Act.put,List.setIfInBounds_toArray,List.set_cons_zero,List.set_cons_succ]
    refine wpAnyH_take (i:=14) (oi:=⟨some 36,_,_,_,_,_⟩) (v:=?_) rfl (by kernel_rfl) (by kernel_rfl) (by kernel_rfl) (fun _ _ _ h=>h) (Or.inl ⟨by rfl,?_⟩) (by assumption) ?_
    rotate_left
    ·intro w hSw;(try dsimp only at hSw);go_simp;try with_reducible rfl
    try simp only [Act.put,List.setIfInBounds_toArray,List.set_cons_zero,List.set_cons_succ]
    refine wpAnyH_ready (rs:=[15]) (by kernel_rfl) (by simp) ?_
    refine AllReadyH.cons rfl (fun K hK=>?_) AllReadyH.nil
    go_simp
    refine hK.out _ _ ?_ (fun hH2=>?_)
    ·(try dsimp only);exact ⟨(World.cell?_setCell_other _ _ _ _ (by simp)).trans (blk_cell (v:=.string s) HBK3.out 0 rfl),(World.cell?_setCell_other _ _ _ _ (by simp)).trans (blk_cell (v:=.int .i64 p) HBK3.out 1 rfl)⟩
    clear hK K hHeld
    have hHeld:=hH2
    clear hH2
    refine wpAnyH_done (by kernel_rfl) ?_ _
    all_goals
     have HPP:=Lib.hid (HD.out.pushed HS3.out HB3.out HG3.out q HQ.out.1 HQ.out.2)
     obtain ⟨Z,hZ⟩:∃ Z,w3.setCell ⟨sb,2,none⟩ (.slice A9 (l.length+1) c9)=Z:=⟨_,rfl⟩
     have y1:Z.cell? ⟨sb,1,none⟩=some (.int .i64 p):=by rw [← hZ];exact (World.cell?_setCell_other _ _ _ _ (by simp)).trans (blk_cell (v:=.int .i64 p) HBK3.out 1 rfl)
     have g1:Z.frozen? ⟨sb,1,none⟩=false:=by rw [← hZ,World.frozen?_setCell];exact blk_free HBK3.out 1
     rw [hZ] at HPP
     try rw [hZ]
     clear hZ ytd yta z0 z1 y3 hHeld HS3 HB3 HG3 HBK3
     have hkw:Keep (sF sb) w Y.drew:=Keep.of_below (HBY.out.drew)
     have HKW:=Lib.hid (hkw.trans HPP.out.2 (fun _ _ h=>h))
     clear hkw
     have e4:=HE4.out
     obtain ⟨u7,u8⟩:=U7.out
     go_wp2_with fail
     go_ret
     rw [HFF.out]
     exact ⟨_,_,rfl,HPP.out.1,HKW.out⟩
  ·have HFF:=Lib.hid (show st=.no 41 p by rw [hf,List.drop_eq_nil_of_le (by show 21≤i;omega)];rfl)
   have x3:decide ((i:Int)<21)=false:=decide_eq_false (by omega)
   have y1:=blk_cell (v:=.int .i64 p) HSW.out.blk 1 rfl
   clear hf
   go_wp2_with (first | (go_at_call 51;((with_reducible refine (fail_calls sb s p l rm er pl _ rv 41 p _ HSW.out).mono ?_);rintro e w8 ⟨rfl,hs8,hk8⟩)))
   go_ret
   rw [HFF.out]
   exact Dn.behind ⟨_,_,rfl,hs8,hk8⟩ HBW.out
end Go.Proofs.YtcakgennlliejaaGreatDoor
