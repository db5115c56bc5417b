import Derived.Deep.RegionHeldLaw
import Derived.Test.YtcakgennlliejaaGreatDoorSynK22
set_option maxHeartbeats 8000000
set_option maxRecDepth 100000
namespace Go.Proofs.YtcakgennlliejaaGreatDoor
open Go.Shelf Go.RowKit Go.Lib
open Go.Proofs.YtcakgennlliejaaGreatDoorW.PrintWords
open Go.Proofs.YtcakgennlliejaaGreatDoor.PSyntaxJoined
open Sx
set_option linter.unusedVariables false
set_option linter.unusedSimpArgs false
theorem Sx.cls_eq (c:Nat):Sx.cls c=if c=9∨c=10∨c=13∨c=32 then 1 else if 97≤c∧c≤122 then 2 else if 65≤c∧c≤90 then 3 else if 48≤c∧c≤57 then 4 else if c=95 then 5 else 0:=rfl
theorem Sx.cls_one (c:Nat):(cls c==1)=decide (c=9∨c=10∨c=13∨c=32):=by
 rw [cls_eq]
 by_cases h1:c=9∨c=10∨c=13∨c=32
 ·rw [if_pos h1,decide_eq_true h1];rfl
 ·rw [if_neg h1,decide_eq_false h1]
  repeat' split
  all_goals rfl
theorem Sx.cls_two (c:Nat):(cls c==2)=decide (97≤c∧c≤122):=by
 rw [cls_eq]
 by_cases h1:97≤c∧c≤122
 ·rw [if_neg (by omega),if_pos h1,decide_eq_true h1];rfl
 ·rw [if_neg h1,decide_eq_false h1]
  repeat' split
  all_goals rfl
theorem Sx.cls_three (c:Nat):(cls c==3)=decide (65≤c∧c≤90):=by
 rw [cls_eq]
 by_cases h1:65≤c∧c≤90
 ·rw [if_neg (by omega),if_neg (by omega),if_pos h1,decide_eq_true h1];rfl
 ·rw [if_neg h1,decide_eq_false h1]
  repeat' split
  all_goals rfl
theorem Sx.cls_four (c:Nat):(cls c==4)=decide (48≤c∧c≤57):=by
 rw [cls_eq]
 by_cases h1:48≤c∧c≤57
 ·rw [if_neg (by omega),if_neg (by omega),if_neg (by omega),if_pos h1,decide_eq_true h1];rfl
 ·rw [if_neg h1,decide_eq_false h1]
  repeat' split
  all_goals rfl
theorem Sx.cls_five (c:Nat):(cls c==5)=decide (c=95):=by
 rw [cls_eq]
 by_cases h1:c=95
 ·rw [if_neg (by omega),if_neg (by omega),if_neg (by omega),if_neg (by omega),if_pos h1,decide_eq_true h1];rfl
 ·rw [if_neg h1,decide_eq_false h1]
  repeat' split
  all_goals rfl
set_option maxRecDepth 100000 in
theorem rsmall_calls (c:Nat) (w:World):Calls Tryz.prog 67 #[.int .u8 c] w fun e w'=>e=.returned (.bool (Sx.cls c==2))∧w=w':=by
 rw [Sx.cls_two]
 by_cases h1:97≤c
 ·have a1:decide ((97:Int)≤(c:Int))=true:=decide_eq_true (by omega)
  have a2:decide (97≤c)=true:=decide_eq_true h1
  by_cases h2:c≤122
  ·have HF:=Lib.hid (show decide (97≤c∧c≤122)=true from decide_eq_true ⟨h1,h2⟩)
   have a3:decide ((c:Int)≤(122:Int))=true:=decide_eq_true (by omega)
   have a4:decide (c≤122)=true:=decide_eq_true h2
   clear h1 h2
   go_enter Tryz.func67,Tryz.ntmps67
   go_wp2_with fail
   go_ret
   exact ⟨by rw [HF.out];try rfl,rfl⟩
  ·have HF:=Lib.hid (show decide (97≤c∧c≤122)=false from decide_eq_false (by omega))
   have a3:decide ((c:Int)≤(122:Int))=false:=decide_eq_false (by omega)
   have a4:decide (c≤122)=false:=decide_eq_false h2
   clear h1 h2
   go_enter Tryz.func67,Tryz.ntmps67
   go_wp2_with fail
   go_ret
   exact ⟨by rw [HF.out];try rfl,rfl⟩
 ·have HF:=Lib.hid (show decide (97≤c∧c≤122)=false from decide_eq_false (by omega))
  have a1:decide ((97:Int)≤(c:Int))=false:=decide_eq_false (by omega)
  have a2:decide (97≤c)=false:=decide_eq_false h1
  clear h1
  go_enter Tryz.func67,Tryz.ntmps67
  go_wp2_with fail
  go_ret
  exact ⟨by rw [HF.out];try rfl,rfl⟩
set_option maxRecDepth 100000 in
theorem rcap_calls (c:Nat) (w:World):Calls Tryz.prog 68 #[.int .u8 c] w fun e w'=>e=.returned (.bool (Sx.cls c==3))∧w=w':=by
 rw [Sx.cls_three]
 by_cases h1:65≤c
 ·have a1:decide ((65:Int)≤(c:Int))=true:=decide_eq_true (by omega)
  have a2:decide (65≤c)=true:=decide_eq_true h1
  by_cases h2:c≤90
  ·have HF:=Lib.hid (show decide (65≤c∧c≤90)=true from decide_eq_true ⟨h1,h2⟩)
   have a3:decide ((c:Int)≤(90:Int))=true:=decide_eq_true (by omega)
   have a4:decide (c≤90)=true:=decide_eq_true h2
   clear h1 h2
   go_enter Tryz.func68,Tryz.ntmps68
   go_wp2_with fail
   go_ret
   exact ⟨by rw [HF.out];try rfl,rfl⟩
  ·have HF:=Lib.hid (show decide (65≤c∧c≤90)=false from decide_eq_false (by omega))
   have a3:decide ((c:Int)≤(90:Int))=false:=decide_eq_false (by omega)
   have a4:decide (c≤90)=false:=decide_eq_false h2
   clear h1 h2
   go_enter Tryz.func68,Tryz.ntmps68
   go_wp2_with fail
   go_ret
   exact ⟨by rw [HF.out];try rfl,rfl⟩
 ·have HF:=Lib.hid (show decide (65≤c∧c≤90)=false from decide_eq_false (by omega))
  have a1:decide ((65:Int)≤(c:Int))=false:=decide_eq_false (by omega)
  have a2:decide (65≤c)=false:=decide_eq_false h1
  clear h1
  go_enter Tryz.func68,Tryz.ntmps68
  go_wp2_with fail
  go_ret
  exact ⟨by rw [HF.out];try rfl,rfl⟩
set_option maxRecDepth 100000 in
theorem rdig_calls (c:Nat) (w:World):Calls Tryz.prog 66 #[.int .u8 c] w fun e w'=>e=.returned (.bool (Sx.cls c==4))∧w=w':=by
 rw [Sx.cls_four]
 by_cases h1:48≤c
 ·have a1:decide ((48:Int)≤(c:Int))=true:=decide_eq_true (by omega)
  have a2:decide (48≤c)=true:=decide_eq_true h1
  by_cases h2:c≤57
  ·have HF:=Lib.hid (show decide (48≤c∧c≤57)=true from decide_eq_true ⟨h1,h2⟩)
   have a3:decide ((c:Int)≤(57:Int))=true:=decide_eq_true (by omega)
   have a4:decide (c≤57)=true:=decide_eq_true h2
   clear h1 h2
   go_enter Tryz.func66,Tryz.ntmps66
   go_wp2_with fail
   go_ret
   exact ⟨by rw [HF.out];try rfl,rfl⟩
  ·have HF:=Lib.hid (show decide (48≤c∧c≤57)=false from decide_eq_false (by omega))
   have a3:decide ((c:Int)≤(57:Int))=false:=decide_eq_false (by omega)
   have a4:decide (c≤57)=false:=decide_eq_false h2
   clear h1 h2
   go_enter Tryz.func66,Tryz.ntmps66
   go_wp2_with fail
   go_ret
   exact ⟨by rw [HF.out];try rfl,rfl⟩
 ·have HF:=Lib.hid (show decide (48≤c∧c≤57)=false from decide_eq_false (by omega))
  have a1:decide ((48:Int)≤(c:Int))=false:=decide_eq_false (by omega)
  have a2:decide (48≤c)=false:=decide_eq_false h1
  clear h1
  go_enter Tryz.func66,Tryz.ntmps66
  go_wp2_with fail
  go_ret
  exact ⟨by rw [HF.out];try rfl,rfl⟩
theorem rblank_calls (c:Nat) (w:World):Calls Tryz.prog 46 #[.int .u8 c] w fun e w'=>e=.returned (.bool (Sx.cls c==1))∧w=w':=by
 rw [Sx.cls_one]
 by_cases h:c=9∨c=10∨c=13∨c=32
 ·rcases h with rfl | rfl | rfl | rfl
  all_goals
   go_enter Tryz.func46,Tryz.ntmps46
   go_wp2_with fail
   go_ret
   first | exact ⟨rfl,rfl⟩ | exact ⟨by simp,rfl⟩
 ·have HF:=Lib.hid (show decide (c=9∨c=10∨c=13∨c=32)=false from decide_eq_false h)
  have a1:((c:Int)==9)=false:=by simp only [beq_eq_false_iff_ne,ne_eq];omega
  have a2:(c==9)=false:=by simp only [beq_eq_false_iff_ne,ne_eq];omega
  have a3:((c:Int)==10)=false:=by simp only [beq_eq_false_iff_ne,ne_eq];omega
  have a4:(c==10)=false:=by simp only [beq_eq_false_iff_ne,ne_eq];omega
  have a5:((c:Int)==13)=false:=by simp only [beq_eq_false_iff_ne,ne_eq];omega
  have a6:(c==13)=false:=by simp only [beq_eq_false_iff_ne,ne_eq];omega
  have a7:((c:Int)==32)=false:=by simp only [beq_eq_false_iff_ne,ne_eq];omega
  have a8:(c==32)=false:=by simp only [beq_eq_false_iff_ne,ne_eq];omega
  clear h
  go_enter Tryz.func46,Tryz.ntmps46
  go_wp2_with fail
  go_ret
  exact ⟨by rw [HF.out];try rfl,rfl⟩
theorem Sx.isVr_eq (k:Int):isVr k=(k==2||k==3||k==4||k==5):=by
 unfold isVr isNm
 cases (k==2) <;> cases (k==3) <;> cases (k==4) <;> cases (k==5) <;> rfl
theorem rword_calls (c:Nat) (w:World):Calls Tryz.prog 69 #[.int .u8 c] w fun e w'=>e=.returned (.bool (Sx.isVr (Sx.cls c)))∧w=w':=by
 have H2:=Lib.hid (rsmall_calls c w)
 have H3:=Lib.hid (rcap_calls c w)
 have H4:=Lib.hid (rdig_calls c w)
 rw [Sx.isVr_eq]
 have hn:∃ d5,(Sx.cls c==5)=d5∧((c:Int)==95)=d5∧(c==95)=d5:=by
  rw [Sx.cls_five]
  by_cases h:c=95
  ·exact ⟨true,by simp [h],by simp [h],by simp [h]⟩
  ·exact ⟨false,by simp [h],by simp only [beq_eq_false_iff_ne,ne_eq];omega,by simp [h]⟩
 obtain ⟨d5,g0,g1,g2⟩:=hn
 rw [g0]
 clear g0
 generalize (Sx.cls c==2)=d2 at *
 generalize (Sx.cls c==3)=d3 at *
 generalize (Sx.cls c==4)=d4 at *
 cases d2 <;> cases d3 <;> cases d4 <;> cases d5
 all_goals
  go_enter Tryz.func69,Tryz.ntmps69
  go_wp2_with (first | (go_at_call 67;((with_reducible refine H2.out.mono ?_);rintro e w4 ⟨rfl,rfl⟩)) | (go_at_call 68;((with_reducible refine H3.out.mono ?_);rintro e w4 ⟨rfl,rfl⟩)) | (go_at_call 66;((with_reducible refine H4.out.mono ?_);rintro e w4 ⟨rfl,rfl⟩)))
  go_ret
  exact ⟨rfl,rfl⟩
theorem rdate_calls (s:ByteArray) (p:Nat) (hp:p≤s.size) (hz:s.size≤65536) (w:World):Calls Tryz.prog 65 #[.string s,.int .i64 p] w fun e w'=>e=.returned (.bool (datedL (tl s p)))∧w=w':=by
 obtain ⟨F,hF⟩:∃ F,datedL (tl s p)=F:=⟨_,rfl⟩
 rw [hF]
 have htl:=tl_len s p
 obtain ⟨p10,hp10⟩:∃ q,p+10=q:=⟨_,rfl⟩
 have e10:(p:Int)+10=(p10:Int):=by omega
 have HZ:=Lib.hid hz
 by_cases h10:p10≤s.size
 ·have z1:decide ((s.size:Int)<(p10:Int))=false:=decide_eq_false (by omega)
  have z2:decide (s.size<p10)=false:=decide_eq_false (by omega)
  have HF:=Lib.hid hF
  have HP:=Lib.hid (show p+10≤s.size by omega)
  have U:=Lib.hid (w64 p10 (by omega))
  clear hF htl hp10 hp hz h10
  obtain ⟨u1,u2⟩:=U.out
  go_enter Tryz.func65,Tryz.ntmps65
  go_wp2_with fail
  go_loop [5] (fun u5=>∃ i:Nat,u5=.int .i64 i∧i≤10∧F=datF (10-i) (tl s (p+i))) (fun u5=>10-(RowKit.intOf u5).toNat)
  case atStart=>exact ⟨0,rfl,by omega,HF.out.symm⟩
  case round =>
   obtain ⟨i,rfl,hi,hf⟩:=hrel
   by_cases hlt:i<10
   ·obtain ⟨j,hj⟩:∃ j,p+i=j:=⟨_,rfl⟩
    have hzz:=HZ.out
    have hpp:=HP.out
    have hs:j<s.size:=by omega
    have ej:(p:Int)+(i:Int)=(j:Int):=by omega
    have U2:=Lib.hid (w64 j (by omega))
    obtain ⟨n,hn⟩:∃ n,10-i=n+1:=⟨9-i,by omega⟩
    rw [hn,hj,tl_cons hs,datF_cons] at hf
    have hn2:10-(i+1)=n:=by omega
    have hj2:p+(i+1)=j+1:=by omega
    have x1:decide ((i:Int)<10)=true:=decide_eq_true (by omega)
    have x2:(j:Int)<(s.size:Int):=by omega
    have x3:(0:Int)≤(j:Int):=by omega
    have x4:(i:Int)<10:=by omega
    have x6:(0:Int)≤(i:Int):=by omega
    by_cases hi4:i=4∨i=7
    ·have hc:(if n=5∨n=2 then s[j]==45 else dg8 s[j])=(s[j]==45):=if_pos (by omega)
     rw [hc] at hf
     have e47:(((i:Int)==4)=true∧(i==4)=true)∨(((i:Int)==4)=false∧(i==4)=false∧((i:Int)==7)=true∧(i==7)=true):=by
      rcases hi4 with rfl | rfl
      ·exact .inl ⟨rfl,rfl⟩
      ·exact .inr ⟨rfl,rfl,rfl,rfl⟩
     cases hb:(s[j]==(45:UInt8))
     ·have hne:(((s[j]).toNat:Int) != 45)=true:=by
       have h1:s[j]≠45:=by simpa using hb
       simp only [bne_iff_ne,ne_eq]
       intro h2
       exact h1 (UInt8.toNat_inj.1 (by show (s[j]).toNat=45;omega))
      have HFF:=Lib.hid (show F=false by rw [hf,hb];rfl)
      clear hf hb hc hn hn2 hj2 hi4 hlt hj hpp hzz
      obtain ⟨u3,u4⟩:=U2.out
      rcases e47 with ⟨g1,g2⟩ | ⟨g1,g2,g3,g4⟩
      all_goals
       go_wp2_with fail
       go_ret
       exact ⟨by rw [HFF.out];try rfl,rfl⟩
     ·have hne:(((s[j]).toNat:Int) != 45)=false:=by
       have h1:s[j]=45:=by simpa using hb
       rw [h1];rfl
      have HFF:=Lib.hid (show F=datF (10-(i+1)) (tl s (p+(i+1))) by rw [hf,hb,hn2,hj2];rfl)
      clear hf hb hc hn hn2 hj2 hi4 hlt hj hpp hzz
      obtain ⟨u3,u4⟩:=U2.out
      rcases e47 with ⟨g1,g2⟩ | ⟨g1,g2,g3,g4⟩
      all_goals
       go_wp2_with fail
       clear u3 u4 u1 u2
       go_round
       case rel=>exact ⟨i+1,rfl,by omega,HFF.out⟩
       case measure=>simp [RowKit.intOf];omega
    ·have hc:(if n=5∨n=2 then s[j]==45 else dg8 s[j])=dg8 s[j]:=if_neg (by omega)
     rw [hc] at hf
     have g1:((i:Int)==4)=false:=by simp only [beq_eq_false_iff_ne,ne_eq];omega
     have g2:(i==4)=false:=by simp only [beq_eq_false_iff_ne,ne_eq];omega
     have g3:((i:Int)==7)=false:=by simp only [beq_eq_false_iff_ne,ne_eq];omega
     have g4:(i==7)=false:=by simp only [beq_eq_false_iff_ne,ne_eq];omega
     cases hb:dg8 s[j]
     ·have hne:(cls (s[j]).toNat==4)=false:=hb
      have HNE:=Lib.hid hne
      have HFF:=Lib.hid (show F=false by rw [hf,hb];rfl)
      clear hf hb hc hn hn2 hj2 hi4 hlt hj hpp hzz hne
      obtain ⟨u3,u4⟩:=U2.out
      go_wp2_with (first | (go_at_call 66;((with_reducible refine (rdig_calls _ _).mono ?_);rw [HNE.out];rintro e w6 ⟨rfl,rfl⟩)))
      go_ret
      exact ⟨by rw [HFF.out];try rfl,rfl⟩
     ·have hne:(cls (s[j]).toNat==4)=true:=hb
      have HNE:=Lib.hid hne
      have HFF:=Lib.hid (show F=datF (10-(i+1)) (tl s (p+(i+1))) by rw [hf,hb,hn2,hj2];rfl)
      clear hf hb hc hn hn2 hj2 hi4 hlt hj hpp hzz hne
      obtain ⟨u3,u4⟩:=U2.out
      go_wp2_with (first | (go_at_call 66;((with_reducible refine (rdig_calls _ _).mono ?_);rw [HNE.out];rintro e w6 ⟨rfl,rfl⟩)))
      clear u3 u4 u1 u2
      go_round
      case rel=>exact ⟨i+1,rfl,by omega,HFF.out⟩
      case measure=>simp [RowKit.intOf];omega
   ·have HFF:=Lib.hid (show F=true by rw [hf,show 10-i=0 by omega];rfl)
    have x1:decide ((i:Int)<10)=false:=decide_eq_false (by omega)
    clear hf hlt
    go_wp2_with fail
    go_ret
    exact ⟨by rw [HFF.out];try rfl,rfl⟩
 ·have z1:decide ((s.size:Int)<(p10:Int))=true:=decide_eq_true (by omega)
  have z2:decide (s.size<p10)=true:=decide_eq_true (by omega)
  have HF:=Lib.hid (show F=false by
   rw [← hF]
   cases h:datedL (tl s p) with
   | false=>rfl
   | true=>have h1:=datedL_len h;omega)
  have U:=Lib.hid (w64 p10 (by omega))
  clear hF htl hp10 hp hz h10
  obtain ⟨u1,u2⟩:=U.out
  go_enter Tryz.func65,Tryz.ntmps65
  go_wp2_with fail
  go_ret
  exact ⟨by rw [HF.out];try rfl,rfl⟩
theorem Sx.prefix_take:∀ {m l:List UInt8},m.isPrefixOf l=(l.take m.length==m)
 | [],l=>by cases l <;> rfl
 | a::m,[]=>rfl
 | a::m,b::l=>by
  show (a==b&&m.isPrefixOf l)=((b::l.take m.length)==(a::m))
  rw [prefix_take (m:=m) (l:=l)]
  show _=(b==a&&(l.take m.length==m))
  rw [Bool.beq_comm]
theorem rbegins_calls (s:ByteArray) (p:Nat) (m:ByteArray) (hp:p≤s.size) (hz:s.size≤65536) (hm:m.size≤16) (w:World):Calls Tryz.prog 71 #[.string s,.int .i64 p,.string m] w fun e w'=>e=.returned (.bool (m.data.toList.isPrefixOf (tl s p)))∧w=w':=by
 obtain ⟨F,hF⟩:∃ F,m.data.toList.isPrefixOf (tl s p)=F:=⟨_,rfl⟩
 rw [hF]
 have htl:=tl_len s p
 obtain ⟨q,hq⟩:∃ q,p+m.size=q:=⟨_,rfl⟩
 have eq1:(p:Int)+(m.size:Int)=(q:Int):=by omega
 have U:=Lib.hid (w64 q (by omega))
 by_cases h10:q≤s.size
 ·have z1:decide ((q:Int)≤(s.size:Int))=true:=decide_eq_true (by omega)
  have z2:decide (q≤s.size)=true:=decide_eq_true h10
  have HF:=Lib.hid (show ((s.extract p q).toList==m.toList)=F by
   rw [← hF,Sx.prefix_take,Lib.toList_data,Lib.toList_data,Sx.extract_eq]
   show (List.take (q-p) (s.data.toList.drop p)==m.data.toList)=(List.take m.data.toList.length (tl s p)==m.data.toList)
   rw [show q-p=m.data.toList.length by show q-p=m.size;omega]
   rfl)
  have b1:(0:Int)≤(p:Int):=by omega
  have b2:(p:Int)≤(q:Int):=by omega
  have b3:(q:Int)≤(s.size:Int):=by omega
  have b4:¬ ((q:Int)<(p:Int)):=by omega
  have b5:¬ ((s.size:Int)<(q:Int)):=by omega
  have b6:p≤q:=by omega
  clear hF htl hq hp hz hm h10
  obtain ⟨u1,u2⟩:=U.out
  go_enter Tryz.func71,Tryz.ntmps71
  go_wp2_with fail
  go_ret
  rw [← HF.out]
  exact ⟨by simp,rfl⟩
 ·have z1:decide ((q:Int)≤(s.size:Int))=false:=decide_eq_false (by omega)
  have z2:decide (q≤s.size)=false:=decide_eq_false h10
  have HF:=Lib.hid (show F=false by
   rw [← hF]
   cases h:m.data.toList.isPrefixOf (tl s p) with
   | false=>rfl
   | true=>have h1:=prefix_len h;have h2:m.data.toList.length=m.size:=rfl;omega)
  clear hF htl hq hp hz hm h10
  obtain ⟨u1,u2⟩:=U.out
  go_enter Tryz.func71,Tryz.ntmps71
  go_wp2_with fail
  go_ret
  exact ⟨by rw [HF.out];try rfl,rfl⟩
theorem results_four {fn:Func} {t u v x:Tmp} (h:fn.results=#[.tmp t,.tmp u,.tmp v,.tmp x]) (tmps:Array Value) (P:Program) (w:World) :
  (results fn tmps).run P w=.ok (.tuple #[tmps.getD t undef,tmps.getD u undef,tmps.getD v undef,tmps.getD x undef]) w:=by
 simp [results,h]
def Sx.OneIs:Stp→Int→Int→Int→Int→Prop
 | .tok t q,k,e,er,a=>k=t.f0∧e=q∧er=0∧a=0
 | .jam _ q,k,e,er,a=>k=0∧e=0∧er=41∧a=q
 | .no er0 a0,k,e,er,a=>k=0∧e=0∧er=er0∧a=a0
 | _,_,_,_,_=>False
def Sx.OneDone (st:Stp) (w:World) (e:Ending) (w':World):Prop:=∃ k en er a:Int,e=.returned (.tuple #[.int .i64 k,.int .i64 en,.int .i64 er,.int .i64 a])∧OneIs st k en er a∧Below w.heap.size w w'
theorem rmarks_calls (w:World):Calls Tryz.prog 70 #[] w fun e w'=>e=.returned (.slice (some ⟨w.heap.size,0,none⟩) 21 21)∧w'=w.alloc (.cells markCells.toArray 9):=by
 have HM:=Lib.hid (show markCells.toArray=#[.string ⟨#[45,62]⟩,.string ⟨#[61,62]⟩,.string ⟨#[126,62]⟩,.string ⟨#[33,61]⟩,.string ⟨#[60,61]⟩,.string ⟨#[62,61]⟩,.string ⟨#[61,61]⟩,.string ⟨#[60,62]⟩,.string ⟨#[60]⟩,.string ⟨#[62]⟩,.string ⟨#[40]⟩,.string ⟨#[41]⟩,.string ⟨#[123]⟩,.string ⟨#[125]⟩,.string ⟨#[44]⟩,.string ⟨#[46]⟩,.string ⟨#[58]⟩,.string ⟨#[61]⟩,.string ⟨#[45]⟩,.string ⟨#[43]⟩,.string ⟨#[42]⟩] from rfl)
 go_enter Tryz.func70,Tryz.ntmps70
 go_wp2_with fail
 go_ret
 exact ⟨rfl,by rw [HM.out]⟩
theorem rone_small (s:ByteArray) (p:Nat) (hp:p<s.size) (hz:s.size≤65536) (hc:cls (s[p]'hp).toNat=2) (w:World):Calls Tryz.prog 47 #[.string s,.int .i64 p] w (OneDone (Sx.step (tl s p) p) w):=by
 have hst:Sx.step (tl s p) p=Sx.step (s[p]'hp::tl s (p+1)) p:=by rw [← tl_cons hp]
 rw [Sx.step_cons,← tl_cons hp] at hst
 obtain ⟨st,hS⟩:∃ st,Sx.step (tl s p) p=st:=⟨_,rfl⟩
 rw [hS] at hst ⊢
 clear hS
 have HZ:=Lib.hid hz
 have HP:=Lib.hid hp
 have b1:(0:Int)≤(p:Int):=by omega
 have b2:(p:Int)<(s.size:Int):=by omega
 have HD:=Lib.hid (fun w=>rdate_calls s p (Nat.le_of_lt hp) hz w)
 have hw:st=wordS 1 isNm (tl s p) p:=by rw [hst];rw [if_neg (by rw [hc];decide),if_pos hc]
 have hg0:isNm (cls (s[p]'hp).toNat)=true:=by rw [hc];rfl
 obtain ⟨q,hq⟩:∃ q,runL isNm (tl s p) p=q:=⟨_,rfl⟩
 have hin:=runs_to s isNm p q (Nat.le_of_lt hp) hq
 have HPQ:=Lib.hid (And.intro (run_pos s isNm p q hp hg0 hq) hin.2)
 have HST:=Lib.hid (show st=if 32<q-p then .no 5 p else if jam s q then .jam ⟨1,s.extract p q,p⟩ q else .tok ⟨1,s.extract p q,p⟩ q by rw [hw,word_eq s 1 isNm p q hq,put_eq s 1 hin.1])
 have HQ:=Lib.hid hq
 have HDF:=Lib.hid (show datedL (tl s p)=false by
  rw [tl_cons hp]
  show (dg8 (s[p]'hp)&&datF 9 (tl s (p+1)))=false
  have h1:dg8 (s[p]'hp)=false:=by unfold dg8 isDig;rw [hc];rfl
  rw [h1];rfl)
 have HC4:=Lib.hid (show (cls (s[p]'hp).toNat==4)=false by rw [hc];rfl)
 have HC2:=Lib.hid (show (cls (s[p]'hp).toNat==2)=true by rw [hc];rfl)
 have HC3:=Lib.hid (show (cls (s[p]'hp).toNat==3)=false by rw [hc];rfl)
 clear hst hw hg0 hq hin hc hz
 go_enter Tryz.func47,Tryz.ntmps47
 go_wp2_with (first | (go_at_call 65;((with_reducible refine (HD.out _).mono ?_);rw [HDF.out];rintro e w4 ⟨rfl,rfl⟩)) | (go_at_call 66;((with_reducible refine (rdig_calls _ _).mono ?_);rw [HC4.out];rintro e w4 ⟨rfl,rfl⟩)) | (go_at_call 67;((with_reducible refine (rsmall_calls _ _).mono ?_);rw [HC2.out];rintro e w4 ⟨rfl,rfl⟩)) | (go_at_call 68;((with_reducible refine (rcap_calls _ _).mono ?_);rw [HC3.out];rintro e w4 ⟨rfl,rfl⟩)))
 go_loop [9] (fun u9=>∃ j:Nat,u9=.int .i64 j∧p≤j∧j≤s.size∧runL isNm (tl s j) j=q) (fun u9=>s.size-(RowKit.intOf u9).toNat)
 case atStart=>exact ⟨p,rfl,Nat.le_refl _,Nat.le_of_lt HP.out,HQ.out⟩
 case round =>
  obtain ⟨j,rfl,hpj,hjs,hj⟩:=hrel
  have hzz:=HZ.out
  have HPJ:=Lib.hid hpj
  have g1:(0:Int)≤(j:Int):=by omega
  have g2:(j:Int)≤65536:=by omega
  have g3:(p:Int)≤65536:=by omega
  by_cases hlt:j<s.size
  ·have z1:decide ((j:Int)<(s.size:Int))=true:=decide_eq_true (by omega)
   have z2:decide (j<s.size)=true:=decide_eq_true hlt
   have z3:(j:Int)<(s.size:Int):=by omega
   rw [tl_cons hlt,runL_cons] at hj
   have hcl:isNm (cls (s[j]'hlt).toNat)=((cls (s[j]'hlt).toNat==2)||(cls (s[j]'hlt).toNat==4)||(cls (s[j]'hlt).toNat==5)):=rfl
   have h5:∃ d5,(cls (s[j]'hlt).toNat==5)=d5∧(((s[j]'hlt).toNat:Int)==95)=d5:=by
    rw [Sx.cls_five]
    by_cases h:(s[j]'hlt).toNat=95
    ·exact ⟨true,by simp [h],by simp [h]⟩
    ·exact ⟨false,by simp [h],by simp only [beq_eq_false_iff_ne,ne_eq];omega⟩
   obtain ⟨d5,h50,h51⟩:=h5
   rw [hcl,h50] at hj
   clear hcl h50
   cases h2:(cls (s[j]'hlt).toNat==2)
   ·cases h4:(cls (s[j]'hlt).toNat==4)
    ·cases d5
     ·skip
      rw [h2,h4] at hj
      obtain rfl:j=q:=hj
      have K2:=Lib.hid h2
      have K4:=Lib.hid h4
      clear h2 h4 hpj hjs
      by_cases hlg:32<j-p
      ·have l1:decide ((32:Int)<(j:Int)-(p:Int))=true:=decide_eq_true (by omega)
       have HL:=Lib.hid hlg
       clear hlg
       go_wp2_with (first | (go_at_call 67;((with_reducible refine (rsmall_calls _ _).mono ?_);rw [K2.out];rintro e w4 ⟨rfl,rfl⟩)) | (go_at_call 66;((with_reducible refine (rdig_calls _ _).mono ?_);rw [K4.out];rintro e w4 ⟨rfl,rfl⟩)))
       ((try simp only [Exit.inBlock,Exit.then]);refine bodyPost_ret (results_four rfl _ _ _) rfl ?_)
       rw [HST.out,if_pos HL.out]
       exact ⟨0,0,5,p,rfl,⟨rfl,rfl,rfl,rfl⟩,Below.refl _ _⟩
      ·have l1:decide ((32:Int)<(j:Int)-(p:Int))=false:=decide_eq_false (by omega)
       rw [if_neg hlg] at HST
       clear hlg
       have j1:decide ((j:Int)<(s.size:Int))=true:=decide_eq_true (by omega)
       have j2:decide (j<s.size)=true:=decide_eq_true hlt
       have j3:(j:Int)<(s.size:Int):=by omega
       have HJ:=Lib.hid (show jam s j=isVr (cls (s[j]'hlt).toNat) from dif_pos hlt)
       cases hv:isVr (cls (s[j]'hlt).toNat)
       ·have HV:=Lib.hid hv
        rw [hv] at HJ
        clear hv
        go_wp2_with (first | (go_at_call 67;((with_reducible refine (rsmall_calls _ _).mono ?_);rw [K2.out];rintro e w4 ⟨rfl,rfl⟩)) | (go_at_call 66;((with_reducible refine (rdig_calls _ _).mono ?_);rw [K4.out];rintro e w4 ⟨rfl,rfl⟩)) | (go_at_call 69;((with_reducible refine (rword_calls _ _).mono ?_);rw [HV.out];rintro e w4 ⟨rfl,rfl⟩)))
        ((try simp only [Exit.inBlock,Exit.then]);refine bodyPost_ret (results_four rfl _ _ _) rfl ?_)
        rw [HST.out,HJ.out]
        exact ⟨1,j,0,0,rfl,⟨rfl,rfl,rfl,rfl⟩,Below.refl _ _⟩
       ·have HV:=Lib.hid hv
        rw [hv] at HJ
        clear hv
        go_wp2_with (first | (go_at_call 67;((with_reducible refine (rsmall_calls _ _).mono ?_);rw [K2.out];rintro e w4 ⟨rfl,rfl⟩)) | (go_at_call 66;((with_reducible refine (rdig_calls _ _).mono ?_);rw [K4.out];rintro e w4 ⟨rfl,rfl⟩)) | (go_at_call 69;((with_reducible refine (rword_calls _ _).mono ?_);rw [HV.out];rintro e w4 ⟨rfl,rfl⟩)))
        ((try simp only [Exit.inBlock,Exit.then]);refine bodyPost_ret (results_four rfl _ _ _) rfl ?_)
        rw [HST.out,HJ.out]
        exact ⟨0,0,41,j,rfl,⟨rfl,rfl,rfl,rfl⟩,Below.refl _ _⟩
     ·skip
      rw [h2,h4] at hj
      have K2:=Lib.hid h2
      have K4:=Lib.hid h4
      have HJ1:=Lib.hid (show runL isNm (tl s (j+1)) (j+1)=q from hj)
      clear hj hpj hjs h2 h4
      go_wp2_with (first | (go_at_call 67;((with_reducible refine (rsmall_calls _ _).mono ?_);rw [K2.out];rintro e w4 ⟨rfl,rfl⟩)) | (go_at_call 66;((with_reducible refine (rdig_calls _ _).mono ?_);rw [K4.out];rintro e w4 ⟨rfl,rfl⟩)))
      go_round
      case rel=>exact ⟨j+1,rfl,by have:=HPJ.out;omega,hlt,HJ1.out⟩
      case measure=>simp [RowKit.intOf];omega
    ·skip
     rw [h2,h4] at hj
     have K2:=Lib.hid h2
     have K4:=Lib.hid h4
     have HJ1:=Lib.hid (show runL isNm (tl s (j+1)) (j+1)=q from hj)
     clear hj hpj hjs h2 h4
     go_wp2_with (first | (go_at_call 67;((with_reducible refine (rsmall_calls _ _).mono ?_);rw [K2.out];rintro e w4 ⟨rfl,rfl⟩)) | (go_at_call 66;((with_reducible refine (rdig_calls _ _).mono ?_);rw [K4.out];rintro e w4 ⟨rfl,rfl⟩)))
     go_round
     case rel=>exact ⟨j+1,rfl,by have:=HPJ.out;omega,hlt,HJ1.out⟩
     case measure=>simp [RowKit.intOf];omega
   ·skip
    rw [h2] at hj
    have K2:=Lib.hid h2
    have HJ1:=Lib.hid (show runL isNm (tl s (j+1)) (j+1)=q from hj)
    clear hj hpj hjs h2
    go_wp2_with (first | (go_at_call 67;((with_reducible refine (rsmall_calls _ _).mono ?_);rw [K2.out];rintro e w4 ⟨rfl,rfl⟩)))
    go_round
    case rel=>exact ⟨j+1,rfl,by have:=HPJ.out;omega,hlt,HJ1.out⟩
    case measure=>simp [RowKit.intOf];omega
  ·have z1:decide ((j:Int)<(s.size:Int))=false:=decide_eq_false (by omega)
   have z2:decide (j<s.size)=false:=decide_eq_false hlt
   obtain rfl:j=q:=by rw [tl_nil hlt] at hj;exact hj
   clear hpj hjs hj
   by_cases hlg:32<j-p
   ·have l1:decide ((32:Int)<(j:Int)-(p:Int))=true:=decide_eq_true (by omega)
    have HL:=Lib.hid hlg
    clear hlg
    go_wp2_with fail
    ((try simp only [Exit.inBlock,Exit.then]);refine bodyPost_ret (results_four rfl _ _ _) rfl ?_)
    rw [HST.out,if_pos HL.out]
    exact ⟨0,0,5,p,rfl,⟨rfl,rfl,rfl,rfl⟩,Below.refl _ _⟩
   ·have l1:decide ((32:Int)<(j:Int)-(p:Int))=false:=decide_eq_false (by omega)
    rw [if_neg hlg] at HST
    clear hlg
    have j1:decide ((j:Int)<(s.size:Int))=false:=decide_eq_false (by omega)
    have j2:decide (j<s.size)=false:=decide_eq_false hlt
    have HJ:=Lib.hid (show jam s j=false from dif_neg hlt)
    go_wp2_with fail
    ((try simp only [Exit.inBlock,Exit.then]);refine bodyPost_ret (results_four rfl _ _ _) rfl ?_)
    rw [HST.out,HJ.out]
    exact ⟨1,j,0,0,rfl,⟨rfl,rfl,rfl,rfl⟩,Below.refl _ _⟩
theorem rone_cap (s:ByteArray) (p:Nat) (hp:p<s.size) (hz:s.size≤65536) (hc:cls (s[p]'hp).toNat=3) (w:World):Calls Tryz.prog 47 #[.string s,.int .i64 p] w (OneDone (Sx.step (tl s p) p) w):=by
 have hst:Sx.step (tl s p) p=Sx.step (s[p]'hp::tl s (p+1)) p:=by rw [← tl_cons hp]
 rw [Sx.step_cons,← tl_cons hp] at hst
 obtain ⟨st,hS⟩:∃ st,Sx.step (tl s p) p=st:=⟨_,rfl⟩
 rw [hS] at hst ⊢
 clear hS
 have HZ:=Lib.hid hz
 have HP:=Lib.hid hp
 have b1:(0:Int)≤(p:Int):=by omega
 have b2:(p:Int)<(s.size:Int):=by omega
 have HD:=Lib.hid (fun w=>rdate_calls s p (Nat.le_of_lt hp) hz w)
 have hw:st=wordS 2 isVr (tl s p) p:=by rw [hst];rw [if_neg (by rw [hc];decide),if_neg (by rw [hc];decide),if_pos hc]
 have hg0:isVr (cls (s[p]'hp).toNat)=true:=by rw [hc];rfl
 obtain ⟨q,hq⟩:∃ q,runL isVr (tl s p) p=q:=⟨_,rfl⟩
 have hin:=runs_to s isVr p q (Nat.le_of_lt hp) hq
 have HPQ:=Lib.hid (And.intro (run_pos s isVr p q hp hg0 hq) hin.2)
 have HST:=Lib.hid (show st=if 32<q-p then .no 5 p else if jam s q then .jam ⟨2,s.extract p q,p⟩ q else .tok ⟨2,s.extract p q,p⟩ q by rw [hw,word_eq s 2 isVr p q hq,put_eq s 2 hin.1])
 have HQ:=Lib.hid hq
 have HDF:=Lib.hid (show datedL (tl s p)=false by
  rw [tl_cons hp]
  show (dg8 (s[p]'hp)&&datF 9 (tl s (p+1)))=false
  have h1:dg8 (s[p]'hp)=false:=by unfold dg8 isDig;rw [hc];rfl
  rw [h1];rfl)
 have HC4:=Lib.hid (show (cls (s[p]'hp).toNat==4)=false by rw [hc];rfl)
 have HC2:=Lib.hid (show (cls (s[p]'hp).toNat==2)=false by rw [hc];rfl)
 have HC3:=Lib.hid (show (cls (s[p]'hp).toNat==3)=true by rw [hc];rfl)
 clear hst hw hg0 hq hin hc hz
 go_enter Tryz.func47,Tryz.ntmps47
 go_wp2_with (first | (go_at_call 65;((with_reducible refine (HD.out _).mono ?_);rw [HDF.out];rintro e w4 ⟨rfl,rfl⟩)) | (go_at_call 66;((with_reducible refine (rdig_calls _ _).mono ?_);rw [HC4.out];rintro e w4 ⟨rfl,rfl⟩)) | (go_at_call 67;((with_reducible refine (rsmall_calls _ _).mono ?_);rw [HC2.out];rintro e w4 ⟨rfl,rfl⟩)) | (go_at_call 68;((with_reducible refine (rcap_calls _ _).mono ?_);rw [HC3.out];rintro e w4 ⟨rfl,rfl⟩)))
 go_loop [9] (fun u9=>∃ j:Nat,u9=.int .i64 j∧p≤j∧j≤s.size∧runL isVr (tl s j) j=q) (fun u9=>s.size-(RowKit.intOf u9).toNat)
 case atStart=>exact ⟨p,rfl,Nat.le_refl _,Nat.le_of_lt HP.out,HQ.out⟩
 case round =>
  obtain ⟨j,rfl,hpj,hjs,hj⟩:=hrel
  have hzz:=HZ.out
  have HPJ:=Lib.hid hpj
  have g1:(0:Int)≤(j:Int):=by omega
  have g2:(j:Int)≤65536:=by omega
  have g3:(p:Int)≤65536:=by omega
  by_cases hlt:j<s.size
  ·have z1:decide ((j:Int)<(s.size:Int))=true:=decide_eq_true (by omega)
   have z2:decide (j<s.size)=true:=decide_eq_true hlt
   have z3:(j:Int)<(s.size:Int):=by omega
   rw [tl_cons hlt,runL_cons] at hj
   cases hv:isVr (cls (s[j]'hlt).toNat)
   ·rw [hv] at hj
    obtain rfl:j=q:=hj
    have HV:=Lib.hid hv
    have HJ:=Lib.hid (show jam s j=false by rw [show jam s j=isVr (cls (s[j]'hlt).toNat) from dif_pos hlt];exact hv)
    clear hv hpj hjs
    by_cases hlg:32<j-p
    ·have l1:decide ((32:Int)<(j:Int)-(p:Int))=true:=decide_eq_true (by omega)
     have HL:=Lib.hid hlg
     clear hlg
     go_wp2_with (first | (go_at_call 69;((with_reducible refine (rword_calls _ _).mono ?_);rw [HV.out];rintro e w4 ⟨rfl,rfl⟩)))
     ((try simp only [Exit.inBlock,Exit.then]);refine bodyPost_ret (results_four rfl _ _ _) rfl ?_)
     rw [HST.out,if_pos HL.out]
     exact ⟨0,0,5,p,rfl,⟨rfl,rfl,rfl,rfl⟩,Below.refl _ _⟩
    ·have l1:decide ((32:Int)<(j:Int)-(p:Int))=false:=decide_eq_false (by omega)
     rw [if_neg hlg] at HST
     clear hlg
     go_wp2_with (first | (go_at_call 69;((with_reducible refine (rword_calls _ _).mono ?_);rw [HV.out];rintro e w4 ⟨rfl,rfl⟩)))
     ((try simp only [Exit.inBlock,Exit.then]);refine bodyPost_ret (results_four rfl _ _ _) rfl ?_)
     rw [HST.out,HJ.out]
     exact ⟨2,j,0,0,rfl,⟨rfl,rfl,rfl,rfl⟩,Below.refl _ _⟩
   ·rw [hv] at hj
    have HV:=Lib.hid hv
    have HJ1:=Lib.hid (show runL isVr (tl s (j+1)) (j+1)=q from hj)
    clear hj hpj hjs hv
    go_wp2_with (first | (go_at_call 69;((with_reducible refine (rword_calls _ _).mono ?_);rw [HV.out];rintro e w4 ⟨rfl,rfl⟩)))
    go_round
    case rel=>exact ⟨j+1,rfl,by have:=HPJ.out;omega,hlt,HJ1.out⟩
    case measure=>simp [RowKit.intOf];omega
  ·have z1:decide ((j:Int)<(s.size:Int))=false:=decide_eq_false (by omega)
   have z2:decide (j<s.size)=false:=decide_eq_false hlt
   obtain rfl:j=q:=by rw [tl_nil hlt] at hj;exact hj
   clear hpj hjs hj
   by_cases hlg:32<j-p
   ·have l1:decide ((32:Int)<(j:Int)-(p:Int))=true:=decide_eq_true (by omega)
    have HL:=Lib.hid hlg
    clear hlg
    go_wp2_with fail
    ((try simp only [Exit.inBlock,Exit.then]);refine bodyPost_ret (results_four rfl _ _ _) rfl ?_)
    rw [HST.out,if_pos HL.out]
    exact ⟨0,0,5,p,rfl,⟨rfl,rfl,rfl,rfl⟩,Below.refl _ _⟩
   ·have l1:decide ((32:Int)<(j:Int)-(p:Int))=false:=decide_eq_false (by omega)
    rw [if_neg hlg] at HST
    clear hlg
    have j1:decide ((j:Int)<(s.size:Int))=false:=decide_eq_false (by omega)
    have j2:decide (j<s.size)=false:=decide_eq_false hlt
    have HJ:=Lib.hid (show jam s j=false from dif_neg hlt)
    go_wp2_with fail
    ((try simp only [Exit.inBlock,Exit.then]);refine bodyPost_ret (results_four rfl _ _ _) rfl ?_)
    rw [HST.out,HJ.out]
    exact ⟨2,j,0,0,rfl,⟨rfl,rfl,rfl,rfl⟩,Below.refl _ _⟩
theorem rone_date (s:ByteArray) (p:Nat) (hp:p<s.size) (hz:s.size≤65536) (hc:cls (s[p]'hp).toNat=4) (hd:datedL (tl s p)=true) (w:World):Calls Tryz.prog 47 #[.string s,.int .i64 p] w (OneDone (Sx.step (tl s p) p) w):=by
 have hst:Sx.step (tl s p) p=Sx.step (s[p]'hp::tl s (p+1)) p:=by rw [← tl_cons hp]
 rw [Sx.step_cons,← tl_cons hp] at hst
 obtain ⟨st,hS⟩:∃ st,Sx.step (tl s p) p=st:=⟨_,rfl⟩
 rw [hS] at hst ⊢
 clear hS
 have HZ:=Lib.hid hz
 have HP:=Lib.hid hp
 have b1:(0:Int)≤(p:Int):=by omega
 have b2:(p:Int)<(s.size:Int):=by omega
 have HD:=Lib.hid (fun w=>rdate_calls s p (Nat.le_of_lt hp) hz w)
 have hw:st=numberS (tl s p) p:=by rw [hst,if_neg (by rw [hc];decide),if_neg (by rw [hc];decide),if_neg (by rw [hc];decide),if_pos hc]
 have h10:=datedL_len hd
 have htl:=tl_len s p
 obtain ⟨q,hq⟩:∃ q,p+10=q:=⟨_,rfl⟩
 have hq2:q≤s.size:=by omega
 have e1:(p:Int)+10=(q:Int):=by omega
 have g1:(0:Int)≤(q:Int):=by omega
 have g2:(q:Int)≤65536:=by omega
 have HST:=Lib.hid (show st=if jam s q then .jam ⟨4,s.extract p q,p⟩ q else .tok ⟨4,s.extract p q,p⟩ q by
  rw [hw];unfold numberS;rw [hd,if_pos rfl,← put_eq s 4 (show p≤q by omega),show q-p=10 by omega])
 have HDF:=Lib.hid hd
 have U:=Lib.hid (w64 q (by omega))
 clear hst hw hc hz hd h10 htl hq
 obtain ⟨u1,u2⟩:=U.out
 go_enter Tryz.func47,Tryz.ntmps47
 go_upto_region 37 with (first | (go_at_call 65;((with_reducible refine (HD.out _).mono ?_);rw [HDF.out];rintro e w4 ⟨rfl,rfl⟩)))
 clear u1 u2
 by_cases hqs:q<s.size
 ·have j1:decide ((q:Int)<(s.size:Int))=true:=decide_eq_true (by omega)
  have j2:decide (q<s.size)=true:=decide_eq_true hqs
  have j3:(q:Int)<(s.size:Int):=by omega
  have HJ:=Lib.hid (show jam s q=isVr (cls (s[q]'hqs).toNat) from dif_pos hqs)
  cases hv:isVr (cls (s[q]'hqs).toNat)
  ·have HV:=Lib.hid hv
   rw [hv] at HJ
   clear hv
   go_wp2_with (first | (go_at_call 69;((with_reducible refine (rword_calls _ _).mono ?_);rw [HV.out];rintro e w4 ⟨rfl,rfl⟩)))
   ((try simp only [Exit.inBlock,Exit.then]);refine bodyPost_ret (results_four rfl _ _ _) rfl ?_)
   rw [HST.out,HJ.out]
   exact ⟨4,q,0,0,rfl,⟨rfl,rfl,rfl,rfl⟩,Below.refl _ _⟩
  ·have HV:=Lib.hid hv
   rw [hv] at HJ
   clear hv
   go_wp2_with (first | (go_at_call 69;((with_reducible refine (rword_calls _ _).mono ?_);rw [HV.out];rintro e w4 ⟨rfl,rfl⟩)))
   ((try simp only [Exit.inBlock,Exit.then]);refine bodyPost_ret (results_four rfl _ _ _) rfl ?_)
   rw [HST.out,HJ.out]
   exact ⟨0,0,41,q,rfl,⟨rfl,rfl,rfl,rfl⟩,Below.refl _ _⟩
 ·have j1:decide ((q:Int)<(s.size:Int))=false:=decide_eq_false (by omega)
  have j2:decide (q<s.size)=false:=decide_eq_false hqs
  have HJ:=Lib.hid (show jam s q=false from dif_neg hqs)
  go_wp2_with fail
  ((try simp only [Exit.inBlock,Exit.then]);refine bodyPost_ret (results_four rfl _ _ _) rfl ?_)
  rw [HST.out,HJ.out]
  exact ⟨4,q,0,0,rfl,⟨rfl,rfl,rfl,rfl⟩,Below.refl _ _⟩
theorem rone_num (s:ByteArray) (p:Nat) (hp:p<s.size) (hz:s.size≤65536) (hc:cls (s[p]'hp).toNat=4) (hd:datedL (tl s p)=false) (w:World):Calls Tryz.prog 47 #[.string s,.int .i64 p] w (OneDone (Sx.step (tl s p) p) w):=by
 have hst:Sx.step (tl s p) p=Sx.step (s[p]'hp::tl s (p+1)) p:=by rw [← tl_cons hp]
 rw [Sx.step_cons,← tl_cons hp] at hst
 obtain ⟨st,hS⟩:∃ st,Sx.step (tl s p) p=st:=⟨_,rfl⟩
 rw [hS] at hst ⊢
 clear hS
 have HZ:=Lib.hid hz
 have HP:=Lib.hid hp
 have b1:(0:Int)≤(p:Int):=by omega
 have b2:(p:Int)<(s.size:Int):=by omega
 have HD:=Lib.hid (fun w=>rdate_calls s p (Nat.le_of_lt hp) hz w)
 have hw:st=numberS (tl s p) p:=by rw [hst,if_neg (by rw [hc];decide),if_neg (by rw [hc];decide),if_neg (by rw [hc];decide),if_pos hc]
 have hg0:isDig (cls (s[p]'hp).toNat)=true:=by rw [hc];rfl
 obtain ⟨q,hq⟩:∃ q,runL isDig (tl s p) p=q:=⟨_,rfl⟩
 have hin:=runs_to s isDig p q (Nat.le_of_lt hp) hq
 have HPQ:=Lib.hid (And.intro (run_pos s isDig p q hp hg0 hq) hin.2)
 have HW:=Lib.hid hw
 have HQ:=Lib.hid hq
 have HDF:=Lib.hid hd
 have HC4:=Lib.hid (show (cls (s[p]'hp).toNat==4)=true by rw [hc];rfl)
 clear hst hw hg0 hq hin hc hz hd
 go_enter Tryz.func47,Tryz.ntmps47
 go_wp2_with (first | (go_at_call 65;((with_reducible refine (HD.out _).mono ?_);rw [HDF.out];rintro e w4 ⟨rfl,rfl⟩)) | (go_at_call 66;((with_reducible refine (rdig_calls _ _).mono ?_);rw [HC4.out];rintro e w4 ⟨rfl,rfl⟩)))
 go_loop [9] (fun u9=>∃ j:Nat,u9=.int .i64 j∧p≤j∧j≤s.size∧runL isDig (tl s j) j=q) (fun u9=>s.size-(RowKit.intOf u9).toNat)
 case atStart=>exact ⟨p,rfl,Nat.le_refl _,Nat.le_of_lt HP.out,HQ.out⟩
 case round =>
  obtain ⟨j,rfl,hpj,hjs,hj⟩:=hrel
  have hzz:=HZ.out
  have HPJ:=Lib.hid hpj
  have g1:(0:Int)≤(j:Int):=by omega
  have g2:(j:Int)≤65536:=by omega
  have g3:(p:Int)≤65536:=by omega
  by_cases hlt:j<s.size
  ·have z1:decide ((j:Int)<(s.size:Int))=true:=decide_eq_true (by omega)
   have z2:decide (j<s.size)=true:=decide_eq_true hlt
   have z3:(j:Int)<(s.size:Int):=by omega
   rw [tl_cons hlt,runL_cons] at hj
   cases h4:(cls (s[j]'hlt).toNat==4)
   ·rw [show isDig (cls (s[j]'hlt).toNat)=(cls (s[j]'hlt).toNat==4) from rfl,h4] at hj
    obtain rfl:j=q:=hj
    have K4:=Lib.hid h4
    obtain ⟨q1,hq1⟩:∃ q1,j+1=q1:=⟨_,rfl⟩
    have e1:(j:Int)+1=(q1:Int):=by omega
    by_cases hlt1:q1<s.size
    ·have y1:decide ((q1:Int)<(s.size:Int))=true:=decide_eq_true (by omega)
     have y2:decide (q1<s.size)=true:=decide_eq_true hlt1
     have y3:(q1:Int)<(s.size:Int):=by omega
     have y4:(0:Int)≤(q1:Int):=by omega
     cases hdot:(s[j]'hlt==(46:UInt8))
     ·have hne:(((s[j]'hlt).toNat:Int)==46)=false:=by
       have h1:s[j]'hlt≠46:=by simpa using hdot
       simp only [beq_eq_false_iff_ne,ne_eq]
       intro h2
       exact h1 (UInt8.toNat_inj.1 (by show (s[j]'hlt).toNat=46;omega))
      have HST:=Lib.hid (show st=if jam s j then .jam ⟨3,s.extract p j,p⟩ j else .tok ⟨3,s.extract p j,p⟩ j by rw [HW.out,num_none' s p j q1 hq1 hp HDF.out HQ.out (fun h1 h0=>by rw [hdot];rfl),put_eq s 3 hpj])
      clear h4 hpj hjs hdot hq1
      have j1:decide ((j:Int)<(s.size:Int))=true:=decide_eq_true (by omega)
      have j2:decide (j<s.size)=true:=decide_eq_true hlt
      have j3:(j:Int)<(s.size:Int):=by omega
      have HJ:=Lib.hid (show jam s j=isVr (cls (s[j]'hlt).toNat) from dif_pos hlt)
      cases hv:isVr (cls (s[j]'hlt).toNat)
      ·have HV:=Lib.hid hv
       rw [hv] at HJ
       clear hv
       go_wp2_with (first | (go_at_call 66;((with_reducible refine (rdig_calls _ _).mono ?_);rw [K4.out];rintro e w4 ⟨rfl,rfl⟩)) | (go_at_call 69;((with_reducible refine (rword_calls _ _).mono ?_);rw [HV.out];rintro e w4 ⟨rfl,rfl⟩)))
       ((try simp only [Exit.inBlock,Exit.then]);refine bodyPost_ret (results_four rfl _ _ _) rfl ?_)
       rw [HST.out,HJ.out]
       exact ⟨3,j,0,0,rfl,⟨rfl,rfl,rfl,rfl⟩,Below.refl _ _⟩
      ·have HV:=Lib.hid hv
       rw [hv] at HJ
       clear hv
       go_wp2_with (first | (go_at_call 66;((with_reducible refine (rdig_calls _ _).mono ?_);rw [K4.out];rintro e w4 ⟨rfl,rfl⟩)) | (go_at_call 69;((with_reducible refine (rword_calls _ _).mono ?_);rw [HV.out];rintro e w4 ⟨rfl,rfl⟩)))
       ((try simp only [Exit.inBlock,Exit.then]);refine bodyPost_ret (results_four rfl _ _ _) rfl ?_)
       rw [HST.out,HJ.out]
       exact ⟨0,0,41,j,rfl,⟨rfl,rfl,rfl,rfl⟩,Below.refl _ _⟩
     ·have hne:(((s[j]'hlt).toNat:Int)==46)=true:=by
       have h1:s[j]'hlt=46:=by simpa using hdot
       rw [h1];rfl
      cases hg:dg8 (s[q1]'hlt1)
      ·have K5:=Lib.hid (show (cls (s[q1]'hlt1).toNat==4)=false from hg)
       have HST:=Lib.hid (show st=if jam s j then .jam ⟨3,s.extract p j,p⟩ j else .tok ⟨3,s.extract p j,p⟩ j by rw [HW.out,num_none' s p j q1 hq1 hp HDF.out HQ.out (fun h1 h0=>by rw [hg];exact Bool.and_false _),put_eq s 3 hpj])
       clear h4 hpj hjs hdot hq1 hg
       have j1:decide ((j:Int)<(s.size:Int))=true:=decide_eq_true (by omega)
       have j2:decide (j<s.size)=true:=decide_eq_true hlt
       have j3:(j:Int)<(s.size:Int):=by omega
       have HJ:=Lib.hid (show jam s j=isVr (cls (s[j]'hlt).toNat) from dif_pos hlt)
       cases hv:isVr (cls (s[j]'hlt).toNat)
       ·have HV:=Lib.hid hv
        rw [hv] at HJ
        clear hv
        go_wp2_with (first | (go_at_call 66;((with_reducible refine (rdig_calls _ _).mono ?_);rw [K4.out];rintro e w4 ⟨rfl,rfl⟩)) | (go_at_call 66;((with_reducible refine (rdig_calls _ _).mono ?_);rw [K5.out];rintro e w4 ⟨rfl,rfl⟩)) | (go_at_call 69;((with_reducible refine (rword_calls _ _).mono ?_);rw [HV.out];rintro e w4 ⟨rfl,rfl⟩)))
        ((try simp only [Exit.inBlock,Exit.then]);refine bodyPost_ret (results_four rfl _ _ _) rfl ?_)
        rw [HST.out,HJ.out]
        exact ⟨3,j,0,0,rfl,⟨rfl,rfl,rfl,rfl⟩,Below.refl _ _⟩
       ·have HV:=Lib.hid hv
        rw [hv] at HJ
        clear hv
        go_wp2_with (first | (go_at_call 66;((with_reducible refine (rdig_calls _ _).mono ?_);rw [K4.out];rintro e w4 ⟨rfl,rfl⟩)) | (go_at_call 66;((with_reducible refine (rdig_calls _ _).mono ?_);rw [K5.out];rintro e w4 ⟨rfl,rfl⟩)) | (go_at_call 69;((with_reducible refine (rword_calls _ _).mono ?_);rw [HV.out];rintro e w4 ⟨rfl,rfl⟩)))
        ((try simp only [Exit.inBlock,Exit.then]);refine bodyPost_ret (results_four rfl _ _ _) rfl ?_)
        rw [HST.out,HJ.out]
        exact ⟨0,0,41,j,rfl,⟨rfl,rfl,rfl,rfl⟩,Below.refl _ _⟩
      ·have K5:=Lib.hid (show (cls (s[q1]'hlt1).toNat==4)=true from hg)
       obtain ⟨q2,hr2⟩:∃ q2,runL isDig (tl s q1) q1=q2:=⟨_,rfl⟩
       have hin2:=runs_to s isDig q1 q2 (Nat.le_of_lt hlt1) hr2
       have HST:=Lib.hid (show st=if jam s q2 then .jam ⟨3,s.extract p q2,p⟩ q2 else .tok ⟨3,s.extract p q2,p⟩ q2 by rw [HW.out,num_more' s p j q1 q2 hq1 hp HDF.out HQ.out hlt1 hlt hdot hg hr2,put_eq s 3 (show p≤q2 by have:=hin2.1;omega)])
       have HR2:=Lib.hid hr2
       clear h4 hpj hjs hdot hq1 hg hr2 hin2
       go_wp2_with (first | (go_at_call 66;((with_reducible refine (rdig_calls _ _).mono ?_);rw [K4.out];rintro e w4 ⟨rfl,rfl⟩)) | (go_at_call 66;((with_reducible refine (rdig_calls _ _).mono ?_);rw [K5.out];rintro e w4 ⟨rfl,rfl⟩)))
       go_loop [9] (fun u9=>∃ i:Nat,u9=.int .i64 i∧q1≤i∧i≤s.size∧runL isDig (tl s i) i=q2) (fun u9=>s.size-(RowKit.intOf u9).toNat)
       case atStart=>exact ⟨q1,rfl,Nat.le_refl _,Nat.le_of_lt hlt1,HR2.out⟩
       case round =>
        obtain ⟨i,rfl,hpi,his,hi⟩:=hrel
        have k1:(0:Int)≤(i:Int):=by omega
        have k2:(i:Int)≤65536:=by omega
        have HPI:=Lib.hid hpi
        by_cases hli:i<s.size
        ·have w1:decide ((i:Int)<(s.size:Int))=true:=decide_eq_true (by omega)
         have w2:decide (i<s.size)=true:=decide_eq_true hli
         have w3:(i:Int)<(s.size:Int):=by omega
         rw [tl_cons hli,runL_cons] at hi
         cases h6:(cls (s[i]'hli).toNat==4)
         ·rw [show isDig (cls (s[i]'hli).toNat)=(cls (s[i]'hli).toNat==4) from rfl,h6] at hi
          obtain rfl:i=q2:=hi
          have K6:=Lib.hid h6
          clear h6 hpi his
          have j1:decide ((i:Int)<(s.size:Int))=true:=decide_eq_true (by omega)
          have j2:decide (i<s.size)=true:=decide_eq_true hli
          have j3:(i:Int)<(s.size:Int):=by omega
          have HJ:=Lib.hid (show jam s i=isVr (cls (s[i]'hli).toNat) from dif_pos hli)
          cases hv:isVr (cls (s[i]'hli).toNat)
          ·have HV:=Lib.hid hv
           rw [hv] at HJ
           clear hv
           go_wp2_with (first | (go_at_call 66;((with_reducible refine (rdig_calls _ _).mono ?_);rw [K6.out];rintro e w4 ⟨rfl,rfl⟩)) | (go_at_call 69;((with_reducible refine (rword_calls _ _).mono ?_);rw [HV.out];rintro e w4 ⟨rfl,rfl⟩)))
           ((try simp only [Exit.inBlock,Exit.then]);refine bodyPost_ret (results_four rfl _ _ _) rfl ?_)
           rw [HST.out,HJ.out]
           exact ⟨3,i,0,0,rfl,⟨rfl,rfl,rfl,rfl⟩,Below.refl _ _⟩
          ·have HV:=Lib.hid hv
           rw [hv] at HJ
           clear hv
           go_wp2_with (first | (go_at_call 66;((with_reducible refine (rdig_calls _ _).mono ?_);rw [K6.out];rintro e w4 ⟨rfl,rfl⟩)) | (go_at_call 69;((with_reducible refine (rword_calls _ _).mono ?_);rw [HV.out];rintro e w4 ⟨rfl,rfl⟩)))
           ((try simp only [Exit.inBlock,Exit.then]);refine bodyPost_ret (results_four rfl _ _ _) rfl ?_)
           rw [HST.out,HJ.out]
           exact ⟨0,0,41,i,rfl,⟨rfl,rfl,rfl,rfl⟩,Below.refl _ _⟩
         ·rw [show isDig (cls (s[i]'hli).toNat)=(cls (s[i]'hli).toNat==4) from rfl,h6] at hi
          have K6:=Lib.hid h6
          have HI:=Lib.hid (show runL isDig (tl s (i+1)) (i+1)=q2 from hi)
          clear h6 hpi his hi
          go_wp2_with (first | (go_at_call 66;((with_reducible refine (rdig_calls _ _).mono ?_);rw [K6.out];rintro e w4 ⟨rfl,rfl⟩)))
          go_round
          case rel=>exact ⟨i+1,rfl,by have:=HPI.out;omega,hli,HI.out⟩
          case measure=>simp [RowKit.intOf];omega
        ·have w1:decide ((i:Int)<(s.size:Int))=false:=decide_eq_false (by omega)
         have w2:decide (i<s.size)=false:=decide_eq_false hli
         obtain rfl:i=q2:=by rw [tl_nil hli] at hi;exact hi
         clear hpi his hi
         have j1:decide ((i:Int)<(s.size:Int))=false:=decide_eq_false (by omega)
         have j2:decide (i<s.size)=false:=decide_eq_false hli
         have HJ:=Lib.hid (show jam s i=false from dif_neg hli)
         go_wp2_with fail
         ((try simp only [Exit.inBlock,Exit.then]);refine bodyPost_ret (results_four rfl _ _ _) rfl ?_)
         rw [HST.out,HJ.out]
         exact ⟨3,i,0,0,rfl,⟨rfl,rfl,rfl,rfl⟩,Below.refl _ _⟩
    ·have y1:decide ((q1:Int)<(s.size:Int))=false:=decide_eq_false (by omega)
     have y2:decide (q1<s.size)=false:=decide_eq_false hlt1
     have HST:=Lib.hid (show st=if jam s j then .jam ⟨3,s.extract p j,p⟩ j else .tok ⟨3,s.extract p j,p⟩ j by rw [HW.out,num_none' s p j q1 hq1 hp HDF.out HQ.out (fun h1 h0=>absurd h1 hlt1),put_eq s 3 hpj])
     clear h4 hpj hjs hq1
     have j1:decide ((j:Int)<(s.size:Int))=true:=decide_eq_true (by omega)
     have j2:decide (j<s.size)=true:=decide_eq_true hlt
     have j3:(j:Int)<(s.size:Int):=by omega
     have HJ:=Lib.hid (show jam s j=isVr (cls (s[j]'hlt).toNat) from dif_pos hlt)
     cases hv:isVr (cls (s[j]'hlt).toNat)
     ·have HV:=Lib.hid hv
      rw [hv] at HJ
      clear hv
      go_wp2_with (first | (go_at_call 66;((with_reducible refine (rdig_calls _ _).mono ?_);rw [K4.out];rintro e w4 ⟨rfl,rfl⟩)) | (go_at_call 69;((with_reducible refine (rword_calls _ _).mono ?_);rw [HV.out];rintro e w4 ⟨rfl,rfl⟩)))
      ((try simp only [Exit.inBlock,Exit.then]);refine bodyPost_ret (results_four rfl _ _ _) rfl ?_)
      rw [HST.out,HJ.out]
      exact ⟨3,j,0,0,rfl,⟨rfl,rfl,rfl,rfl⟩,Below.refl _ _⟩
     ·have HV:=Lib.hid hv
      rw [hv] at HJ
      clear hv
      go_wp2_with (first | (go_at_call 66;((with_reducible refine (rdig_calls _ _).mono ?_);rw [K4.out];rintro e w4 ⟨rfl,rfl⟩)) | (go_at_call 69;((with_reducible refine (rword_calls _ _).mono ?_);rw [HV.out];rintro e w4 ⟨rfl,rfl⟩)))
      ((try simp only [Exit.inBlock,Exit.then]);refine bodyPost_ret (results_four rfl _ _ _) rfl ?_)
      rw [HST.out,HJ.out]
      exact ⟨0,0,41,j,rfl,⟨rfl,rfl,rfl,rfl⟩,Below.refl _ _⟩
   ·rw [show isDig (cls (s[j]'hlt).toNat)=(cls (s[j]'hlt).toNat==4) from rfl,h4] at hj
    have K4:=Lib.hid h4
    have HJ1:=Lib.hid (show runL isDig (tl s (j+1)) (j+1)=q from hj)
    clear hj hpj hjs h4
    go_wp2_with (first | (go_at_call 66;((with_reducible refine (rdig_calls _ _).mono ?_);rw [K4.out];rintro e w4 ⟨rfl,rfl⟩)))
    go_round
    case rel=>exact ⟨j+1,rfl,by have:=HPJ.out;omega,hlt,HJ1.out⟩
    case measure=>simp [RowKit.intOf];omega
  ·have z1:decide ((j:Int)<(s.size:Int))=false:=decide_eq_false (by omega)
   have z2:decide (j<s.size)=false:=decide_eq_false hlt
   obtain rfl:j=q:=by rw [tl_nil hlt] at hj;exact hj
   obtain ⟨q1,hq1⟩:∃ q1,j+1=q1:=⟨_,rfl⟩
   have e1:(j:Int)+1=(q1:Int):=by omega
   have y1:decide ((q1:Int)<(s.size:Int))=false:=decide_eq_false (by omega)
   have y2:decide (q1<s.size)=false:=decide_eq_false (by omega)
   have HST:=Lib.hid (show st=if jam s j then .jam ⟨3,s.extract p j,p⟩ j else .tok ⟨3,s.extract p j,p⟩ j by rw [HW.out,num_none' s p j q1 hq1 hp HDF.out HQ.out (fun h1 h0=>absurd h1 (by omega)),put_eq s 3 hpj])
   clear hpj hjs hj hq1
   have j1:decide ((j:Int)<(s.size:Int))=false:=decide_eq_false (by omega)
   have j2:decide (j<s.size)=false:=decide_eq_false hlt
   have HJ:=Lib.hid (show jam s j=false from dif_neg hlt)
   go_wp2_with fail
   ((try simp only [Exit.inBlock,Exit.then]);refine bodyPost_ret (results_four rfl _ _ _) rfl ?_)
   rw [HST.out,HJ.out]
   exact ⟨3,j,0,0,rfl,⟨rfl,rfl,rfl,rfl⟩,Below.refl _ _⟩
theorem rone_quote (s:ByteArray) (p:Nat) (hp:p<s.size) (hz:s.size≤65536) (h2:(cls (s[p]'hp).toNat==2)=false) (h3:(cls (s[p]'hp).toNat==3)=false) (h4:(cls (s[p]'hp).toNat==4)=false) (h1:(cls (s[p]'hp).toNat==1)=false) (hq:s[p]'hp=34) (w:World):Calls Tryz.prog 47 #[.string s,.int .i64 p] w (OneDone (Sx.step (tl s p) p) w):=by
 have hst:Sx.step (tl s p) p=Sx.step (s[p]'hp::tl s (p+1)) p:=by rw [← tl_cons hp]
 rw [Sx.step_cons,← tl_cons hp] at hst
 obtain ⟨st,hS⟩:∃ st,Sx.step (tl s p) p=st:=⟨_,rfl⟩
 rw [hS] at hst ⊢
 clear hS
 have HZ:=Lib.hid hz
 have HP:=Lib.hid hp
 have b1:(0:Int)≤(p:Int):=by omega
 have b2:(p:Int)<(s.size:Int):=by omega
 have HD:=Lib.hid (fun w=>rdate_calls s p (Nat.le_of_lt hp) hz w)
 have hw:st=quoteS (tl s (p+1)) p:=by
  rw [hst,if_neg (by simpa using h1),if_neg (by simpa using h2),if_neg (by simpa using h3),if_neg (by simpa using h4),hq];rfl
 have hcq:(((s[p]'hp).toNat:Int)==34)=true:=by rw [hq];rfl
 have HDF:=Lib.hid (show datedL (tl s p)=false by
  rw [tl_cons hp]
  show (dg8 (s[p]'hp)&&datF 9 (tl s (p+1)))=false
  have h1:dg8 (s[p]'hp)=false:=h4
  rw [h1];rfl)
 have HC4:=Lib.hid h4
 have HC2:=Lib.hid h2
 have HC3:=Lib.hid h3
 obtain ⟨p1,hp1⟩:∃ p1,p+1=p1:=⟨_,rfl⟩
 rw [hp1] at hw
 obtain ⟨Q,hQ⟩:∃ Q,p1+((tl s p1).takeWhile inQ).length=Q:=⟨_,rfl⟩
 have e1:(p:Int)+1=(p1:Int):=by omega
 have g0:(0:Int)≤(p1:Int):=by omega
 have g9:(p1:Int)≤65536:=by omega
 have HW:=Lib.hid hw
 have HP1:=Lib.hid hp1
 have HQ:=Lib.hid hQ
 clear hst hw hz h1 h2 h3 h4 hq hp1 hQ
 go_enter Tryz.func47,Tryz.ntmps47
 go_wp2_with (first | (go_at_call 65;((with_reducible refine (HD.out _).mono ?_);rw [HDF.out];rintro e w4 ⟨rfl,rfl⟩)) | (go_at_call 66;((with_reducible refine (rdig_calls _ _).mono ?_);rw [HC4.out];rintro e w4 ⟨rfl,rfl⟩)) | (go_at_call 67;((with_reducible refine (rsmall_calls _ _).mono ?_);rw [HC2.out];rintro e w4 ⟨rfl,rfl⟩)) | (go_at_call 68;((with_reducible refine (rcap_calls _ _).mono ?_);rw [HC3.out];rintro e w4 ⟨rfl,rfl⟩)))
 go_loop [9] (fun u9=>∃ j:Nat,u9=.int .i64 j∧p1≤j∧j≤s.size∧j+((tl s j).takeWhile inQ).length=Q) (fun u9=>s.size-(RowKit.intOf u9).toNat)
 case atStart=>exact ⟨p1,rfl,Nat.le_refl _,by have h1:=HP.out;have h2:=HP1.out;omega,HQ.out⟩
 case round =>
  obtain ⟨j,rfl,hpj,hjs,hj⟩:=hrel
  have hzz:=HZ.out
  have HPJ:=Lib.hid hpj
  have g1:(0:Int)≤(j:Int):=by omega
  have g2:(j:Int)≤65536:=by omega
  have hqd:∀ (c:UInt8) (t:List UInt8),j=Q→tl s j=c::t→c=34∨c=10→st=if c=34 then .tok ⟨5,s.extract p1 j,p⟩ (j+1) else .no 42 p:=by
   intro c t hjq ht hc
   have hm2:((tl s p1).takeWhile inQ).length=j-p1:=by have:=HQ.out;omega
   have hdr:(tl s p1).drop (j-p1)=c::t:=by rw [tl_drop,show p1+(j-p1)=j by omega,ht]
   rcases quote_idx (tl s p1) with ⟨_,hd⟩ | ⟨m,c2,t2,_,hm,htk,hd,_⟩
   ·rw [hm2,hdr] at hd;cases hd
   ·have hmj:m=j-p1:=by omega
    subst hmj
    rw [HW.out]
    rcases hc with rfl | rfl
    ·rw [if_pos rfl];exact quote_ok p p1 j (j-p1) HP1.out (by omega) hm htk hdr
    ·rw [if_neg (by decide)];exact quote_line p (j-p1) hm hdr
  have HQD:=Lib.hid hqd
  clear hqd
  by_cases hlt:j<s.size
  ·have z1:decide ((j:Int)<(s.size:Int))=true:=decide_eq_true (by omega)
   have z2:decide (j<s.size)=true:=decide_eq_true hlt
   have z3:(j:Int)<(s.size:Int):=by omega
   have z4:((j:Int)==(s.size:Int))=false:=by simp only [beq_eq_false_iff_ne,ne_eq];omega
   have z5:(j==s.size)=false:=by simp only [beq_eq_false_iff_ne,ne_eq];omega
   have htj:=tl_cons hlt
   rw [htj,List.takeWhile_cons] at hj
   by_cases h34:s[j]'hlt=34
   ·have i1:(((s[j]'hlt).toNat:Int) != 34)=false:=by rw [h34];rfl
    have i2:(((s[j]'hlt).toNat:Int)==10)=false:=by rw [h34];rfl
    have i3:(((s[j]'hlt).toNat:Int) != 10)=true:=by rw [h34];rfl
    have hjq:j=Q:=by rw [h34] at hj;exact hj
    have HST:=Lib.hid (show st=.tok ⟨5,s.extract p1 j,p⟩ (j+1) by rw [HQD.out _ _ hjq htj (.inl h34),if_pos h34])
    obtain ⟨j1,hj1⟩:∃ j1,j+1=j1:=⟨_,rfl⟩
    rw [hj1] at HST
    have e2:(j:Int)+1=(j1:Int):=by omega
    clear h34 hjq htj hj hpj hjs hj1
    go_wp2_with fail
    ((try simp only [Exit.inBlock,Exit.then]);refine bodyPost_ret (results_four rfl _ _ _) rfl ?_)
    rw [HST.out]
    exact ⟨5,j1,0,0,rfl,⟨rfl,rfl,rfl,rfl⟩,Below.refl _ _⟩
   ·have i1:(((s[j]'hlt).toNat:Int) != 34)=true:=by
     simp only [bne_iff_ne,ne_eq];intro h2;exact h34 (UInt8.toNat_inj.1 (by show (s[j]'hlt).toNat=34;omega))
    by_cases h10:s[j]'hlt=10
    ·have i2:(((s[j]'hlt).toNat:Int)==10)=true:=by rw [h10];rfl
     have i3:(((s[j]'hlt).toNat:Int) != 10)=false:=by rw [h10];rfl
     have hjq:j=Q:=by rw [h10] at hj;exact hj
     have HST:=Lib.hid (show st=.no 42 p by rw [HQD.out _ _ hjq htj (.inr h10),if_neg h34])
     clear h34 h10 hjq htj hj hpj hjs
     go_wp2_with fail
     ((try simp only [Exit.inBlock,Exit.then]);refine bodyPost_ret (results_four rfl _ _ _) rfl ?_)
     rw [HST.out]
     exact ⟨0,0,42,p,rfl,⟨rfl,rfl,rfl,rfl⟩,Below.refl _ _⟩
    ·have i3:(((s[j]'hlt).toNat:Int) != 10)=true:=by
      simp only [bne_iff_ne,ne_eq];intro h2;exact h10 (UInt8.toNat_inj.1 (by show (s[j]'hlt).toNat=10;omega))
     have hin:inQ (s[j]'hlt)=true:=by unfold inQ;simp [h34,h10]
     rw [hin,if_pos rfl,List.length_cons] at hj
     have HJ1:=Lib.hid (show (j+1)+((tl s (j+1)).takeWhile inQ).length=Q by omega)
     clear h34 h10 htj hj hpj hjs hin
     go_wp2_with fail
     go_round
     case rel=>exact ⟨j+1,rfl,by have:=HPJ.out;omega,hlt,HJ1.out⟩
     case measure=>simp [RowKit.intOf];omega
  ·have z1:decide ((j:Int)<(s.size:Int))=false:=decide_eq_false (by omega)
   have z2:decide (j<s.size)=false:=decide_eq_false hlt
   obtain rfl:j=s.size:=by omega
   have HST:=Lib.hid (show st=.no 42 p by
    rw [HW.out]
    refine quote_none p ?_
    rw [tl_nil hlt] at hj
    have hm2:((tl s p1).takeWhile inQ).length=s.size-p1:=by have h1:=HQ.out;have h2:s.size+0=Q:=hj;omega
    rw [hm2,tl_drop,show p1+(s.size-p1)=s.size by omega,tl_nil hlt])
   clear hj hpj hjs
   go_wp2_with fail
   ((try simp only [Exit.inBlock,Exit.then]);refine bodyPost_ret (results_four rfl _ _ _) rfl ?_)
   rw [HST.out]
   exact ⟨0,0,42,p,rfl,⟨rfl,rfl,rfl,rfl⟩,Below.refl _ _⟩
theorem rone_mark (s:ByteArray) (p:Nat) (hp:p<s.size) (hz:s.size≤65536) (h2:(cls (s[p]'hp).toNat==2)=false) (h3:(cls (s[p]'hp).toNat==3)=false) (h4:(cls (s[p]'hp).toNat==4)=false) (h1:(cls (s[p]'hp).toNat==1)=false) (hq:s[p]'hp≠34) (hh:s[p]'hp≠35) (w:World):Calls Tryz.prog 47 #[.string s,.int .i64 p] w (OneDone (Sx.step (tl s p) p) w):=by
 have hst:Sx.step (tl s p) p=Sx.step (s[p]'hp::tl s (p+1)) p:=by rw [← tl_cons hp]
 rw [Sx.step_cons,← tl_cons hp] at hst
 obtain ⟨st,hS⟩:∃ st,Sx.step (tl s p) p=st:=⟨_,rfl⟩
 rw [hS] at hst ⊢
 clear hS
 have HZ:=Lib.hid hz
 have HP:=Lib.hid hp
 have b1:(0:Int)≤(p:Int):=by omega
 have b2:(p:Int)<(s.size:Int):=by omega
 have HD:=Lib.hid (fun w=>rdate_calls s p (Nat.le_of_lt hp) hz w)
 have hw:st=markS (tl s p) p:=by
  rw [hst,if_neg (by simpa using h1),if_neg (by simpa using h2),if_neg (by simpa using h3),if_neg (by simpa using h4),if_neg (by simpa using hq),if_neg (by simpa using hh)]
 have hcq:(((s[p]'hp).toNat:Int)==34)=false:=by
  simp only [beq_eq_false_iff_ne,ne_eq];intro h9;exact hq (UInt8.toNat_inj.1 (by show (s[p]'hp).toNat=34;omega))
 have HDF:=Lib.hid (show datedL (tl s p)=false by
  rw [tl_cons hp]
  show (dg8 (s[p]'hp)&&datF 9 (tl s (p+1)))=false
  have h1:dg8 (s[p]'hp)=false:=h4
  rw [h1];rfl)
 have HC4:=Lib.hid h4
 have HC2:=Lib.hid h2
 have HC3:=Lib.hid h3
 have HST:=Lib.hid hw
 have HBG:=Lib.hid (fun (m:ByteArray) (hm:m.size≤16) (w:World)=>rbegins_calls s p m (Nat.le_of_lt hp) hz hm w)
 obtain ⟨X,hX⟩:∃ X,w.alloc (.cells markCells.toArray 9)=X:=⟨_,rfl⟩
 have HBX:=Lib.hid (show Below w.heap.size w X by rw [← hX];exact (Below.refl _ w).alloc (Nat.le_refl _) _)
 have HMB:=Lib.hid (show X.heap[w.heap.size]?=some (.cells markCells.toArray 9 (0,0)) by rw [← hX];exact heap_alloc_new w _)
 have HX:=Lib.hid hX
 have HMC:=Lib.hid (fun w:World=>rmarks_calls w)
 clear hst hw hz h1 h2 h3 h4 hq hh hX
 go_enter Tryz.func47,Tryz.ntmps47
 go_wp2_with (first | (go_at_call 65;((with_reducible refine (HD.out _).mono ?_);rw [HDF.out];rintro e w4 ⟨rfl,rfl⟩)) | (go_at_call 66;((with_reducible refine (rdig_calls _ _).mono ?_);rw [HC4.out];rintro e w4 ⟨rfl,rfl⟩)) | (go_at_call 67;((with_reducible refine (rsmall_calls _ _).mono ?_);rw [HC2.out];rintro e w4 ⟨rfl,rfl⟩)) | (go_at_call 68;((with_reducible refine (rcap_calls _ _).mono ?_);rw [HC3.out];rintro e w4 ⟨rfl,rfl⟩)) | (go_at_call 70;((with_reducible refine (HMC.out _).mono ?_);rintro e w4 ⟨rfl,rfl⟩;rw [HX.out])))
 go_loop [12] (fun u12=>∃ i:Nat,u12=.int .i64 i∧i≤21∧st=markL (tl s p) p (marks8.drop i)) (fun u12=>21-(RowKit.intOf u12).toNat)
 case atStart=>exact ⟨0,rfl,by omega,HST.out⟩
 case round =>
  obtain ⟨i,rfl,hi,hf⟩:=hrel
  by_cases hlt:i<21
  ·have hlm:i<marks8.length:=hlt
   have hms8:(marks8[i]).length≤16:=(show ∀ m∈marks8,m.length≤16 by decide) _ (List.getElem_mem hlm)
   obtain ⟨m,hm⟩:∃ m,marks8[i]=m:=⟨_,rfl⟩
   have ymi:=mark_at HMB.out i hlm
   rw [List.drop_eq_getElem_cons hlm,markL_cons] at hf
   rw [hm] at hf ymi hms8
   have x1:(i:Int)<21:=by omega
   have x2:(0:Int)≤(i:Int):=by omega
   have x3:decide ((i:Int)<21)=true:=decide_eq_true x1
   obtain ⟨tm,htm⟩:∃ tm:ByteArray,⟨m.toArray⟩=tm:=⟨_,rfl⟩
   rw [htm] at hf ymi
   have hmsz:tm.size=m.length:=by rw [← htm];show m.toArray.size=_;rw [List.size_toArray]
   have hml:tm.data.toList=m:=by rw [← htm]
   have HB:=Lib.hid (HBG.out tm (by omega))
   rw [hml] at HB
   cases hb:m.isPrefixOf (tl s p)
   ·rw [hb] at hf HB
    have HFF:=Lib.hid (show st=markL (tl s p) p (marks8.drop (i+1)) from hf)
    clear hf hb hms8 hlm hm htm hmsz hml
    go_wp2_with (first | (go_at_call 71;((with_reducible refine (HB.out _).mono ?_);rintro e w5 ⟨rfl,rfl⟩)))
    go_round
    case rel=>exact ⟨i+1,rfl,by omega,HFF.out⟩
    case measure=>simp [RowKit.intOf];omega
   ·rw [hb] at hf HB
    have hpl:=prefix_len hb
    have htl:=tl_len s p
    obtain ⟨q,hq⟩:∃ q,p+m.length=q:=⟨_,rfl⟩
    rw [hq] at hf
    have HFF:=Lib.hid (show st=.tok ⟨6,tm,p⟩ q from hf)
    have hzz:=HZ.out
    have e4:(p:Int)+(tm.size:Int)=(q:Int):=by omega
    have U:=Lib.hid (w64 q (by omega))
    clear hf hb hms8 hlm hm htm hmsz hml hpl htl hq hzz
    obtain ⟨u1,u2⟩:=U.out
    go_upto_region 9 with (first | (go_at_call 71;((with_reducible refine (HB.out _).mono ?_);rintro e w5 ⟨rfl,rfl⟩)))
    go_quiet (fail)
    go_wp2_with fail
    ((try simp only [Exit.inBlock,Exit.then]);refine bodyPost_ret (results_four rfl _ _ _) rfl ?_)
    rw [HFF.out]
    exact ⟨6,q,0,0,rfl,⟨rfl,rfl,rfl,rfl⟩,by first | exact HBX.out | (repeat (first | exact HBX.out | refine below_drewn ?_ _))⟩
  ·have HFF:=Lib.hid (show st=.no 41 p by rw [hf,List.drop_eq_nil_of_le (by show 21≤i;omega)];rfl)
   have x3:decide ((i:Int)<21)=false:=decide_eq_false (by omega)
   clear hf
   go_wp2_with fail
   ((try simp only [Exit.inBlock,Exit.then]);refine bodyPost_ret (results_four rfl _ _ _) rfl ?_)
   rw [HFF.out]
   exact ⟨0,0,41,p,rfl,⟨rfl,rfl,rfl,rfl⟩,HBX.out⟩
theorem rone_calls (s:ByteArray) (p:Nat) (hp:p<s.size) (hz:s.size≤65536) (hb:cls (s[p]'hp).toNat≠1) (hh:s[p]'hp≠35) (w:World):Calls Tryz.prog 47 #[.string s,.int .i64 p] w (OneDone (Sx.step (tl s p) p) w):=by
 by_cases h2:cls (s[p]'hp).toNat=2
 ·exact rone_small s p hp hz h2 w
 by_cases h3:cls (s[p]'hp).toNat=3
 ·exact rone_cap s p hp hz h3 w
 by_cases h4:cls (s[p]'hp).toNat=4
 ·cases hd:datedL (tl s p)
  ·exact rone_num s p hp hz h4 hd w
  ·exact rone_date s p hp hz h4 hd w
 have k1:(cls (s[p]'hp).toNat==1)=false:=by simpa using hb
 have k2:(cls (s[p]'hp).toNat==2)=false:=by simpa using h2
 have k3:(cls (s[p]'hp).toNat==3)=false:=by simpa using h3
 have k4:(cls (s[p]'hp).toNat==4)=false:=by simpa using h4
 by_cases hq:s[p]'hp=34
 ·exact rone_quote s p hp hz k2 k3 k4 k1 hq w
 ·exact rone_mark s p hp hz k2 k3 k4 k1 hq hh w
end Go.Proofs.YtcakgennlliejaaGreatDoor
