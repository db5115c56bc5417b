import Derived.Laws.RangeAny
import Derived.Laws.RangeString
import Derived.Test.YtcakgennlliejaaGreatDoorSynK4
import Derived.Test.YtcakgennlliejaaGreatDoorSynK5
import Derived.Test.YtcakgennlliejaaGreatDoorSynK7
set_option maxHeartbeats 8000000
set_option maxRecDepth 100000
namespace Go.Proofs.YtcakgennlliejaaGreatDoor
open Go.Shelf Go.RowKit Go.Lib
open Go.Proofs.YtcakgennlliejaaGreatDoorW.PrintWords
open Go.Proofs.YtcakgennlliejaaGreatDoor.PSyntaxJoined
set_option linter.unusedVariables false
set_option linter.unusedSimpArgs false
def Sx.calDate (y m d:Int):Int:=(calendar_civil_date.f y m d).getD 0
theorem Sx.calDate_some (y m d:Int):calendar_civil_date.f y m d=some (Sx.calDate y m d):=by
 unfold Sx.calDate calendar_civil_date.f
 split <;> rfl
theorem date_calls (y m d:Int) (w:World):Calls Tryz.prog 142 #[.agg #[.int .i64 y,.int .i64 m,.int .i64 d]] w fun e w'=>e=.returned (.int .i64 (Sx.calDate y m d))∧Below w.heap.size w w' :=
 calendar_civil_date.calls y m d _ w (Sx.calDate_some y m d)
def Sx.calOf (y m d:Int):Int × Int:=if Sx.calOk y m d then (Sx.calDate y m d,0) else (0,31)
theorem of_calls (y m d:Int) (w:World):Calls Tryz.prog 127 #[.int .i64 y,.int .i64 m,.int .i64 d] w fun e w'=>e=.returned (.tuple #[.int .i64 (Sx.calOf y m d).1,.int .i64 (Sx.calOf y m d).2])∧Below w.heap.size w w':=by
 have HO:=Lib.hid (ok_calls y m d)
 have HD:=Lib.hid (date_calls y m d)
 have hF:Sx.calOf y m d=if Sx.calOk y m d then (Sx.calDate y m d,0) else (0,31):=rfl
 generalize Sx.calDate y m d=dd at *
 generalize Sx.calOk y m d=b at *
 generalize Sx.calOf y m d=F at *
 have HF:=Lib.hid hF
 clear hF
 go_enter Tryz.func127,Tryz.ntmps127
 go_upto_region 2 with (fail)
 obtain ⟨X,hX⟩:∃ X,w.alloc (Obj.cells #[.int .i64 y,.int .i64 m,.int .i64 d] 202)=X:=⟨_,rfl⟩
 have hb:X.heap[w.heap.size]?=some (.cells #[.int .i64 y,.int .i64 m,.int .i64 d] 202 (0,0)):=by rw [← hX];exact heap_alloc_new w _
 have HB:=Lib.hid (show Below w.heap.size w X by rw [← hX];exact (Below.refl _ w).alloc (Nat.le_refl _) _)
 have x0:X.cell? ⟨w.heap.size,0,none⟩=some (.int .i64 y):=blk_cell hb 0 rfl
 have x1:X.cell? ⟨w.heap.size,1,none⟩=some (.int .i64 m):=blk_cell hb 1 rfl
 have x2:X.cell? ⟨w.heap.size,2,none⟩=some (.int .i64 d):=blk_cell hb 2 rfl
 try rw [hX]
 clear hX hb
 cases b
 ·go_wp2_with (first | (go_at_call 141;refine (HO.out X).mono ?_;rintro e w4 ⟨rfl,hb1⟩))
  go_ret2
  exact ⟨by rw [HF.out];rfl,below_next HB.out hb1⟩
 ·go_wp2_with (first | (go_at_call 141;refine (HO.out X).mono ?_;rintro e w4 ⟨rfl,hb1⟩;have x0:=keep_cell x0 hb1;have x1:=keep_cell x1 hb1;have x2:=keep_cell x2 hb1) | (go_at_call 142;refine (HD.out w4).mono ?_;rintro e w5 ⟨rfl,hb2⟩))
  go_ret2
  exact ⟨by rw [HF.out];rfl,below_next (below_next HB.out hb1) hb2⟩
end Go.Proofs.YtcakgennlliejaaGreatDoor
namespace Go.Proofs.YtcakgennlliejaaGreatDoor
open Go.Shelf Go.RowKit Go.Lib
open Go.Proofs.YtcakgennlliejaaGreatDoorW.PrintWords
open Go.Proofs.YtcakgennlliejaaGreatDoor.PSyntaxJoined
set_option linter.unusedVariables false
set_option linter.unusedSimpArgs false
def Sx.cdg (a:Int) (c:UInt8):Int:=wrap64 (wrap64 (10*a)+((c.toNat:Int)-48) % 256)
def Sx.cst:List UInt8→Nat→Int→Int→Int→Option (Int × Int × Int)
 | [],_,a,b,c=>some (a,b,c)
 | ch::l,i,a,b,c =>
  if i=4∨i=7 then (if (ch.toNat:Int)=45 then cst l (i+1) a b c else none)
  else if (ch.toNat:Int)<48∨(57:Int)<(ch.toNat:Int) then none
  else if i<4 then cst l (i+1) (cdg a ch) b c else if i<7 then cst l (i+1) a (cdg b ch) c else cst l (i+1) a b (cdg c ch)
theorem Sx.cst_cons (ch:UInt8) (l:List UInt8) (i:Nat) (a b c:Int):Sx.cst (ch::l) i a b c =
  if i=4∨i=7 then (if (ch.toNat:Int)=45 then Sx.cst l (i+1) a b c else none)
  else if (ch.toNat:Int)<48∨(57:Int)<(ch.toNat:Int) then none
  else if i<4 then Sx.cst l (i+1) (Sx.cdg a ch) b c else if i<7 then Sx.cst l (i+1) a (Sx.cdg b ch) c else Sx.cst l (i+1) a b (Sx.cdg c ch):=rfl
def Sx.cal (s:ByteArray):Int × Int:=if s.size=10 then match Sx.cst s.data.toList 0 0 0 0 with
 | some (a,b,c)=>Sx.calOf a b c
 | none=>(0,31) else (0,31)
def Sx.cat (i:Nat):Nat:=if i≤4 then 0 else if i≤7 then 1 else 2
theorem cal_calls (s:ByteArray) (w:World):Calls Tryz.prog 108 #[.string s] w fun e w'=>e=.returned (.tuple #[.int .i64 (Sx.cal s).1,.int .i64 (Sx.cal s).2])∧Below w.heap.size w w':=by
 by_cases hs:s.size=10
 ·have hF:Sx.cal s=match Sx.cst s.data.toList 0 0 0 0 with
   | some (a,b,c)=>Sx.calOf a b c
   | none=>(0,31):=by unfold Sx.cal;rw [if_pos hs]
  have e1:((s.size:Int) != 10)=false:=by rw [hs];rfl
  have e1n:(s.size != 10)=false:=by rw [hs];rfl
  obtain ⟨F,hFF⟩:∃ F,Sx.cal s=F:=⟨_,rfl⟩
  rw [hFF] at hF ⊢
  have HF:=Lib.hid hF
  have HSZ:=Lib.hid hs
  have hsz:s.data.toList.length=s.size:=rfl
  clear hF hFF
  go_enter Tryz.func108,Tryz.ntmps108
  go_upto_region 6 with (fail)
  obtain ⟨nb,hnb⟩:∃ n,w.heap.size=n:=⟨_,rfl⟩
  have hb0:=heap_alloc_new w (.cells #[.int .i64 0,.int .i64 0,.int .i64 0] 188)
  have HB0:=Lib.hid ((Below.refl _ w).alloc (Nat.le_refl _) (.cells #[.int .i64 0,.int .i64 0,.int .i64 0] 188))
  rw [hnb] at hb0 HB0 ⊢
  have HB1:=Lib.hid hb0
  clear hb0
  clear hs e1 e1n
  go_loopw [5,13] (fun av v wr=>∃ (i:Nat),v=.int .i64 i∧i≤10∧av=.int .i64 (Sx.cat i)∧∃ (a b c:Int),wr.heap[nb]?=some (.cells #[.int .i64 a,.int .i64 b,.int .i64 c] 188 (0,0))∧Below nb w wr∧Sx.cst s.data.toList 0 0 0 0=Sx.cst (s.data.toList.drop i) i a b c) (fun _ v _=>10-Sx.iv v)
  case atStart=>exact ⟨0,rfl,Nat.zero_le _,rfl,0,0,0,HB1.out,HB0.out,rfl⟩
  case round =>
   obtain ⟨i,rfl,hi,rfl,a,b,c,hn,hb,hw⟩:=hrel
   have HN:=Lib.hid hn
   have HB:=Lib.hid hb
   by_cases hlt:i<10
   ·have hl:i<s.size:=by rw [HSZ.out];exact hlt
    have e5:s.data.toList.drop i=s[i]::s.data.toList.drop (i+1):=by
     rw [List.drop_eq_getElem_cons (show i<s.data.toList.length from hl)]
     rfl
    rw [e5] at hw
    have HW:=Lib.hid hw
    have hs:=HSZ.out
    clear hw hn hb e5
    have hcase:i=0∨i=1∨i=2∨i=3∨i=4∨i=5∨i=6∨i=7∨i=8∨i=9:=by omega
    rcases hcase with rfl | rfl | rfl | rfl | rfl | rfl | rfl | rfl | rfl | rfl
    ·have hcat:Sx.cat 0=0:=rfl
     by_cases hc1:(((s[0]'(show 0<s.size by rw [hs];decide))).toNat:Int)<48
     ·have c1:decide ((((s[0]'(show 0<s.size by rw [hs];decide))).toNat:Int)<48)=true:=decide_eq_true hc1
      have c2:decide (((s[0]'(show 0<s.size by rw [hs];decide))).toNat<48)=true:=decide_eq_true (by omega)
      have HG:=Lib.hid (show F=(0,31) by rw [HF.out,HW.out];rw [Sx.cst_cons,if_neg (by decide),if_pos (.inl hc1)])
      clear hc1
      go_wp2_with fail
      go_ret2
      exact ⟨by rw [HG.out];try rfl,by rw [hnb];exact HB.out⟩
     ·have c1:decide ((((s[0]'(show 0<s.size by rw [hs];decide))).toNat:Int)<48)=false:=decide_eq_false hc1
      have c2:decide (((s[0]'(show 0<s.size by rw [hs];decide))).toNat<48)=false:=decide_eq_false (by omega)
      by_cases hc2:(57:Int)<(((s[0]'(show 0<s.size by rw [hs];decide))).toNat:Int)
      ·have c3:decide ((57:Int)<(((s[0]'(show 0<s.size by rw [hs];decide))).toNat:Int))=true:=decide_eq_true hc2
       have c4:decide ((57:Int)<((s[0]'(show 0<s.size by rw [hs];decide))).toNat)=true:=decide_eq_true (by omega)
       have HG:=Lib.hid (show F=(0,31) by rw [HF.out,HW.out];rw [Sx.cst_cons,if_neg (by decide),if_pos (.inr hc2)])
       clear hc1 hc2
       go_wp2_with fail
       go_ret2
       exact ⟨by rw [HG.out];try rfl,by rw [hnb];exact HB.out⟩
      ·have c3:decide ((57:Int)<(((s[0]'(show 0<s.size by rw [hs];decide))).toNat:Int))=false:=decide_eq_false hc2
       have c4:decide ((57:Int)<((s[0]'(show 0<s.size by rw [hs];decide))).toNat)=false:=decide_eq_false (by omega)
       have hc3:¬ ((((s[0]'(show 0<s.size by rw [hs];decide))).toNat:Int)<48∨(57:Int)<(((s[0]'(show 0<s.size by rw [hs];decide))).toNat:Int)):=fun e=>e.elim hc1 hc2
       have HW2:=Lib.hid (show Sx.cst s.data.toList 0 0 0 0=Sx.cst (s.data.toList.drop 1) 1 (Sx.cdg a (s[0]'(show 0<s.size by rw [hs];decide))) b c by rw [HW.out];rw [Sx.cst_cons,if_neg (by decide),if_neg hc3,if_pos (by decide)])
       have yv:=blk_cell (v:=.int .i64 a) HN.out 0 rfl
       have fv:=blk_free HN.out 0
       clear hc1 hc2 hc3
       go_wp2_with fail
       go_roundw
       case rel=>exact ⟨1,rfl,by decide,by first | rfl | decide,_,b,c,heap_setCell_same HN.out 0 _,HB.out.setCell (p:=⟨nb,0,none⟩) (Nat.le_refl _) _,HW2.out⟩
       case measure=>simp [Sx.iv]
    ·have hcat:Sx.cat 1=0:=rfl
     by_cases hc1:(((s[1]'(show 1<s.size by rw [hs];decide))).toNat:Int)<48
     ·have c1:decide ((((s[1]'(show 1<s.size by rw [hs];decide))).toNat:Int)<48)=true:=decide_eq_true hc1
      have c2:decide (((s[1]'(show 1<s.size by rw [hs];decide))).toNat<48)=true:=decide_eq_true (by omega)
      have HG:=Lib.hid (show F=(0,31) by rw [HF.out,HW.out];rw [Sx.cst_cons,if_neg (by decide),if_pos (.inl hc1)])
      clear hc1
      go_wp2_with fail
      go_ret2
      exact ⟨by rw [HG.out];try rfl,by rw [hnb];exact HB.out⟩
     ·have c1:decide ((((s[1]'(show 1<s.size by rw [hs];decide))).toNat:Int)<48)=false:=decide_eq_false hc1
      have c2:decide (((s[1]'(show 1<s.size by rw [hs];decide))).toNat<48)=false:=decide_eq_false (by omega)
      by_cases hc2:(57:Int)<(((s[1]'(show 1<s.size by rw [hs];decide))).toNat:Int)
      ·have c3:decide ((57:Int)<(((s[1]'(show 1<s.size by rw [hs];decide))).toNat:Int))=true:=decide_eq_true hc2
       have c4:decide ((57:Int)<((s[1]'(show 1<s.size by rw [hs];decide))).toNat)=true:=decide_eq_true (by omega)
       have HG:=Lib.hid (show F=(0,31) by rw [HF.out,HW.out];rw [Sx.cst_cons,if_neg (by decide),if_pos (.inr hc2)])
       clear hc1 hc2
       go_wp2_with fail
       go_ret2
       exact ⟨by rw [HG.out];try rfl,by rw [hnb];exact HB.out⟩
      ·have c3:decide ((57:Int)<(((s[1]'(show 1<s.size by rw [hs];decide))).toNat:Int))=false:=decide_eq_false hc2
       have c4:decide ((57:Int)<((s[1]'(show 1<s.size by rw [hs];decide))).toNat)=false:=decide_eq_false (by omega)
       have hc3:¬ ((((s[1]'(show 1<s.size by rw [hs];decide))).toNat:Int)<48∨(57:Int)<(((s[1]'(show 1<s.size by rw [hs];decide))).toNat:Int)):=fun e=>e.elim hc1 hc2
       have HW2:=Lib.hid (show Sx.cst s.data.toList 0 0 0 0=Sx.cst (s.data.toList.drop 2) 2 (Sx.cdg a (s[1]'(show 1<s.size by rw [hs];decide))) b c by rw [HW.out];rw [Sx.cst_cons,if_neg (by decide),if_neg hc3,if_pos (by decide)])
       have yv:=blk_cell (v:=.int .i64 a) HN.out 0 rfl
       have fv:=blk_free HN.out 0
       clear hc1 hc2 hc3
       go_wp2_with fail
       go_roundw
       case rel=>exact ⟨2,rfl,by decide,by first | rfl | decide,_,b,c,heap_setCell_same HN.out 0 _,HB.out.setCell (p:=⟨nb,0,none⟩) (Nat.le_refl _) _,HW2.out⟩
       case measure=>simp [Sx.iv]
    ·have hcat:Sx.cat 2=0:=rfl
     by_cases hc1:(((s[2]'(show 2<s.size by rw [hs];decide))).toNat:Int)<48
     ·have c1:decide ((((s[2]'(show 2<s.size by rw [hs];decide))).toNat:Int)<48)=true:=decide_eq_true hc1
      have c2:decide (((s[2]'(show 2<s.size by rw [hs];decide))).toNat<48)=true:=decide_eq_true (by omega)
      have HG:=Lib.hid (show F=(0,31) by rw [HF.out,HW.out];rw [Sx.cst_cons,if_neg (by decide),if_pos (.inl hc1)])
      clear hc1
      go_wp2_with fail
      go_ret2
      exact ⟨by rw [HG.out];try rfl,by rw [hnb];exact HB.out⟩
     ·have c1:decide ((((s[2]'(show 2<s.size by rw [hs];decide))).toNat:Int)<48)=false:=decide_eq_false hc1
      have c2:decide (((s[2]'(show 2<s.size by rw [hs];decide))).toNat<48)=false:=decide_eq_false (by omega)
      by_cases hc2:(57:Int)<(((s[2]'(show 2<s.size by rw [hs];decide))).toNat:Int)
      ·have c3:decide ((57:Int)<(((s[2]'(show 2<s.size by rw [hs];decide))).toNat:Int))=true:=decide_eq_true hc2
       have c4:decide ((57:Int)<((s[2]'(show 2<s.size by rw [hs];decide))).toNat)=true:=decide_eq_true (by omega)
       have HG:=Lib.hid (show F=(0,31) by rw [HF.out,HW.out];rw [Sx.cst_cons,if_neg (by decide),if_pos (.inr hc2)])
       clear hc1 hc2
       go_wp2_with fail
       go_ret2
       exact ⟨by rw [HG.out];try rfl,by rw [hnb];exact HB.out⟩
      ·have c3:decide ((57:Int)<(((s[2]'(show 2<s.size by rw [hs];decide))).toNat:Int))=false:=decide_eq_false hc2
       have c4:decide ((57:Int)<((s[2]'(show 2<s.size by rw [hs];decide))).toNat)=false:=decide_eq_false (by omega)
       have hc3:¬ ((((s[2]'(show 2<s.size by rw [hs];decide))).toNat:Int)<48∨(57:Int)<(((s[2]'(show 2<s.size by rw [hs];decide))).toNat:Int)):=fun e=>e.elim hc1 hc2
       have HW2:=Lib.hid (show Sx.cst s.data.toList 0 0 0 0=Sx.cst (s.data.toList.drop 3) 3 (Sx.cdg a (s[2]'(show 2<s.size by rw [hs];decide))) b c by rw [HW.out];rw [Sx.cst_cons,if_neg (by decide),if_neg hc3,if_pos (by decide)])
       have yv:=blk_cell (v:=.int .i64 a) HN.out 0 rfl
       have fv:=blk_free HN.out 0
       clear hc1 hc2 hc3
       go_wp2_with fail
       go_roundw
       case rel=>exact ⟨3,rfl,by decide,by first | rfl | decide,_,b,c,heap_setCell_same HN.out 0 _,HB.out.setCell (p:=⟨nb,0,none⟩) (Nat.le_refl _) _,HW2.out⟩
       case measure=>simp [Sx.iv]
    ·have hcat:Sx.cat 3=0:=rfl
     by_cases hc1:(((s[3]'(show 3<s.size by rw [hs];decide))).toNat:Int)<48
     ·have c1:decide ((((s[3]'(show 3<s.size by rw [hs];decide))).toNat:Int)<48)=true:=decide_eq_true hc1
      have c2:decide (((s[3]'(show 3<s.size by rw [hs];decide))).toNat<48)=true:=decide_eq_true (by omega)
      have HG:=Lib.hid (show F=(0,31) by rw [HF.out,HW.out];rw [Sx.cst_cons,if_neg (by decide),if_pos (.inl hc1)])
      clear hc1
      go_wp2_with fail
      go_ret2
      exact ⟨by rw [HG.out];try rfl,by rw [hnb];exact HB.out⟩
     ·have c1:decide ((((s[3]'(show 3<s.size by rw [hs];decide))).toNat:Int)<48)=false:=decide_eq_false hc1
      have c2:decide (((s[3]'(show 3<s.size by rw [hs];decide))).toNat<48)=false:=decide_eq_false (by omega)
      by_cases hc2:(57:Int)<(((s[3]'(show 3<s.size by rw [hs];decide))).toNat:Int)
      ·have c3:decide ((57:Int)<(((s[3]'(show 3<s.size by rw [hs];decide))).toNat:Int))=true:=decide_eq_true hc2
       have c4:decide ((57:Int)<((s[3]'(show 3<s.size by rw [hs];decide))).toNat)=true:=decide_eq_true (by omega)
       have HG:=Lib.hid (show F=(0,31) by rw [HF.out,HW.out];rw [Sx.cst_cons,if_neg (by decide),if_pos (.inr hc2)])
       clear hc1 hc2
       go_wp2_with fail
       go_ret2
       exact ⟨by rw [HG.out];try rfl,by rw [hnb];exact HB.out⟩
      ·have c3:decide ((57:Int)<(((s[3]'(show 3<s.size by rw [hs];decide))).toNat:Int))=false:=decide_eq_false hc2
       have c4:decide ((57:Int)<((s[3]'(show 3<s.size by rw [hs];decide))).toNat)=false:=decide_eq_false (by omega)
       have hc3:¬ ((((s[3]'(show 3<s.size by rw [hs];decide))).toNat:Int)<48∨(57:Int)<(((s[3]'(show 3<s.size by rw [hs];decide))).toNat:Int)):=fun e=>e.elim hc1 hc2
       have HW2:=Lib.hid (show Sx.cst s.data.toList 0 0 0 0=Sx.cst (s.data.toList.drop 4) 4 (Sx.cdg a (s[3]'(show 3<s.size by rw [hs];decide))) b c by rw [HW.out];rw [Sx.cst_cons,if_neg (by decide),if_neg hc3,if_pos (by decide)])
       have yv:=blk_cell (v:=.int .i64 a) HN.out 0 rfl
       have fv:=blk_free HN.out 0
       clear hc1 hc2 hc3
       go_wp2_with fail
       go_roundw
       case rel=>exact ⟨4,rfl,by decide,by first | rfl | decide,_,b,c,heap_setCell_same HN.out 0 _,HB.out.setCell (p:=⟨nb,0,none⟩) (Nat.le_refl _) _,HW2.out⟩
       case measure=>simp [Sx.iv]
    ·have hcat:Sx.cat 4=0:=rfl
     by_cases hc:(((s[4]'(show 4<s.size by rw [hs];decide))).toNat:Int)=45
     ·have c1:((((s[4]'(show 4<s.size by rw [hs];decide))).toNat:Int) != 45)=false:=by simpa using hc
      have c2:(((s[4]'(show 4<s.size by rw [hs];decide))).toNat != 45)=false:=by simp only [bne_eq_false_iff_eq];omega
      have HW2:=Lib.hid (show Sx.cst s.data.toList 0 0 0 0=Sx.cst (s.data.toList.drop 5) 5 a b c by rw [HW.out];rw [Sx.cst_cons,if_pos (by decide),if_pos hc])
      clear hc
      go_wp2_with fail
      go_roundw
      case rel=>exact ⟨5,rfl,by decide,by first | rfl | decide,a,b,c,HN.out,HB.out,HW2.out⟩
      case measure=>simp [Sx.iv]
     ·have c1:((((s[4]'(show 4<s.size by rw [hs];decide))).toNat:Int) != 45)=true:=by simpa using hc
      have c2:(((s[4]'(show 4<s.size by rw [hs];decide))).toNat != 45)=true:=by simp only [bne_iff_ne,ne_eq];omega
      have HG:=Lib.hid (show F=(0,31) by rw [HF.out,HW.out];rw [Sx.cst_cons,if_pos (by decide),if_neg hc])
      clear hc
      go_wp2_with fail
      go_ret2
      exact ⟨by rw [HG.out];try rfl,by rw [hnb];exact HB.out⟩
    ·have hcat:Sx.cat 5=1:=rfl
     by_cases hc1:(((s[5]'(show 5<s.size by rw [hs];decide))).toNat:Int)<48
     ·have c1:decide ((((s[5]'(show 5<s.size by rw [hs];decide))).toNat:Int)<48)=true:=decide_eq_true hc1
      have c2:decide (((s[5]'(show 5<s.size by rw [hs];decide))).toNat<48)=true:=decide_eq_true (by omega)
      have HG:=Lib.hid (show F=(0,31) by rw [HF.out,HW.out];rw [Sx.cst_cons,if_neg (by decide),if_pos (.inl hc1)])
      clear hc1
      go_wp2_with fail
      go_ret2
      exact ⟨by rw [HG.out];try rfl,by rw [hnb];exact HB.out⟩
     ·have c1:decide ((((s[5]'(show 5<s.size by rw [hs];decide))).toNat:Int)<48)=false:=decide_eq_false hc1
      have c2:decide (((s[5]'(show 5<s.size by rw [hs];decide))).toNat<48)=false:=decide_eq_false (by omega)
      by_cases hc2:(57:Int)<(((s[5]'(show 5<s.size by rw [hs];decide))).toNat:Int)
      ·have c3:decide ((57:Int)<(((s[5]'(show 5<s.size by rw [hs];decide))).toNat:Int))=true:=decide_eq_true hc2
       have c4:decide ((57:Int)<((s[5]'(show 5<s.size by rw [hs];decide))).toNat)=true:=decide_eq_true (by omega)
       have HG:=Lib.hid (show F=(0,31) by rw [HF.out,HW.out];rw [Sx.cst_cons,if_neg (by decide),if_pos (.inr hc2)])
       clear hc1 hc2
       go_wp2_with fail
       go_ret2
       exact ⟨by rw [HG.out];try rfl,by rw [hnb];exact HB.out⟩
      ·have c3:decide ((57:Int)<(((s[5]'(show 5<s.size by rw [hs];decide))).toNat:Int))=false:=decide_eq_false hc2
       have c4:decide ((57:Int)<((s[5]'(show 5<s.size by rw [hs];decide))).toNat)=false:=decide_eq_false (by omega)
       have hc3:¬ ((((s[5]'(show 5<s.size by rw [hs];decide))).toNat:Int)<48∨(57:Int)<(((s[5]'(show 5<s.size by rw [hs];decide))).toNat:Int)):=fun e=>e.elim hc1 hc2
       have HW2:=Lib.hid (show Sx.cst s.data.toList 0 0 0 0=Sx.cst (s.data.toList.drop 6) 6 a (Sx.cdg b (s[5]'(show 5<s.size by rw [hs];decide))) c by rw [HW.out];rw [Sx.cst_cons,if_neg (by decide),if_neg hc3,if_neg (by decide),if_pos (by decide)])
       have yv:=blk_cell (v:=.int .i64 b) HN.out 1 rfl
       have fv:=blk_free HN.out 1
       clear hc1 hc2 hc3
       go_wp2_with fail
       go_roundw
       case rel=>exact ⟨6,rfl,by decide,by first | rfl | decide,a,_,c,heap_setCell_same HN.out 1 _,HB.out.setCell (p:=⟨nb,1,none⟩) (Nat.le_refl _) _,HW2.out⟩
       case measure=>simp [Sx.iv]
    ·have hcat:Sx.cat 6=1:=rfl
     by_cases hc1:(((s[6]'(show 6<s.size by rw [hs];decide))).toNat:Int)<48
     ·have c1:decide ((((s[6]'(show 6<s.size by rw [hs];decide))).toNat:Int)<48)=true:=decide_eq_true hc1
      have c2:decide (((s[6]'(show 6<s.size by rw [hs];decide))).toNat<48)=true:=decide_eq_true (by omega)
      have HG:=Lib.hid (show F=(0,31) by rw [HF.out,HW.out];rw [Sx.cst_cons,if_neg (by decide),if_pos (.inl hc1)])
      clear hc1
      go_wp2_with fail
      go_ret2
      exact ⟨by rw [HG.out];try rfl,by rw [hnb];exact HB.out⟩
     ·have c1:decide ((((s[6]'(show 6<s.size by rw [hs];decide))).toNat:Int)<48)=false:=decide_eq_false hc1
      have c2:decide (((s[6]'(show 6<s.size by rw [hs];decide))).toNat<48)=false:=decide_eq_false (by omega)
      by_cases hc2:(57:Int)<(((s[6]'(show 6<s.size by rw [hs];decide))).toNat:Int)
      ·have c3:decide ((57:Int)<(((s[6]'(show 6<s.size by rw [hs];decide))).toNat:Int))=true:=decide_eq_true hc2
       have c4:decide ((57:Int)<((s[6]'(show 6<s.size by rw [hs];decide))).toNat)=true:=decide_eq_true (by omega)
       have HG:=Lib.hid (show F=(0,31) by rw [HF.out,HW.out];rw [Sx.cst_cons,if_neg (by decide),if_pos (.inr hc2)])
       clear hc1 hc2
       go_wp2_with fail
       go_ret2
       exact ⟨by rw [HG.out];try rfl,by rw [hnb];exact HB.out⟩
      ·have c3:decide ((57:Int)<(((s[6]'(show 6<s.size by rw [hs];decide))).toNat:Int))=false:=decide_eq_false hc2
       have c4:decide ((57:Int)<((s[6]'(show 6<s.size by rw [hs];decide))).toNat)=false:=decide_eq_false (by omega)
       have hc3:¬ ((((s[6]'(show 6<s.size by rw [hs];decide))).toNat:Int)<48∨(57:Int)<(((s[6]'(show 6<s.size by rw [hs];decide))).toNat:Int)):=fun e=>e.elim hc1 hc2
       have HW2:=Lib.hid (show Sx.cst s.data.toList 0 0 0 0=Sx.cst (s.data.toList.drop 7) 7 a (Sx.cdg b (s[6]'(show 6<s.size by rw [hs];decide))) c by rw [HW.out];rw [Sx.cst_cons,if_neg (by decide),if_neg hc3,if_neg (by decide),if_pos (by decide)])
       have yv:=blk_cell (v:=.int .i64 b) HN.out 1 rfl
       have fv:=blk_free HN.out 1
       clear hc1 hc2 hc3
       go_wp2_with fail
       go_roundw
       case rel=>exact ⟨7,rfl,by decide,by first | rfl | decide,a,_,c,heap_setCell_same HN.out 1 _,HB.out.setCell (p:=⟨nb,1,none⟩) (Nat.le_refl _) _,HW2.out⟩
       case measure=>simp [Sx.iv]
    ·have hcat:Sx.cat 7=1:=rfl
     by_cases hc:(((s[7]'(show 7<s.size by rw [hs];decide))).toNat:Int)=45
     ·have c1:((((s[7]'(show 7<s.size by rw [hs];decide))).toNat:Int) != 45)=false:=by simpa using hc
      have c2:(((s[7]'(show 7<s.size by rw [hs];decide))).toNat != 45)=false:=by simp only [bne_eq_false_iff_eq];omega
      have HW2:=Lib.hid (show Sx.cst s.data.toList 0 0 0 0=Sx.cst (s.data.toList.drop 8) 8 a b c by rw [HW.out];rw [Sx.cst_cons,if_pos (by decide),if_pos hc])
      clear hc
      go_wp2_with fail
      go_roundw
      case rel=>exact ⟨8,rfl,by decide,by first | rfl | decide,a,b,c,HN.out,HB.out,HW2.out⟩
      case measure=>simp [Sx.iv]
     ·have c1:((((s[7]'(show 7<s.size by rw [hs];decide))).toNat:Int) != 45)=true:=by simpa using hc
      have c2:(((s[7]'(show 7<s.size by rw [hs];decide))).toNat != 45)=true:=by simp only [bne_iff_ne,ne_eq];omega
      have HG:=Lib.hid (show F=(0,31) by rw [HF.out,HW.out];rw [Sx.cst_cons,if_pos (by decide),if_neg hc])
      clear hc
      go_wp2_with fail
      go_ret2
      exact ⟨by rw [HG.out];try rfl,by rw [hnb];exact HB.out⟩
    ·have hcat:Sx.cat 8=2:=rfl
     by_cases hc1:(((s[8]'(show 8<s.size by rw [hs];decide))).toNat:Int)<48
     ·have c1:decide ((((s[8]'(show 8<s.size by rw [hs];decide))).toNat:Int)<48)=true:=decide_eq_true hc1
      have c2:decide (((s[8]'(show 8<s.size by rw [hs];decide))).toNat<48)=true:=decide_eq_true (by omega)
      have HG:=Lib.hid (show F=(0,31) by rw [HF.out,HW.out];rw [Sx.cst_cons,if_neg (by decide),if_pos (.inl hc1)])
      clear hc1
      go_wp2_with fail
      go_ret2
      exact ⟨by rw [HG.out];try rfl,by rw [hnb];exact HB.out⟩
     ·have c1:decide ((((s[8]'(show 8<s.size by rw [hs];decide))).toNat:Int)<48)=false:=decide_eq_false hc1
      have c2:decide (((s[8]'(show 8<s.size by rw [hs];decide))).toNat<48)=false:=decide_eq_false (by omega)
      by_cases hc2:(57:Int)<(((s[8]'(show 8<s.size by rw [hs];decide))).toNat:Int)
      ·have c3:decide ((57:Int)<(((s[8]'(show 8<s.size by rw [hs];decide))).toNat:Int))=true:=decide_eq_true hc2
       have c4:decide ((57:Int)<((s[8]'(show 8<s.size by rw [hs];decide))).toNat)=true:=decide_eq_true (by omega)
       have HG:=Lib.hid (show F=(0,31) by rw [HF.out,HW.out];rw [Sx.cst_cons,if_neg (by decide),if_pos (.inr hc2)])
       clear hc1 hc2
       go_wp2_with fail
       go_ret2
       exact ⟨by rw [HG.out];try rfl,by rw [hnb];exact HB.out⟩
      ·have c3:decide ((57:Int)<(((s[8]'(show 8<s.size by rw [hs];decide))).toNat:Int))=false:=decide_eq_false hc2
       have c4:decide ((57:Int)<((s[8]'(show 8<s.size by rw [hs];decide))).toNat)=false:=decide_eq_false (by omega)
       have hc3:¬ ((((s[8]'(show 8<s.size by rw [hs];decide))).toNat:Int)<48∨(57:Int)<(((s[8]'(show 8<s.size by rw [hs];decide))).toNat:Int)):=fun e=>e.elim hc1 hc2
       have HW2:=Lib.hid (show Sx.cst s.data.toList 0 0 0 0=Sx.cst (s.data.toList.drop 9) 9 a b (Sx.cdg c (s[8]'(show 8<s.size by rw [hs];decide))) by rw [HW.out];rw [Sx.cst_cons,if_neg (by decide),if_neg hc3,if_neg (by decide),if_neg (by decide)])
       have yv:=blk_cell (v:=.int .i64 c) HN.out 2 rfl
       have fv:=blk_free HN.out 2
       clear hc1 hc2 hc3
       go_wp2_with fail
       go_roundw
       case rel=>exact ⟨9,rfl,by decide,by first | rfl | decide,a,b,_,heap_setCell_same HN.out 2 _,HB.out.setCell (p:=⟨nb,2,none⟩) (Nat.le_refl _) _,HW2.out⟩
       case measure=>simp [Sx.iv]
    ·have hcat:Sx.cat 9=2:=rfl
     by_cases hc1:(((s[9]'(show 9<s.size by rw [hs];decide))).toNat:Int)<48
     ·have c1:decide ((((s[9]'(show 9<s.size by rw [hs];decide))).toNat:Int)<48)=true:=decide_eq_true hc1
      have c2:decide (((s[9]'(show 9<s.size by rw [hs];decide))).toNat<48)=true:=decide_eq_true (by omega)
      have HG:=Lib.hid (show F=(0,31) by rw [HF.out,HW.out];rw [Sx.cst_cons,if_neg (by decide),if_pos (.inl hc1)])
      clear hc1
      go_wp2_with fail
      go_ret2
      exact ⟨by rw [HG.out];try rfl,by rw [hnb];exact HB.out⟩
     ·have c1:decide ((((s[9]'(show 9<s.size by rw [hs];decide))).toNat:Int)<48)=false:=decide_eq_false hc1
      have c2:decide (((s[9]'(show 9<s.size by rw [hs];decide))).toNat<48)=false:=decide_eq_false (by omega)
      by_cases hc2:(57:Int)<(((s[9]'(show 9<s.size by rw [hs];decide))).toNat:Int)
      ·have c3:decide ((57:Int)<(((s[9]'(show 9<s.size by rw [hs];decide))).toNat:Int))=true:=decide_eq_true hc2
       have c4:decide ((57:Int)<((s[9]'(show 9<s.size by rw [hs];decide))).toNat)=true:=decide_eq_true (by omega)
       have HG:=Lib.hid (show F=(0,31) by rw [HF.out,HW.out];rw [Sx.cst_cons,if_neg (by decide),if_pos (.inr hc2)])
       clear hc1 hc2
       go_wp2_with fail
       go_ret2
       exact ⟨by rw [HG.out];try rfl,by rw [hnb];exact HB.out⟩
      ·have c3:decide ((57:Int)<(((s[9]'(show 9<s.size by rw [hs];decide))).toNat:Int))=false:=decide_eq_false hc2
       have c4:decide ((57:Int)<((s[9]'(show 9<s.size by rw [hs];decide))).toNat)=false:=decide_eq_false (by omega)
       have hc3:¬ ((((s[9]'(show 9<s.size by rw [hs];decide))).toNat:Int)<48∨(57:Int)<(((s[9]'(show 9<s.size by rw [hs];decide))).toNat:Int)):=fun e=>e.elim hc1 hc2
       have HW2:=Lib.hid (show Sx.cst s.data.toList 0 0 0 0=Sx.cst (s.data.toList.drop 10) 10 a b (Sx.cdg c (s[9]'(show 9<s.size by rw [hs];decide))) by rw [HW.out];rw [Sx.cst_cons,if_neg (by decide),if_neg hc3,if_neg (by decide),if_neg (by decide)])
       have yv:=blk_cell (v:=.int .i64 c) HN.out 2 rfl
       have fv:=blk_free HN.out 2
       clear hc1 hc2 hc3
       go_wp2_with fail
       go_roundw
       case rel=>exact ⟨10,rfl,by decide,by first | rfl | decide,a,b,_,heap_setCell_same HN.out 2 _,HB.out.setCell (p:=⟨nb,2,none⟩) (Nat.le_refl _) _,HW2.out⟩
       case measure=>simp [Sx.iv]
   ·have hi2:i=10:=by omega
    subst hi2
    have hw2:Sx.cst s.data.toList 0 0 0 0=some (a,b,c):=by
     rw [hw,List.drop_eq_nil_of_le (by show s.size≤10;rw [HSZ.out];exact Nat.le_refl _)];rfl
    have HG:=Lib.hid (show F=Sx.calOf a b c by rw [HF.out,hw2])
    have HOF:=Lib.hid (of_calls a b c)
    have y0:=blk_cell (v:=.int .i64 a) hn 0 rfl
    have y1:=blk_cell (v:=.int .i64 b) hn 1 rfl
    have y2:=blk_cell (v:=.int .i64 c) hn 2 rfl
    clear hw hw2 hn hlt hi
    go_wp2_with (first | (go_at_call 127;refine (HOF.out _).mono ?_;rintro e w2 ⟨rfl,hb2⟩))
    go_ret2
    exact ⟨by rw [HG.out];try rfl,by rw [hnb];exact hb.trans (hb2.mono (by rw [← hnb];exact hb.size))⟩
 ·have HF:=Lib.hid (show Sx.cal s=(0,31) by unfold Sx.cal;rw [if_neg hs])
  have e1:((s.size:Int) != 10)=true:=by simpa using fun h=>hs (by omega)
  have e1n:(s.size != 10)=true:=by simpa using hs
  clear hs
  go_enter Tryz.func108,Tryz.ntmps108
  go_wp2_with fail
  go_ret2
  exact ⟨by rw [HF.out];try rfl,Below.refl _ _⟩
end Go.Proofs.YtcakgennlliejaaGreatDoor
namespace Go.Proofs.YtcakgennlliejaaGreatDoor
open Go.Shelf Go.RowKit Go.Lib
open Go.Proofs.YtcakgennlliejaaGreatDoorW.PrintWords
open Go.Proofs.YtcakgennlliejaaGreatDoor.PSyntaxJoined
set_option linter.unusedVariables false
set_option linter.unusedSimpArgs false
namespace Sx
def cls (c:Nat):Int :=
 if c=9∨c=10∨c=13∨c=32 then 1 else if 97≤c∧c≤122 then 2 else if 65≤c∧c≤90 then 3 else if 48≤c∧c≤57 then 4 else if c=95 then 5 else 0
def isDig (k:Int):Bool:=k==4
def isNm (k:Int):Bool:=k==2||k==4||k==5
def isVr (k:Int):Bool:=isNm k||k==3
end Sx
theorem classOf_calls (c:Nat) (w:World):Calls Tryz.prog 75 #[.int .u8 c] w fun e w'=>e=.returned (.int .i64 (Sx.cls c))∧w=w':=by
 have HF:=Lib.hid (show Sx.cls c=if c=9∨c=10∨c=13∨c=32 then 1 else if 97≤c∧c≤122 then 2 else if 65≤c∧c≤90 then 3 else if 48≤c∧c≤57 then 4 else if c=95 then 5 else 0 from rfl)
 by_cases h1:c=9∨c=10∨c=13∨c=32
 ·have HG:=Lib.hid (show Sx.cls c=1 by rw [HF.out,if_pos h1])
  rcases h1 with rfl | rfl | rfl | rfl
  all_goals
   go_enter Tryz.func75,Tryz.ntmps75
   go_wp2_with fail
   go_ret
   exact ⟨by rw [HG.out];try rfl,rfl⟩
 ·have hn:∀ k:Nat,(k=9∨k=10∨k=13∨k=32)→((c:Int)==(k:Int))=false∧(c==k)=false:=fun k hk=>⟨by simp only [beq_eq_false_iff_ne,ne_eq];omega,by simp only [beq_eq_false_iff_ne,ne_eq];omega⟩
  have a1:((c:Int)==9)=false:=(hn 9 (by decide)).1
  have a2:((c:Int)==10)=false:=(hn 10 (by decide)).1
  have a3:((c:Int)==13)=false:=(hn 13 (by decide)).1
  have a4:((c:Int)==32)=false:=(hn 32 (by decide)).1
  have b1:=(hn 9 (by decide)).2
  have b2:=(hn 10 (by decide)).2
  have b3:=(hn 13 (by decide)).2
  have b4:=(hn 32 (by decide)).2
  have hf:=HF.out
  rw [if_neg h1] at hf
  clear hn h1 HF
  have hr:(c<48)∨(48≤c∧c≤57)∨(58≤c∧c≤64)∨(65≤c∧c≤90)∨(c=95)∨(91≤c∧c≤96∧c≠95)∨(97≤c∧c≤122)∨(123≤c):=by omega
  rcases hr with hr | hr | hr | hr | hr | hr | hr | hr
  ·have d0a:decide ((97:Int)≤(c:Int))=false:=decide_eq_false (by omega)
   have d0n:decide (97≤c)=false:=decide_eq_false (by omega)
   have u0a:decide ((c:Int)≤(122:Int))=true:=decide_eq_true (by omega)
   have u0n:decide (c≤122)=true:=decide_eq_true (by omega)
   have d1a:decide ((65:Int)≤(c:Int))=false:=decide_eq_false (by omega)
   have d1n:decide (65≤c)=false:=decide_eq_false (by omega)
   have u1a:decide ((c:Int)≤(90:Int))=true:=decide_eq_true (by omega)
   have u1n:decide (c≤90)=true:=decide_eq_true (by omega)
   have d2a:decide ((48:Int)≤(c:Int))=false:=decide_eq_false (by omega)
   have d2n:decide (48≤c)=false:=decide_eq_false (by omega)
   have u2a:decide ((c:Int)≤(57:Int))=true:=decide_eq_true (by omega)
   have u2n:decide (c≤57)=true:=decide_eq_true (by omega)
   have q0:((c:Int)==95)=false:=by simp only [beq_eq_false_iff_ne,ne_eq];omega
   have q1:(c==95)=false:=by simp only [beq_eq_false_iff_ne,ne_eq];omega
   have HG:=Lib.hid (show Sx.cls c=0 by rw [hf,if_neg (by omega),if_neg (by omega),if_neg (by omega),if_neg (by omega)])
   clear hf hr
   go_enter Tryz.func75,Tryz.ntmps75
   go_wp2_with fail
   go_ret
   exact ⟨by rw [HG.out];try rfl,rfl⟩
  ·have d0a:decide ((97:Int)≤(c:Int))=false:=decide_eq_false (by omega)
   have d0n:decide (97≤c)=false:=decide_eq_false (by omega)
   have u0a:decide ((c:Int)≤(122:Int))=true:=decide_eq_true (by omega)
   have u0n:decide (c≤122)=true:=decide_eq_true (by omega)
   have d1a:decide ((65:Int)≤(c:Int))=false:=decide_eq_false (by omega)
   have d1n:decide (65≤c)=false:=decide_eq_false (by omega)
   have u1a:decide ((c:Int)≤(90:Int))=true:=decide_eq_true (by omega)
   have u1n:decide (c≤90)=true:=decide_eq_true (by omega)
   have d2a:decide ((48:Int)≤(c:Int))=true:=decide_eq_true (by omega)
   have d2n:decide (48≤c)=true:=decide_eq_true (by omega)
   have u2a:decide ((c:Int)≤(57:Int))=true:=decide_eq_true (by omega)
   have u2n:decide (c≤57)=true:=decide_eq_true (by omega)
   have q0:((c:Int)==95)=false:=by simp only [beq_eq_false_iff_ne,ne_eq];omega
   have q1:(c==95)=false:=by simp only [beq_eq_false_iff_ne,ne_eq];omega
   have HG:=Lib.hid (show Sx.cls c=4 by rw [hf,if_neg (by omega),if_neg (by omega),if_pos (by omega)])
   clear hf hr
   go_enter Tryz.func75,Tryz.ntmps75
   go_wp2_with fail
   go_ret
   exact ⟨by rw [HG.out];try rfl,rfl⟩
  ·have d0a:decide ((97:Int)≤(c:Int))=false:=decide_eq_false (by omega)
   have d0n:decide (97≤c)=false:=decide_eq_false (by omega)
   have u0a:decide ((c:Int)≤(122:Int))=true:=decide_eq_true (by omega)
   have u0n:decide (c≤122)=true:=decide_eq_true (by omega)
   have d1a:decide ((65:Int)≤(c:Int))=false:=decide_eq_false (by omega)
   have d1n:decide (65≤c)=false:=decide_eq_false (by omega)
   have u1a:decide ((c:Int)≤(90:Int))=true:=decide_eq_true (by omega)
   have u1n:decide (c≤90)=true:=decide_eq_true (by omega)
   have d2a:decide ((48:Int)≤(c:Int))=true:=decide_eq_true (by omega)
   have d2n:decide (48≤c)=true:=decide_eq_true (by omega)
   have u2a:decide ((c:Int)≤(57:Int))=false:=decide_eq_false (by omega)
   have u2n:decide (c≤57)=false:=decide_eq_false (by omega)
   have q0:((c:Int)==95)=false:=by simp only [beq_eq_false_iff_ne,ne_eq];omega
   have q1:(c==95)=false:=by simp only [beq_eq_false_iff_ne,ne_eq];omega
   have HG:=Lib.hid (show Sx.cls c=0 by rw [hf,if_neg (by omega),if_neg (by omega),if_neg (by omega),if_neg (by omega)])
   clear hf hr
   go_enter Tryz.func75,Tryz.ntmps75
   go_wp2_with fail
   go_ret
   exact ⟨by rw [HG.out];try rfl,rfl⟩
  ·have d0a:decide ((97:Int)≤(c:Int))=false:=decide_eq_false (by omega)
   have d0n:decide (97≤c)=false:=decide_eq_false (by omega)
   have u0a:decide ((c:Int)≤(122:Int))=true:=decide_eq_true (by omega)
   have u0n:decide (c≤122)=true:=decide_eq_true (by omega)
   have d1a:decide ((65:Int)≤(c:Int))=true:=decide_eq_true (by omega)
   have d1n:decide (65≤c)=true:=decide_eq_true (by omega)
   have u1a:decide ((c:Int)≤(90:Int))=true:=decide_eq_true (by omega)
   have u1n:decide (c≤90)=true:=decide_eq_true (by omega)
   have d2a:decide ((48:Int)≤(c:Int))=true:=decide_eq_true (by omega)
   have d2n:decide (48≤c)=true:=decide_eq_true (by omega)
   have u2a:decide ((c:Int)≤(57:Int))=false:=decide_eq_false (by omega)
   have u2n:decide (c≤57)=false:=decide_eq_false (by omega)
   have q0:((c:Int)==95)=false:=by simp only [beq_eq_false_iff_ne,ne_eq];omega
   have q1:(c==95)=false:=by simp only [beq_eq_false_iff_ne,ne_eq];omega
   have HG:=Lib.hid (show Sx.cls c=3 by rw [hf,if_neg (by omega),if_pos (by omega)])
   clear hf hr
   go_enter Tryz.func75,Tryz.ntmps75
   go_wp2_with fail
   go_ret
   exact ⟨by rw [HG.out];try rfl,rfl⟩
  ·have d0a:decide ((97:Int)≤(c:Int))=false:=decide_eq_false (by omega)
   have d0n:decide (97≤c)=false:=decide_eq_false (by omega)
   have u0a:decide ((c:Int)≤(122:Int))=true:=decide_eq_true (by omega)
   have u0n:decide (c≤122)=true:=decide_eq_true (by omega)
   have d1a:decide ((65:Int)≤(c:Int))=true:=decide_eq_true (by omega)
   have d1n:decide (65≤c)=true:=decide_eq_true (by omega)
   have u1a:decide ((c:Int)≤(90:Int))=false:=decide_eq_false (by omega)
   have u1n:decide (c≤90)=false:=decide_eq_false (by omega)
   have d2a:decide ((48:Int)≤(c:Int))=true:=decide_eq_true (by omega)
   have d2n:decide (48≤c)=true:=decide_eq_true (by omega)
   have u2a:decide ((c:Int)≤(57:Int))=false:=decide_eq_false (by omega)
   have u2n:decide (c≤57)=false:=decide_eq_false (by omega)
   have q0:((c:Int)==95)=true:=by simp only [beq_iff_eq];omega
   have q1:(c==95)=true:=by simp only [beq_iff_eq];omega
   have HG:=Lib.hid (show Sx.cls c=5 by rw [hf,if_neg (by omega),if_neg (by omega),if_neg (by omega),if_pos (by omega)])
   clear hf hr
   go_enter Tryz.func75,Tryz.ntmps75
   go_wp2_with fail
   go_ret
   exact ⟨by rw [HG.out];try rfl,rfl⟩
  ·have d0a:decide ((97:Int)≤(c:Int))=false:=decide_eq_false (by omega)
   have d0n:decide (97≤c)=false:=decide_eq_false (by omega)
   have u0a:decide ((c:Int)≤(122:Int))=true:=decide_eq_true (by omega)
   have u0n:decide (c≤122)=true:=decide_eq_true (by omega)
   have d1a:decide ((65:Int)≤(c:Int))=true:=decide_eq_true (by omega)
   have d1n:decide (65≤c)=true:=decide_eq_true (by omega)
   have u1a:decide ((c:Int)≤(90:Int))=false:=decide_eq_false (by omega)
   have u1n:decide (c≤90)=false:=decide_eq_false (by omega)
   have d2a:decide ((48:Int)≤(c:Int))=true:=decide_eq_true (by omega)
   have d2n:decide (48≤c)=true:=decide_eq_true (by omega)
   have u2a:decide ((c:Int)≤(57:Int))=false:=decide_eq_false (by omega)
   have u2n:decide (c≤57)=false:=decide_eq_false (by omega)
   have q0:((c:Int)==95)=false:=by simp only [beq_eq_false_iff_ne,ne_eq];omega
   have q1:(c==95)=false:=by simp only [beq_eq_false_iff_ne,ne_eq];omega
   have HG:=Lib.hid (show Sx.cls c=0 by rw [hf,if_neg (by omega),if_neg (by omega),if_neg (by omega),if_neg (by omega)])
   clear hf hr
   go_enter Tryz.func75,Tryz.ntmps75
   go_wp2_with fail
   go_ret
   exact ⟨by rw [HG.out];try rfl,rfl⟩
  ·have d0a:decide ((97:Int)≤(c:Int))=true:=decide_eq_true (by omega)
   have d0n:decide (97≤c)=true:=decide_eq_true (by omega)
   have u0a:decide ((c:Int)≤(122:Int))=true:=decide_eq_true (by omega)
   have u0n:decide (c≤122)=true:=decide_eq_true (by omega)
   have d1a:decide ((65:Int)≤(c:Int))=true:=decide_eq_true (by omega)
   have d1n:decide (65≤c)=true:=decide_eq_true (by omega)
   have u1a:decide ((c:Int)≤(90:Int))=false:=decide_eq_false (by omega)
   have u1n:decide (c≤90)=false:=decide_eq_false (by omega)
   have d2a:decide ((48:Int)≤(c:Int))=true:=decide_eq_true (by omega)
   have d2n:decide (48≤c)=true:=decide_eq_true (by omega)
   have u2a:decide ((c:Int)≤(57:Int))=false:=decide_eq_false (by omega)
   have u2n:decide (c≤57)=false:=decide_eq_false (by omega)
   have q0:((c:Int)==95)=false:=by simp only [beq_eq_false_iff_ne,ne_eq];omega
   have q1:(c==95)=false:=by simp only [beq_eq_false_iff_ne,ne_eq];omega
   have HG:=Lib.hid (show Sx.cls c=2 by rw [hf,if_pos (by omega)])
   clear hf hr
   go_enter Tryz.func75,Tryz.ntmps75
   go_wp2_with fail
   go_ret
   exact ⟨by rw [HG.out];try rfl,rfl⟩
  ·have d0a:decide ((97:Int)≤(c:Int))=true:=decide_eq_true (by omega)
   have d0n:decide (97≤c)=true:=decide_eq_true (by omega)
   have u0a:decide ((c:Int)≤(122:Int))=false:=decide_eq_false (by omega)
   have u0n:decide (c≤122)=false:=decide_eq_false (by omega)
   have d1a:decide ((65:Int)≤(c:Int))=true:=decide_eq_true (by omega)
   have d1n:decide (65≤c)=true:=decide_eq_true (by omega)
   have u1a:decide ((c:Int)≤(90:Int))=false:=decide_eq_false (by omega)
   have u1n:decide (c≤90)=false:=decide_eq_false (by omega)
   have d2a:decide ((48:Int)≤(c:Int))=true:=decide_eq_true (by omega)
   have d2n:decide (48≤c)=true:=decide_eq_true (by omega)
   have u2a:decide ((c:Int)≤(57:Int))=false:=decide_eq_false (by omega)
   have u2n:decide (c≤57)=false:=decide_eq_false (by omega)
   have q0:((c:Int)==95)=false:=by simp only [beq_eq_false_iff_ne,ne_eq];omega
   have q1:(c==95)=false:=by simp only [beq_eq_false_iff_ne,ne_eq];omega
   have HG:=Lib.hid (show Sx.cls c=0 by rw [hf,if_neg (by omega),if_neg (by omega),if_neg (by omega),if_neg (by omega)])
   clear hf hr
   go_enter Tryz.func75,Tryz.ntmps75
   go_wp2_with fail
   go_ret
   exact ⟨by rw [HG.out];try rfl,rfl⟩
set_option maxRecDepth 100000 in
theorem digit_calls (k:Int) (w:World):Calls Tryz.prog 101 #[.int .i64 k] w fun e w'=>e=.returned (.bool (Sx.isDig k))∧w=w':=by
 have HF:=Lib.hid (show Sx.isDig k=(k==4) from rfl)
 go_enter Tryz.func101,Tryz.ntmps101
 go_wp2_with fail
 go_ret
 exact ⟨by rw [HF.out];try rfl,rfl⟩
set_option maxRecDepth 100000 in
theorem inName_calls (k:Int) (w:World):Calls Tryz.prog 79 #[.int .i64 k] w fun e w'=>e=.returned (.bool (Sx.isNm k))∧w=w':=by
 have HF:=Lib.hid (show Sx.isNm k=(k==2||k==4||k==5) from rfl)
 cases h1:(k==2)
 all_goals cases h2:(k==4)
 all_goals cases h3:(k==5)
 all_goals
  rw [h1,h2,h3] at HF
  go_enter Tryz.func79,Tryz.ntmps79
  go_wp2_with fail
  go_ret
  exact ⟨by rw [HF.out];try rfl,rfl⟩
set_option maxRecDepth 100000 in
theorem inVar_calls (k:Int) (w:World):Calls Tryz.prog 81 #[.int .i64 k] w fun e w'=>e=.returned (.bool (Sx.isVr k))∧w=w':=by
 have HF:=Lib.hid (show Sx.isVr k=(Sx.isNm k||k==3) from rfl)
 have HN:=Lib.hid (inName_calls k)
 cases h1:Sx.isNm k
 all_goals cases h3:(k==3)
 all_goals
  rw [h1] at HN
  rw [h1,h3] at HF
  go_enter Tryz.func81,Tryz.ntmps81
  go_wp2_with (first | (go_at_call 79;refine (HN.out _).mono ?_;rintro e w4 ⟨rfl,rfl⟩))
  go_ret
  exact ⟨by rw [HF.out];try rfl,rfl⟩
end Go.Proofs.YtcakgennlliejaaGreatDoor
namespace Go.Proofs.YtcakgennlliejaaGreatDoor
open Go.Shelf Go.RowKit Go.Lib
open Go.Proofs.YtcakgennlliejaaGreatDoorW.PrintWords
open Go.Proofs.YtcakgennlliejaaGreatDoor.PSyntaxJoined
set_option linter.unusedVariables false
set_option linter.unusedSimpArgs false
def Sx.runL (good:Int→Bool):List UInt8→Nat→Nat
 | [],i=>i
 | c::l,i=>if good (Sx.cls c.toNat) then runL good l (i+1) else i
theorem Sx.runL_cons (good:Int→Bool) (c:UInt8) (l:List UInt8) (i:Nat):Sx.runL good (c::l) i=if good (Sx.cls c.toNat) then Sx.runL good l (i+1) else i:=rfl
theorem Sx.cls_far {c:Nat} (h:128≤c):Sx.cls c=0:=by
 unfold Sx.cls
 rw [if_neg (by omega),if_neg (by omega),if_neg (by omega),if_neg (by omega),if_neg (by omega)]
theorem Sx.below_iter (w:World) (s:ByteArray) (p:Nat):Below w.heap.size w (w.iter s p):=(Below.refl _ w).alloc (Nat.le_refl _) _
theorem Sx.extract_get (s:ByteArray) (a i:Nat) (h:i<(s.extract a s.size).size) (h2:a+i<s.size):(s.extract a s.size)[i]'h=s[a+i]'h2:=by
 rw [ByteArray.getElem_extract]
theorem run_calls (good:Int→Bool) (K:FuncId)
  (eK:∀ args w,(callFunc K args).run Tryz.prog w=.ok (.enter K args) w)
  (hg0:good 0=false)
  (hK:∀ k w,Calls Tryz.prog K #[.int .i64 k] w fun e w'=>e=.returned (.bool (good k))∧w=w')
  (sb:Nat) (s:ByteArray) (at_:Nat) (w:World) (hc:w.cell? ⟨sb,0,none⟩=some (.string s)) (ha:at_≤s.size) (hz:s.size≤65536) :
  Calls Tryz.prog 98 #[.pointer (some ⟨sb,0,none⟩),.int .i64 at_,.func (.func K) #[] #[]] w fun e w'=>e=.returned (.int .i64 (Sx.runL good (s.data.toList.drop at_) at_))∧Below w.heap.size w w':=by
 have HK:=Lib.hid hK
 have HCL:=Lib.hid classOf_calls
 have HA:=Lib.hid ha
 have HZ:=Lib.hid hz
 obtain ⟨F,hF⟩:∃ F,Sx.runL good (s.data.toList.drop at_) at_=F:=⟨_,rfl⟩
 rw [hF]
 have HF:=Lib.hid hF
 have h0:¬ ((at_:Int)<0):=by omega
 have h1:¬ ((s.size:Int)<(at_:Int)):=by omega
 have h2:(0:Int)≤(at_:Int):=by omega
 have h3:(at_:Int)≤(s.size:Int):=by omega
 clear hF hK hz
 go_enter Tryz.func98,Tryz.ntmps98
 go_upto_region 2 with (fail)
 have hcw:∀ p,(w.iter (s.extract at_ s.size) p).cell? ⟨sb,0,none⟩=some (.string s):=fun p=>keep_cell hc (Sx.below_iter w _ p)
 have hsz:(s.extract at_ s.size).size=s.size-at_:=by rw [ByteArray.size_extract];omega
 obtain ⟨S,hS⟩:∃ S,s.extract at_ s.size=S:=⟨_,rfl⟩
 have HGE:=Lib.hid (fun (i:Nat) (h:i<S.size) (h2:at_+i<s.size)=>show S[i]'h=s[at_+i]'h2 by subst hS;exact Sx.extract_get s at_ i h h2)
 rw [hS] at hsz hcw
 try rw [hS]
 have HSZ:=Lib.hid hsz
 clear hS hsz hc h0 h1 h2 h3 ha
 go_loopw [] (fun wr=>∃ i,wr=w.iter S i∧at_+i≤s.size∧F=Sx.runL good (s.data.toList.drop (at_+i)) (at_+i)) (fun wr=>s.size-World.iterPos wr w.heap.size)
 case atStart=>exact ⟨0,rfl,HA.out,HF.out.symm⟩
 case round =>
  obtain ⟨i,rfl,hi,hf⟩:=hrel
  by_cases hlt:at_+i<s.size
  ·have hlS:i<S.size:=by rw [HSZ.out];omega
   have hnx:=fun ty=>run_next_any (P:=Tryz.prog) w S i ty hlS
   obtain ⟨j,hj⟩:∃ j,at_+i=j:=⟨_,rfl⟩
   have wz:IntKind.i64.wrap ((at_:Int)+(i:Int))=(j:Int):=by have:=HZ.out;rw [IntWalk.i64_in _ (by omega)];omega
   have hlj:j<s.size:=by omega
   have y1:(j:Int)<(s.size:Int):=by omega
   have y2:(0:Int)≤(j:Int):=by omega
   have e5:s.data.toList.drop j=s[j]::s.data.toList.drop (j+1):=by
    rw [List.drop_eq_getElem_cons (show j<s.data.toList.length from hlj)]
    rfl
   rw [hj,e5,Sx.runL_cons] at hf
   have hget:=HGE.out i hlS hlt
   cases hg:good (Sx.cls (s[j]).toNat)
   ·rw [hg] at hf
    have HFF:=Lib.hid (show F=j from hf)
    have HGK:=Lib.hid hg
    clear hf e5 hget hg
    go_wp2_with (first | (go_at_call 75;refine (HCL.out _ _).mono ?_;rintro e w4 ⟨rfl,rfl⟩) | ((with_reducible refine (HK.out _ _).mono ?_);rw [HGK.out];rintro e w4 ⟨rfl,rfl⟩))
    go_ret
    exact ⟨by rw [HFF.out];try rfl,Sx.below_iter w _ _⟩
   ·rw [hg] at hf
    have hd:(Utf8.decode S i).2=1:=by
     rw [decode_ascii S i hlS ?_]
     rcases Nat.lt_or_ge (s[j]).toNat 128 with h | h
     ·rw [hget];subst hj;exact h
     ·rw [Sx.cls_far h,hg0] at hg;cases hg
    have HFF:=Lib.hid (show F=Sx.runL good (s.data.toList.drop (j+1)) (j+1) from hf)
    have HGK:=Lib.hid hg
    have HJ:=Lib.hid hj
    have HLJ:=Lib.hid hlj
    clear hf e5 hget hg
    go_wp2_with (first | (go_at_call 75;refine (HCL.out _ _).mono ?_;rintro e w4 ⟨rfl,rfl⟩) | ((with_reducible refine (HK.out _ _).mono ?_);rw [HGK.out];rintro e w4 ⟨rfl,rfl⟩))
    go_roundw
    case rel=>exact ⟨i+1,rfl,by have h1:=HJ.out;have h2:=HLJ.out;omega,by rw [HFF.out,← HJ.out];rfl⟩
    case measure =>
     have h1:=HJ.out;have h2:=HLJ.out
     first | omega | (rw [World.iterPos_iter,World.iterPos_iter];omega)
  ·have hlS:¬ i<S.size:=by rw [HSZ.out];omega
   have hnx:=fun ty=>run_next_end (P:=Tryz.prog) w S i ty hlS
   have HFF:=Lib.hid (show F=s.size by rw [hf,List.drop_eq_nil_of_le (by show s.size≤at_+i;omega)];show at_+i=s.size;omega)
   clear hf
   go_wp2_with fail
   go_ret
   exact ⟨by rw [HFF.out];try rfl,Sx.below_iter w _ _⟩
open Sx
namespace Sx
structure Stt where
 title:ByteArray
 kinds:List ByteArray
 members:List S54
 preds:List S85
 classes:List (List ByteArray)
 sources:List S117
 rules:List S93
 excepts:List S120
 totals:List S104
def noLit:S91:=⟨false,⟨#[]⟩,[],false,0⟩
def noGuard:S98:=⟨[],0,[]⟩
namespace Env
variable (V:Env)
def term (sg:Int) (p:Nat):Res S102 :=
 if (V.next p).k==3&&V.isT 6 ⟨#[42]⟩ (p+1) then
  (V.whole 1 1000 p).bnd fun c q=>(V.name (q+1)).bnd fun n q2=>(V.brackets V.arg q2).bnd fun l q3=>.ok ⟨wrap64 (sg*c),n,l,0⟩ q3
 else if (V.next p).k==3||V.isT 6 ⟨#[45]⟩ p then (V.money p).bnd fun m q=>.ok ⟨0,⟨#[]⟩,[],wrap64 (sg*m)⟩ q
 else (V.name p).bnd fun n q2=>(V.brackets V.arg q2).bnd fun l q3=>.ok ⟨sg,n,l,0⟩ q3
def sumM:Nat→List S102→Nat→Res (List S102)
 | 0,out,p=>if V.isT 6 ⟨#[45]⟩ p||V.isT 6 ⟨#[43]⟩ p then V.stop 3 (p+1) else .ok out p
 | m+1,out,p =>
  if V.isT 6 ⟨#[45]⟩ p then (V.term (-1) (p+1)).bnd fun t q=>sumM m (out++[t]) q
  else if V.isT 6 ⟨#[43]⟩ p then (V.term 1 (p+1)).bnd fun t q=>sumM m (out++[t]) q else .ok out p
def sum (p:Nat):Res (List S102):=(V.term 1 p).bnd fun t q=>V.sumM 7 [t] q
def premise (p:Nat):Res S100 :=
 if V.isT 6 ⟨#[123]⟩ p then
  (V.sum (p+1)).bnd fun l q=>(V.op q).bnd fun o q2=>(V.sum q2).bnd fun r q3=>(V.must 6 ⟨#[125]⟩ q3).bnd fun _ q4=>.ok ⟨2,noLit,⟨l,o,r⟩,⟨#[]⟩,⟨#[]⟩⟩ q4
 else if V.unlike p then (V.arg p).bnd fun a q=>(V.must 6 ⟨#[33,61]⟩ q).bnd fun _ q2=>(V.arg q2).bnd fun b q3=>.ok ⟨3,noLit,noGuard,a,b⟩ q3
 else (V.literal p).bnd fun l q=>.ok ⟨1,l,noGuard,⟨#[]⟩,⟨#[]⟩⟩ q
def ruleT (n s:ByteArray) (a u:Int) (p:Nat):Res S93 :=
 (if V.arrow p=0 then V.list V.premise 0 16 p else .ok [] p).bnd fun b q =>
  if V.arrow q=0 then V.stop 51 q else (V.literal (q+1)).bnd fun h q9=>.ok ⟨n,s,a,u,b,V.arrow q,h⟩ q9
def rule (cal:ByteArray→Int × Int) (p:Nat):Res S93 :=
 (V.name p).bnd fun n q1=>(V.must 1 ⟨#[111,102]⟩ q1).bnd fun _ q2=>(V.name q2).bnd fun s q3=>(V.must 1 ⟨#[97,116]⟩ q3).bnd fun _ q4=>(V.day cal q4).bnd fun a q5 =>
  (if V.isT 1 ⟨#[117,110,116,105,108]⟩ q5 then V.day cal (q5+1) else .ok 0 q5).bnd fun u q6=>(V.must 6 ⟨#[58]⟩ q6).bnd fun _ q7=>V.ruleT n s a u q7
def pred (n:Nat) (sort:Int) (p:Nat):Res S85 :=
 (V.room n 256 p).bnd fun _ q0=>(V.name q0).bnd fun nm q1=>(V.brackets V.name q1).bnd fun ks q2 =>
  if sort==3 then (V.must 6 ⟨#[58]⟩ q2).bnd fun _ q3=>(V.list V.money 0 64 q3).bnd fun vs q4=>.ok ⟨nm,sort,ks,vs⟩ q4 else .ok ⟨nm,sort,ks,[]⟩ q2
def item (cal:ByteArray→Int × Int) (s:Stt) (p:Nat):Res Stt :=
 if (V.next p).k==1 then
  if (V.next p).t.toList==[107,105,110,100] then
   (V.room s.kinds.length 16 (p+1)).bnd fun _ q=>(V.name q).bnd fun n q2=>.ok { s with kinds:=s.kinds++[n] } q2
  else if (V.next p).t.toList==[109,101,109,98,101,114] then
   (V.list V.name s.members.length 64 (p+1)).bnd fun l q=>(V.must 6 ⟨#[58]⟩ q).bnd fun _ q2=>(V.name q2).bnd fun k q3=>.ok { s with members:=s.members++l.map fun n=>⟨n,k⟩ } q3
  else if (V.next p).t.toList==[112,114,101,100] then (V.pred s.preds.length 1 (p+1)).bnd fun x q=>.ok { s with preds:=s.preds++[x] } q
  else if (V.next p).t.toList==[110,117,109,98,101,114] then (V.pred s.preds.length 2 (p+1)).bnd fun x q=>.ok { s with preds:=s.preds++[x] } q
  else if (V.next p).t.toList==[97,109,111,117,110,116] then (V.pred s.preds.length 3 (p+1)).bnd fun x q=>.ok { s with preds:=s.preds++[x] } q
  else if (V.next p).t.toList==[99,108,97,115,115] then
   (V.room s.classes.length 64 (p+1)).bnd fun _ q=>(V.name q).bnd fun f q2=>(V.must 6 ⟨#[44]⟩ q2).bnd fun _ q3=>(V.list V.name 1 16 q3).bnd fun l q4=>.ok { s with classes:=s.classes++[f::l] } q4
  else if (V.next p).t.toList==[115,111,117,114,99,101] then
   (V.room s.sources.length 64 (p+1)).bnd fun _ q=>(V.name q).bnd fun n q2=>(V.must 1 ⟨#[114,97,110,107]⟩ q2).bnd fun _ q3=>(V.whole 0 1000 q3).bnd fun r q4=>.ok { s with sources:=s.sources++[⟨n,r⟩] } q4
  else if (V.next p).t.toList==[114,117,108,101] then
   (V.room s.rules.length 512 (p+1)).bnd fun _ q=>(V.rule cal q).bnd fun x q2=>.ok { s with rules:=s.rules++[x] } q2
  else if (V.next p).t.toList==[101,120,99,101,112,116,105,111,110] then
   (V.room s.excepts.length 512 (p+1)).bnd fun _ q=>(V.name q).bnd fun a q2=>(V.must 1 ⟨#[116,111]⟩ q2).bnd fun _ q3=>(V.name q3).bnd fun b q4=>.ok { s with excepts:=s.excepts++[⟨a,b⟩] } q4
  else if (V.next p).t.toList==[116,111,116,97,108] then
   (V.room s.totals.length 64 (p+1)).bnd fun _ q=>(V.total q).bnd fun x q2=>.ok { s with totals:=s.totals++[x] } q2
  else V.stop 51 p
 else V.stop 51 p
def title (p:Nat):Res ByteArray :=
 if V.isT 1 ⟨#[115,116,97,116,117,116,101]⟩ p then
  if (V.next (p+1)).k==5 then (V.must 6 ⟨#[46]⟩ (p+2)).bnd fun _ q=>.ok (V.next (p+1)).t q else V.stop 51 (p+1)
 else .ok ⟨#[]⟩ p
def items (cal:ByteArray→Int × Int):Nat→Stt→Nat→Res Stt
 | 0,s,p=>.ok s p
 | m+1,s,p=>if p<V.T.length then (V.item cal s p).bnd fun s2 q=>(V.must 6 ⟨#[46]⟩ q).bnd fun _ q2=>items cal m s2 q2 else .ok s p
def statute (cal:ByteArray→Int × Int) (p:Nat):Res Stt :=
 (V.title p).bnd fun t q=>V.items cal V.T.length ⟨t,[],[],[],[],[],[],[],[]⟩ q
end Env
end Sx
end Go.Proofs.YtcakgennlliejaaGreatDoor
