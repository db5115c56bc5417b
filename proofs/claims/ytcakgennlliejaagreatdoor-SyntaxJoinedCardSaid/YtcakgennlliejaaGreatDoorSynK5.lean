import Derived.Test.YtcakgennlliejaaGreatDoorSynK4
set_option maxHeartbeats 8000000
set_option maxRecDepth 100000
namespace Go.Proofs.YtcakgennlliejaaGreatDoor
open Go.Shelf Go.RowKit Go.Lib
open Go.Proofs.YtcakgennlliejaaGreatDoorW.PrintWords
open Sx
set_option linter.unusedVariables false
set_option linter.unusedSimpArgs false
def Sx.wholeN (most:Int):List UInt8→Int→Int
 | [],n=>n
 | c::l,n=>wholeN most l (min (10*n+((c.toNat:Int)-48) % 256) (most+1))
def Sx.Env.whole (V:Env) (least most:Int) (p:Nat):Res Int :=
 if (V.next p).k==3&&!(Lib.contains (V.next p).t.data.toList [46]) then
  if wholeN most (V.next p).t.data.toList 0<least∨most<wholeN most (V.next p).t.data.toList 0 then V.stop 4 p else .ok (wholeN most (V.next p).t.data.toList 0) (p+1)
 else V.stop 51 p
theorem whole_calls (V:Env) (least most:Int) (h1:0≤least) (h2:0≤most) (h3:most≤1000000000) (p:Nat) (w:World) (h:Rd w V p):Calls Tryz.prog 59 #[.pointer (some ⟨V.rb,0,none⟩),.int .i64 least,.int .i64 most] w (Post V w intR (V.whole least most p)):=by
 have HN:=Lib.hid (next_calls V p w h)
 unfold Sx.tv at HN
 have HR:=Lib.hid h
 have HL:=Lib.hid (Sx.next_lt (V:=V) (p:=p))
 have HST:=Lib.hid (fun er w1 (h1:Rd w1 V p)=>stop_calls V p er w1 h1)
 have hz:=h.z p
 have HC:=Lib.hid (fun w1 (r:Rd w1 V p)=>by
  obtain ⟨m,hm⟩:=r.gl
  exact Tryz.strings_Contains (V.next p).t ⟨#[46]⟩ m w1 (by omega) hm)
 have hF:V.whole least most p=V.whole least most p:=rfl
 conv at hF=>rhs;unfold Env.whole Env.stop
 generalize V.next p=t at *
 generalize V.place p=pp at *
 have e0:(⟨#[46]⟩:ByteArray).data.toList=[46]:=rfl
 rw [e0] at HC
 by_cases hk:t.k=3
 ·have e1:(t.k != 3)=false:=by simpa using hk
  have e2:(t.k==3)=true:=by simpa using hk
  have HLT:=Lib.hid (HL.out (by rw [hk];decide))
  rw [e2] at hF
  generalize Lib.contains t.t.data.toList [46]=cn at *
  cases cn
  ·obtain ⟨N,hN⟩:∃ N,wholeN most t.t.data.toList 0=N:=⟨_,rfl⟩
   rw [hN] at hF
   have HF:=Lib.hid (show V.whole least most p=if N<least∨most<N then .bad 4 pp else .ok N (p+1) from hF)
   have HNN:=Lib.hid hN
   have HM:=Lib.hid (And.intro h2 h3)
   have wz:IntKind.i64.wrap (most+1)=most+1:=IntWalk.i64_in _ (by omega)
   have hsz:t.t.data.toList.length=t.t.size:=rfl
   have HZ:=Lib.hid hz
   clear hF hk e2 h hN
   go_enter Tryz.func59,Tryz.ntmps59
   go_upto_region 2 with (first | (go_at_call 39;refine HN.out.mono ?_;rintro e w1 ⟨rfl,hb⟩))
   obtain ⟨X,hX⟩:∃ X,w1.alloc (Obj.cells #[.int .i64 t.k,.string t.t,.int .i64 t.a] 48)=X:=⟨_,rfl⟩
   have bX:Below w1.heap.size w1 X:=by rw [← hX];exact (Below.refl _ w1).alloc (Nat.le_refl _) _
   have x0:X.cell? ⟨w1.heap.size,0,none⟩=some (.int .i64 t.k):=by rw [← hX];exact blk_cell (heap_alloc_new w1 _) 0 rfl
   have x1:X.cell? ⟨w1.heap.size,1,none⟩=some (.string t.t):=by rw [← hX];exact blk_cell (heap_alloc_new w1 _) 1 rfl
   have HB:=Lib.hid (below_next hb bX)
   try rw [hX]
   clear hX bX hb
   go_upto_region 6 with (first | (go_at_call 90;refine (HC.out X (HR.out.below HB.out)).mono ?_;rintro e w2 ⟨rfl,rfl⟩))
   go_loopw [8,25] (fun n v wr=>∃ (i:Nat) (a:Int),v=.int .i64 i∧n=.int .i64 a∧i≤t.t.size∧0≤a∧a≤most+1∧wholeN most (t.t.data.toList.drop i) a=N∧wr=w2) (fun _ v _=>t.t.size-Sx.iv v)
   case atStart=>exact ⟨0,0,rfl,rfl,Nat.zero_le _,by omega,by have:=HM.out;omega,HNN.out,rfl⟩
   case round =>
    obtain ⟨i,a,rfl,rfl,hi,ha0,ha1,hw,rfl⟩:=hrel
    have HW:=Lib.hid hw
    have HA:=Lib.hid (And.intro ha0 ha1)
    clear ha0 ha1 hw
    by_cases hlt:i<t.t.size
    ·have z1:decide ((i:Int)<(t.t.size:Int))=true:=decide_eq_true (by omega)
     have z1n:decide (i<t.t.size)=true:=decide_eq_true hlt
     go_wp2_with fail
     have e5:t.t.data.toList.drop i=t.t[i]::t.t.data.toList.drop (i+1):=by
      rw [List.drop_eq_getElem_cons (show i<t.t.data.toList.length from hlt)]
      rfl
     have hw2:=HW.out
     rw [e5] at hw2
     unfold wholeN at hw2
     have ha:=HA.out
     have hm:=HM.out
     refine ⟨⟨i+1,_,by push_cast;rfl,?_,hlt,?_,?_,hw2,trivial⟩,by simp [Sx.iv];omega⟩
     ·congr 1
      unfold wrap64
      omega
     ·omega
     ·omega
    ·have z1:decide ((i:Int)<(t.t.size:Int))=false:=decide_eq_false (by omega)
     have z1n:decide (i<t.t.size)=false:=decide_eq_false hlt
     have hN2:a=N:=by
      have:=HW.out
      rw [List.drop_eq_nil_of_le (by show t.t.size≤i;omega)] at this
      exact this
     subst hN2
     by_cases hc1:a<least
     ·have d1:decide (a<least)=true:=decide_eq_true hc1
      have HG:=Lib.hid (show V.whole least most p=.bad 4 pp by rw [HF.out,if_pos (.inl hc1)])
      clear HF
      go_wp2_with (first | (go_at_call 40;refine (HST.out 4 _ (HR.out.below HB.out)).mono ?_;rintro e w4 ⟨rfl,hb4⟩))
      refine ⟨rfl,?_⟩
      rw [HG.out]
      exact ⟨rfl,(Keep.of_below HB.out).below hb4⟩
     ·have d1:decide (a<least)=false:=decide_eq_false hc1
      by_cases hc2:most<a
      ·have d2:decide (most<a)=true:=decide_eq_true hc2
       have HG:=Lib.hid (show V.whole least most p=.bad 4 pp by rw [HF.out,if_pos (.inr hc2)])
       clear HF
       go_wp2_with (first | (go_at_call 40;refine (HST.out 4 _ (HR.out.below HB.out)).mono ?_;rintro e w4 ⟨rfl,hb4⟩))
       refine ⟨rfl,?_⟩
       rw [HG.out]
       exact ⟨rfl,(Keep.of_below HB.out).below hb4⟩
      ·have d2:decide (most<a)=false:=decide_eq_false hc2
       have HG:=Lib.hid (show V.whole least most p=.ok a (p+1) by rw [HF.out,if_neg (by omega)])
       have hp:=(HR.out.below HB.out).pos
       have hf:=(HR.out.below HB.out).f
       have wz2:IntKind.i64.wrap ((p:Int)+1)=((p+1:Nat):Int):=by have h1:=HR.out.n;have h2:=HLT.out;rw [IntWalk.i64_in _ (by omega)];omega
       clear HF
       go_wp2_with fail
       go_ret
       rw [HG.out]
       have hz3:=HR.out.keep HB.out (show p+1≤V.T.length from HLT.out)
       exact ⟨_,rfl,rfl,hz3.1,hz3.2⟩
  ·have HF:=Lib.hid (show V.whole least most p=.bad 51 pp from hF)
   clear hF hk e2 h
   go_enter Tryz.func59,Tryz.ntmps59
   go_upto_region 2 with (first | (go_at_call 39;refine HN.out.mono ?_;rintro e w1 ⟨rfl,hb⟩))
   obtain ⟨X,hX⟩:∃ X,w1.alloc (Obj.cells #[.int .i64 t.k,.string t.t,.int .i64 t.a] 48)=X:=⟨_,rfl⟩
   have bX:Below w1.heap.size w1 X:=by rw [← hX];exact (Below.refl _ w1).alloc (Nat.le_refl _) _
   have x0:X.cell? ⟨w1.heap.size,0,none⟩=some (.int .i64 t.k):=by rw [← hX];exact blk_cell (heap_alloc_new w1 _) 0 rfl
   have x1:X.cell? ⟨w1.heap.size,1,none⟩=some (.string t.t):=by rw [← hX];exact blk_cell (heap_alloc_new w1 _) 1 rfl
   have HB:=Lib.hid (below_next hb bX)
   try rw [hX]
   clear hX bX hb
   go_wp2_with (first | (go_at_call 90;refine (HC.out X (HR.out.below HB.out)).mono ?_;rintro e w2 ⟨rfl,rfl⟩) | (go_at_call 40;refine (HST.out 51 _ (HR.out.below HB.out)).mono ?_;rintro e w4 ⟨rfl,hb4⟩))
   refine ⟨rfl,?_⟩
   rw [HF.out]
   exact ⟨rfl,(Keep.of_below HB.out).below hb4⟩
 ·have e1:(t.k != 3)=true:=by simpa using hk
  have e2:(t.k==3)=false:=by simpa using hk
  rw [e2] at hF
  have HF:=Lib.hid (show V.whole least most p=.bad 51 pp from hF)
  clear hF hk e2 h
  go_enter Tryz.func59,Tryz.ntmps59
  go_upto_region 2 with (first | (go_at_call 39;refine HN.out.mono ?_;rintro e w1 ⟨rfl,hb⟩))
  obtain ⟨X,hX⟩:∃ X,w1.alloc (Obj.cells #[.int .i64 t.k,.string t.t,.int .i64 t.a] 48)=X:=⟨_,rfl⟩
  have bX:Below w1.heap.size w1 X:=by rw [← hX];exact (Below.refl _ w1).alloc (Nat.le_refl _) _
  have x0:X.cell? ⟨w1.heap.size,0,none⟩=some (.int .i64 t.k):=by rw [← hX];exact blk_cell (heap_alloc_new w1 _) 0 rfl
  have HB:=Lib.hid (below_next hb bX)
  try rw [hX]
  clear hX bX hb
  go_wp2_with (first | (go_at_call 40;refine (HST.out 51 X (HR.out.below HB.out)).mono ?_;rintro e w4 ⟨rfl,hb4⟩))
  refine ⟨rfl,?_⟩
  rw [HF.out]
  exact ⟨rfl,(Keep.of_below HB.out).below hb4⟩
end Go.Proofs.YtcakgennlliejaaGreatDoor
namespace Go.Proofs.YtcakgennlliejaaGreatDoor
open Go.Shelf Go.RowKit Go.Lib
open Go.Proofs.YtcakgennlliejaaGreatDoorW.PrintWords
open Sx
set_option linter.unusedVariables false
set_option linter.unusedSimpArgs false
def Sx.Env.unlike (V:Env) (p:Nat):Bool:=((V.next p).k==1||(V.next p).k==2)&&decide (p+1<V.T.length)&&V.isT 6 ⟨#[33,61]⟩ (p+1)
theorem unlike_calls (V:Env) (p:Nat) (w:World) (h:Rd w V p):Calls Tryz.prog 112 #[.pointer (some ⟨V.rb,0,none⟩)] w fun e w'=>e=.returned (.bool (V.unlike p))∧Below w.heap.size w w':=by
 have HN:=Lib.hid (next_calls V p w h)
 unfold Sx.tv at HN
 have HR:=Lib.hid h
 have hF:V.unlike p=(((V.next p).k==1||(V.next p).k==2)&&decide (p+1<V.T.length)&&V.isT 6 ⟨#[33,61]⟩ (p+1)):=rfl
 generalize V.next p=t at *
 have hfi:∀ w,(Instr.field 48 (.agg #[.int .i64 t.k,.string t.t,.int .i64 t.a]) 0).run Tryz.prog w=.ok (.int .i64 t.k) w:=fun w=>by kernel_rfl
 by_cases hk:t.k=1∨t.k=2
 ·have hk2:(t.k==1||t.k==2)=true:=by rcases hk with e | e <;> rw [e] <;> rfl
  rw [hk2] at hF
  have hkk:((t.k != 1)=false)∨((t.k != 1)=true∧(t.k != 2)=false):=by
   rcases hk with e | e <;> rw [e]
   ·exact .inl rfl
   ·exact .inr ⟨rfl,rfl⟩
  have wz:IntKind.i64.wrap ((p:Int)+1)=(p:Int)+1:=by have h1:=h.n;have h2:=h.le;rw [IntWalk.i64_in _ (by omega)]
  by_cases hlt:p+1<V.T.length
  ·obtain ⟨s,hs⟩:∃ s,V.next (p+1)=s:=⟨_,rfl⟩
   have HF:=Lib.hid (show V.unlike p=(s.k==6&&(s.t.toList==[33,61])) by rw [hF,decide_eq_true hlt,← hs];show V.isT 6 ⟨#[33,61]⟩ (p+1)=_;unfold Env.isT;rw [Lib.toList_data ⟨#[33,61]⟩])
   obtain ⟨a,ha,hne,_,_,_⟩:=h.t (p+1) hlt
   have d1:decide ((V.T.length:Int)≤(p:Int)+1)=false:=decide_eq_false (by omega)
   have d1n:decide (V.T.length≤p+1)=false:=decide_eq_false (by omega)
   have y1:(p:Int)+1<(V.T.length:Int):=by omega
   have y1n:p+1<V.T.length:=hlt
   have y2:(0:Int)≤(p:Int)+1:=by omega
   have HT:=Lib.hid (fun w1 (b:Below w.heap.size w w1)=>(h.below b).t (p+1) hlt)
   have HAA:=Lib.hid ha
   clear hF hk hk2 h
   rcases hkk with e1 | ⟨e1,e2⟩
   all_goals
    go_enter Tryz.func112,Tryz.ntmps112
    go_upto_region 2 with (first | (go_at_call 39;refine HN.out.mono ?_;rintro e w1 ⟨rfl,hb⟩;have HB:=Lib.hid hb;have hl:=(HR.out.below hb).l;have hp:=(HR.out.below hb).pos;rw [HAA.out] at hl;clear hb))
    go_quiet (fail)
    go_upto_region 4 with (fail)
    obtain ⟨a2,ha2,_,t0,t1,t2⟩:=HT.out w1 HB.out
    obtain rfl:a2=a:=by rw [HAA.out] at ha2;exact (Option.some.inj ha2).symm
    rw [hs] at t0 t1 t2
    have ax0:∀ k:Nat,((w1.drewN k).alloc (Obj.cells #[.int .i64 0,.string ⟨#[]⟩,.int .i64 0] 48)).cell? ⟨w1.heap.size,0,none⟩=some (.int .i64 0):=fun k=>blk_cell (heap_alloc_new (w1.drewN k) _) 0 rfl
    have ax1:∀ k:Nat,((w1.drewN k).alloc (Obj.cells #[.int .i64 0,.string ⟨#[]⟩,.int .i64 0] 48)).cell? ⟨w1.heap.size,1,none⟩=some (.string ⟨#[]⟩):=fun k=>blk_cell (heap_alloc_new (w1.drewN k) _) 1 rfl
    have ax2:∀ k:Nat,((w1.drewN k).alloc (Obj.cells #[.int .i64 0,.string ⟨#[]⟩,.int .i64 0] 48)).cell? ⟨w1.heap.size,2,none⟩=some (.int .i64 0):=fun k=>blk_cell (heap_alloc_new (w1.drewN k) _) 2 rfl
    have ag0:∀ k:Nat,((w1.drewN k).alloc (Obj.cells #[.int .i64 0,.string ⟨#[]⟩,.int .i64 0] 48)).frozen? ⟨w1.heap.size,0,none⟩=false:=fun k=>blk_free (heap_alloc_new (w1.drewN k) _) 0
    have ag1:∀ k:Nat,((w1.drewN k).alloc (Obj.cells #[.int .i64 0,.string ⟨#[]⟩,.int .i64 0] 48)).frozen? ⟨w1.heap.size,1,none⟩=false:=fun k=>blk_free (heap_alloc_new (w1.drewN k) _) 1
    have ag2:∀ k:Nat,((w1.drewN k).alloc (Obj.cells #[.int .i64 0,.string ⟨#[]⟩,.int .i64 0] 48)).frozen? ⟨w1.heap.size,2,none⟩=false:=fun k=>blk_free (heap_alloc_new (w1.drewN k) _) 2
    go_region_held (fun w'=>w'.cell? ⟨V.rb,0,none⟩=some (.slice (some a2) V.T.length V.c)∧w'.cell? ⟨V.rb,1,none⟩=some (.int .i64 p)∧w'.cell? (a2.add ((p+1)*3))=some (.int .i64 s.k)∧w'.cell? ⟨(a2.add ((p+1)*3)).block,(a2.add ((p+1)*3)).off+1,none⟩=some (.string s.t)∧w'.cell? ⟨(a2.add ((p+1)*3)).block,(a2.add ((p+1)*3)).off+2,none⟩=some (.int .i64 s.a))
     (first | go_keep | (refine ⟨?_,?_,?_,?_,?_⟩ <;> exact keep_cell (by assumption) ((((below_drewn (Below.refl _ w1) _).alloc (by first | exact Nat.le_refl _ | simp) _).setCell (p:=⟨w1.heap.size,0,none⟩) (Nat.le_refl _) _).setCell (p:=⟨w1.heap.size,1,none⟩) (Nat.le_refl _) _ |>.setCell (p:=⟨w1.heap.size,2,none⟩) (Nat.le_refl _) _))) (fail)
    clear ax0 ax1 ax2 ag0 ag1 ag2
    obtain ⟨D,hD⟩:∃ D,w1.drewN (nq+1)=D:=⟨_,rfl⟩
    have hsD:D.heap.size=w1.heap.size:=by rw [← hD];rfl
    have HD:=Lib.hid (show Below w.heap.size w D by rw [← hD];exact below_drewn HB.out _)
    rw [hD]
    rw [← hsD]
    obtain ⟨X,hX⟩:∃ X,(((D.alloc (Obj.cells #[.int .i64 0,.string ⟨#[]⟩,.int .i64 0] 48)).setCell ⟨D.heap.size,0,none⟩ (.int .i64 s.k)).setCell ⟨D.heap.size,1,none⟩ (.string s.t)).setCell ⟨D.heap.size,2,none⟩ (.int .i64 s.a)=X:=⟨_,rfl⟩
    have hbl:X.heap[D.heap.size]?=some (.cells #[.int .i64 s.k,.string s.t,.int .i64 s.a] 48 (0,0)):=by rw [← hX];exact heap_setCell_same (heap_setCell_same (heap_setCell_same (heap_alloc_new D _) 0 _) 1 _) 2 _
    have HX:=Lib.hid (show Below w.heap.size w X by rw [← hX];exact (((HD.out.alloc HD.out.size _).setCell (p:=⟨D.heap.size,0,none⟩) HD.out.size _).setCell (p:=⟨D.heap.size,1,none⟩) HD.out.size _).setCell (p:=⟨D.heap.size,2,none⟩) HD.out.size _)
    have x0:X.cell? ⟨D.heap.size,0,none⟩=some (.int .i64 s.k):=blk_cell hbl 0 rfl
    have x1:X.cell? ⟨D.heap.size,1,none⟩=some (.string s.t):=blk_cell hbl 1 rfl
    rw [hX]
    clear hsD
    generalize D.heap.size=G at *
    clear hX hbl hD t0 t1 t2
    cases hk6:(s.k==6)
    ·go_wp2_with fail
     go_ret
     exact ⟨by rw [HF.out,hk6];rfl,HX.out⟩
    ·go_wp2_with fail
     go_ret
     exact ⟨by rw [HF.out,hk6];rfl,HX.out⟩
  ·have HF:=Lib.hid (show V.unlike p=false by rw [hF,decide_eq_false hlt];rfl)
   have d1:decide ((V.T.length:Int)≤(p:Int)+1)=true:=decide_eq_true (by omega)
   have d1n:decide (V.T.length≤p+1)=true:=decide_eq_true (by omega)
   clear hF hk hk2 h hlt
   rcases hkk with e1 | ⟨e1,e2⟩
   all_goals
    go_enter Tryz.func112,Tryz.ntmps112
    go_upto_region 2 with (first | (go_at_call 39;refine HN.out.mono ?_;rintro e w1 ⟨rfl,hb⟩;have HB:=Lib.hid hb;have hl:=(HR.out.below hb).l;have hp:=(HR.out.below hb).pos;clear hb))
    go_quiet (fail)
    go_wp2_with fail
    go_ret
    exact ⟨by rw [HF.out];rfl,by repeat (first | exact HB.out | refine below_drewn ?_ _)⟩
 ·have e1:(t.k != 1)=true:=by simpa using fun e=>hk (.inl e)
  have e2:(t.k != 2)=true:=by simpa using fun e=>hk (.inr e)
  have hk2:(t.k==1||t.k==2)=false:=by
   have h1:¬ t.k=1:=fun e=>hk (.inl e)
   have h2:¬ t.k=2:=fun e=>hk (.inr e)
   simp [h1,h2]
  have HF:=Lib.hid (show V.unlike p=false by rw [hF,hk2];rfl)
  clear hF hk hk2 h
  go_enter Tryz.func112,Tryz.ntmps112
  go_upto_region 2 with (first | (go_at_call 39;refine HN.out.mono ?_;rintro e w1 ⟨rfl,hb⟩;have HB:=Lib.hid hb;have hl:=(HR.out.below hb).l;have hp:=(HR.out.below hb).pos;clear hb))
  go_quiet (fail)
  go_wp2_with fail
  go_ret
  exact ⟨by rw [HF.out];rfl,by repeat (first | exact HB.out | refine below_drewn ?_ _)⟩
end Go.Proofs.YtcakgennlliejaaGreatDoor
namespace Go.Proofs.YtcakgennlliejaaGreatDoor
open Go.Shelf Go.RowKit Go.Lib
open Sx
set_option linter.unusedVariables false
set_option linter.unusedSimpArgs false
def Sx.Env.day (V:Env) (cal:ByteArray→Int × Int) (p:Nat):Res Int :=
 if (V.next p).k==4 then
  if (cal (V.next p).t).2=0 then .ok (cal (V.next p).t).1 (p+1) else V.stop (cal (V.next p).t).2 p
 else V.stop 51 p
theorem day_calls (V:Env) (cal:ByteArray→Int × Int)
  (hC:∀ s w,Calls Tryz.prog 108 #[.string s] w fun e w'=>e=.returned (.tuple #[.int .i64 (cal s).1,.int .i64 (cal s).2])∧Below w.heap.size w w')
  (p:Nat) (w:World) (h:Rd w V p):Calls Tryz.prog 91 #[.pointer (some ⟨V.rb,0,none⟩)] w (Post V w intR (V.day cal p)):=by
 have HN:=Lib.hid (next_calls V p w h)
 unfold Sx.tv at HN
 have HLT:=Lib.hid (Sx.next_lt (V:=V) (p:=p))
 have HST:=Lib.hid (fun er w1 (h1:Rd w1 V p)=>stop_calls V p er w1 h1)
 have hF:V.day cal p=V.day cal p:=rfl
 conv at hF=>rhs;unfold Env.day Env.stop
 generalize V.next p=t at *
 generalize V.place p=pp at *
 have HR:=Lib.hid h
 have hC2:=hC t.t
 generalize cal t.t=m at *
 obtain ⟨mv,me⟩:=m
 simp only at hF hC2
 have HC:=Lib.hid hC2
 have HF:=Lib.hid hF
 clear hF hC hC2 h
 by_cases hk:t.k=4
 ·have e1:(t.k != 4)=false:=by simpa using hk
  have e2:(t.k==4)=true:=by simpa using hk
  have HQ:=Lib.hid (HLT.out (by rw [hk];decide))
  have wz:IntKind.i64.wrap ((p:Int)+1)=((p+1:Nat):Int):=by have h1:=HR.out.n;have h2:=HQ.out;rw [IntWalk.i64_in _ (by omega)];omega
  rw [if_pos e2] at HF
  clear e2 hk
  go_enter Tryz.func91,Tryz.ntmps91
  go_upto_region 2 with (first | (go_at_call 39;refine HN.out.mono ?_;rintro e w3 ⟨rfl,hb3⟩))
  obtain ⟨X,hX⟩:∃ X,w3.alloc (Obj.cells #[.int .i64 t.k,.string t.t,.int .i64 t.a] 48)=X:=⟨_,rfl⟩
  have bX:Below w3.heap.size w3 X:=by rw [← hX];exact (Below.refl _ w3).alloc (Nat.le_refl _) _
  have x0:X.cell? ⟨w3.heap.size,0,none⟩=some (.int .i64 t.k):=by rw [← hX];exact blk_cell (heap_alloc_new w3 _) 0 rfl
  have x1:X.cell? ⟨w3.heap.size,1,none⟩=some (.string t.t):=by rw [← hX];exact blk_cell (heap_alloc_new w3 _) 1 rfl
  have HB:=Lib.hid (below_next hb3 bX)
  try rw [hX]
  clear hX bX hb3
  by_cases hm:me=0
  ·rw [if_pos hm] at HF
   have e3:(me != 0)=false:=by simpa using hm
   clear hm
   go_wp2_with (first | (go_at_call 108;refine (HC.out X).mono ?_;rintro e w4 ⟨rfl,hb4⟩;have HB4:=Lib.hid (below_next HB.out hb4);have hp4:=(HR.out.below HB4.out).pos;have hf4:=(HR.out.below HB4.out).f;clear hb4))
   go_ret
   rw [HF.out]
   have hz:=HR.out.keep HB4.out (show p+1≤V.T.length from HQ.out)
   exact ⟨_,rfl,rfl,hz.1,hz.2⟩
  ·rw [if_neg hm] at HF
   have e3:(me != 0)=true:=by simpa using hm
   clear hm
   go_wp2_with (first | (go_at_call 108;refine (HC.out X).mono ?_;rintro e w4 ⟨rfl,hb4⟩;have HB4:=Lib.hid (below_next HB.out hb4);clear hb4) | (go_at_call 40;refine (HST.out me _ (HR.out.below HB4.out)).mono ?_;rintro e w5 ⟨rfl,hb5⟩))
   refine ⟨rfl,?_⟩
   rw [HF.out]
   exact ⟨rfl,(Keep.of_below HB4.out).below hb5⟩
 ·have e1:(t.k != 4)=true:=by simpa using hk
  have e2:(t.k==4)=false:=by simpa using hk
  rw [e2,if_neg (by decide)] at HF
  clear e2 hk
  go_enter Tryz.func91,Tryz.ntmps91
  go_upto_region 2 with (first | (go_at_call 39;refine HN.out.mono ?_;rintro e w3 ⟨rfl,hb3⟩))
  obtain ⟨X,hX⟩:∃ X,w3.alloc (Obj.cells #[.int .i64 t.k,.string t.t,.int .i64 t.a] 48)=X:=⟨_,rfl⟩
  have bX:Below w3.heap.size w3 X:=by rw [← hX];exact (Below.refl _ w3).alloc (Nat.le_refl _) _
  have x0:X.cell? ⟨w3.heap.size,0,none⟩=some (.int .i64 t.k):=by rw [← hX];exact blk_cell (heap_alloc_new w3 _) 0 rfl
  have HB:=Lib.hid (below_next hb3 bX)
  try rw [hX]
  clear hX bX hb3
  go_wp2_with (first | (go_at_call 40;refine (HST.out 51 X (HR.out.below HB.out)).mono ?_;rintro e w4 ⟨rfl,hb4⟩))
  refine ⟨rfl,?_⟩
  rw [HF.out]
  exact ⟨rfl,(Keep.of_below HB.out).below hb4⟩
end Go.Proofs.YtcakgennlliejaaGreatDoor
namespace Go.Proofs.YtcakgennlliejaaGreatDoor.PSyntaxJoined
open Go.RowKit Go.Proofs.YtcakgennlliejaaGreatDoorW.PrintWords Go.Proofs.YtcakgennlliejaaGreatDoorW.PrintLast Go.Proofs.YtcakgennlliejaaGreatDoorW.PrintMore
attribute [local go_sem] max2_int min2_int max_two min_two max_three min_three max_four min_four   -- for this text's walks alone
set_option linter.unusedVariables false
set_option linter.unusedSimpArgs false
def IsS108 (w0 W:World) (g:Nat) (f0:ByteArray) (f1:Int) (f2:List (S48)) (f3:List ByteArray) (f4:Int) (f5:Int):Prop:=∃ A2 c2,∃ A3 c3,W.heap[g]?=some (.cells #[.string f0,.int .i64 f1,.slice A2 f2.length c2,.slice A3 f3.length c3,.int .i64 f4,.int .i64 f5] 108 (0,0))∧w0.heap.size≤g∧Kd.C k48 w0 A2 f2.length f2∧Kd.C Kd.string w0 A3 f3.length f3
theorem IsS108.grown {w0 W:World} {g:Nat} {f0:ByteArray} {f1:Int} {f2:List (S48)} {f3:List ByteArray} {f4:Int} {f5:Int} {W1:World} {row:Option Nat} (h:IsS108 w0 W g f0 f1 f2 f3 f4 f5) (hw:W.grownBy W1 row) (hne:some g≠row):IsS108 w0 W1 g f0 f1 f2 f3 f4 f5:=by
 obtain ⟨A2,c2,A3,c3,hb,hg,hr2,hr3⟩:=h
 exact ⟨A2,c2,A3,c3,blk_grown hb hw hne,hg,hr2,hr3⟩
theorem IsS108.fresh {w0 W:World} {g:Nat} {f0:ByteArray} {f1:Int} {f2:List (S48)} {f3:List ByteArray} {f4:Int} {f5:Int} (h:IsS108 w0 W g f0 f1 f2 f3 f4 f5):∀ k,W.heap.size≤k→k≠g:=by
 obtain ⟨A2,c2,A3,c3,hb,hg,hr2,hr3⟩:=h
 exact Kd.freshB hb
theorem IsS108.kept {w0 W:World} {g:Nat} {f0:ByteArray} {f1:Int} {f2:List (S48)} {f3:List ByteArray} {f4:Int} {f5:Int} {W1:World} {S:Nat→Prop} (h:IsS108 w0 W g f0 f1 f2 f3 f4 f5) (hk:Kept W W1 S) (hne:¬ S g):IsS108 w0 W1 g f0 f1 f2 f3 f4 f5:=by
 obtain ⟨A2,c2,A3,c3,hb,hg,hr2,hr3⟩:=h
 exact ⟨A2,c2,A3,c3,blk_kept hb hk hne,hg,hr2,hr3⟩
theorem IsS108.below {w0 W:World} {g:Nat} {f0:ByteArray} {f1:Int} {f2:List (S48)} {f3:List ByteArray} {f4:Int} {f5:Int} {W1:World} (h:IsS108 w0 W g f0 f1 f2 f3 f4 f5) (hw:Below W.heap.size W W1):IsS108 w0 W1 g f0 f1 f2 f3 f4 f5:=h.grown (grown_of_below hw none) (by simp)
theorem IsS108.alloc {w0 W:World} {g:Nat} {f0:ByteArray} {f1:Int} {f2:List (S48)} {f3:List ByteArray} {f4:Int} {f5:Int} (h:IsS108 w0 W g f0 f1 f2 f3 f4 f5) (o:Obj):IsS108 w0 (W.alloc o) g f0 f1 f2 f3 f4 f5:=h.below (below_alloc (Below.refl _ _) o)
theorem IsS108.drewN {w0 W:World} {g:Nat} {f0:ByteArray} {f1:Int} {f2:List (S48)} {f3:List ByteArray} {f4:Int} {f5:Int} (h:IsS108 w0 W g f0 f1 f2 f3 f4 f5) (m:Nat):IsS108 w0 (W.drewN m) g f0 f1 f2 f3 f4 f5:=h
theorem IsS108.drew {w0 W:World} {g:Nat} {f0:ByteArray} {f1:Int} {f2:List (S48)} {f3:List ByteArray} {f4:Int} {f5:Int} (h:IsS108 w0 W g f0 f1 f2 f3 f4 f5):IsS108 w0 W.drew g f0 f1 f2 f3 f4 f5:=h
theorem IsS108.at_ {w0 W:World} {g:Nat} {f0:ByteArray} {f1:Int} {f2:List (S48)} {f3:List ByteArray} {f4:Int} {f5:Int} {w':World} {m:Nat} (hq:W.drewN m=w') (h:IsS108 w0 W g f0 f1 f2 f3 f4 f5):IsS108 w0 w' g f0 f1 f2 f3 f4 f5:=by subst hq;exact IsS108.drewN h m
theorem IsS108.apart {w0 W:World} {g:Nat} {f0:ByteArray} {f1:Int} {f2:List (S48)} {f3:List ByteArray} {f4:Int} {f5:Int} {α:Type} {d:Kd α} {e:Nat} {base:Nat} {ok:Nat→Prop} {v:Value} {xs:List α} (h:IsS108 w0 W g f0 f1 f2 f3 f4 f5) (ho:d.R e W base ok v xs) (ht:∀ q,q∈e::d.E→q≠108):d.R e W base (fun k=>ok k∧k≠g) v xs:=by
 obtain ⟨A2,c2,A3,c3,hb,hg,hr2,hr3⟩:=h
 exact Kd.R_types ho hb ht
theorem IsS108.own_ne {w0 W:World} {g:Nat} {f0:ByteArray} {f1:Int} {f2:List (S48)} {f3:List ByteArray} {f4:Int} {f5:Int} {α:Type} {d:Kd α} {e:Nat} {base:Nat} {ok:Nat→Prop} {v:Value} {xs:List α} (h:IsS108 w0 W g f0 f1 f2 f3 f4 f5) (ho:d.R e W base ok v xs) (ht:e≠108):some g≠v.ownBlock:=by
 obtain ⟨A2,c2,A3,c3,hb,hg,hr2,hr3⟩:=h
 exact Kd.R_ne ho hb ht
theorem IsS108.lt {w0 W:World} {g:Nat} {f0:ByteArray} {f1:Int} {f2:List (S48)} {f3:List ByteArray} {f4:Int} {f5:Int} (h:IsS108 w0 W g f0 f1 f2 f3 f4 f5):g<W.heap.size:=by
 obtain ⟨A2,c2,A3,c3,hb,hg,hr2,hr3⟩:=h
 exact blk_lt hb
theorem IsS108.ge {w0 W:World} {g:Nat} {f0:ByteArray} {f1:Int} {f2:List (S48)} {f3:List ByteArray} {f4:Int} {f5:Int} (h:IsS108 w0 W g f0 f1 f2 f3 f4 f5):w0.heap.size≤g:=by
 obtain ⟨A2,c2,A3,c3,hb,hg,hr2,hr3⟩:=h
 exact hg
theorem IsS108.far {w0 W:World} {g:Nat} {f0:ByteArray} {f1:Int} {f2:List (S48)} {f3:List ByteArray} {f4:Int} {f5:Int} {p:Addr} (h:IsS108 w0 W g f0 f1 f2 f3 f4 f5) (hne:g≠p.block) (u:Value):IsS108 w0 (W.setCell p u) g f0 f1 f2 f3 f4 f5:=by
 obtain ⟨A2,c2,A3,c3,hb,hg,hr2,hr3⟩:=h
 exact ⟨A2,c2,A3,c3,blk_far hb hne u,hg,hr2,hr3⟩
theorem IsS108.new (w0 W:World) (A2:Option Addr) (c2:Nat) (A3:Option Addr) (c3:Nat) (f0:ByteArray) (f1:Int) (f2:List (S48)) (f3:List ByteArray) (f4:Int) (f5:Int) (hB:Below w0.heap.size w0 W) (hr2:Kd.C k48 w0 A2 f2.length f2) (hr3:Kd.C Kd.string w0 A3 f3.length f3):IsS108 w0 (W.alloc (.cells #[.string f0,.int .i64 f1,.slice A2 f2.length c2,.slice A3 f3.length c3,.int .i64 f4,.int .i64 f5] 108)) W.heap.size f0 f1 f2 f3 f4 f5:=⟨A2,c2,A3,c3,by simpa using heap_alloc_new W _,hB.size,hr2,hr3⟩
def calendar_leap.f (a0:Int):Option (Bool):=if (Int.tmod a0 4)=0 then (if (Int.tmod a0 100)=0 then (some ((Int.tmod a0 400)==0)) else (some true)) else (some false)
theorem calendar_leap.calls (a0:Int) (r:Bool) (w:World) (h:calendar_leap.f a0=some r) :
  Calls Tryz.prog 164 #[.int .i64 a0] w fun e w'=>e=.returned (.bool r)∧Drawn0 w w':=by
 have H:(if (Int.tmod a0 4)=0 then (if (Int.tmod a0 100)=0 then (some ((Int.tmod a0 400)==0)) else (some true)) else (some false))=some r:=h
 clear h
 by_cases c2:(Int.tmod a0 4)=0
 ·rw [if_pos c2] at H
  have c2b0:((Int.tmod a0 4)==0)=true:=beq_iff_eq.mpr c2
  have c2b1:((Int.tmod a0 4) != 0)=false:=bne_eq_false_iff_eq.mpr c2
  clear c2
  by_cases c3:(Int.tmod a0 100)=0
  ·rw [if_pos c3] at H
   have c3b0:((Int.tmod a0 100)==0)=true:=beq_iff_eq.mpr c3
   have c3b1:((Int.tmod a0 100) != 0)=false:=bne_eq_false_iff_eq.mpr c3
   clear c3
   obtain rfl:=Option.some.inj H
   go_enter Tryz.func164,Tryz.ntmps164
   go_wp2
   go_ret
   exact ⟨by first | rfl | (simp;done) | (simp [*];done),by repeat (first | exact Drawn0.refl _ | apply Drawn0.step)⟩
  ·rw [if_neg c3] at H
   have c3b0:((Int.tmod a0 100)==0)=false:=beq_eq_false_iff_ne.mpr c3
   have c3b1:((Int.tmod a0 100) != 0)=true:=bne_iff_ne.mpr c3
   obtain rfl:=Option.some.inj H
   go_enter Tryz.func164,Tryz.ntmps164
   go_wp2
   go_ret
   exact ⟨by first | rfl | (simp;done) | (simp [*];done),by repeat (first | exact Drawn0.refl _ | apply Drawn0.step)⟩
 ·rw [if_neg c2] at H
  have c2b0:((Int.tmod a0 4)==0)=false:=beq_eq_false_iff_ne.mpr c2
  have c2b1:((Int.tmod a0 4) != 0)=true:=bne_iff_ne.mpr c2
  obtain rfl:=Option.some.inj H
  go_enter Tryz.func164,Tryz.ntmps164
  go_wp2
  go_ret
  exact ⟨by first | rfl | (simp;done) | (simp [*];done),by repeat (first | exact Drawn0.refl _ | apply Drawn0.step)⟩
def calendar_civil_hasMonth.f (a0_0:Int) (a0_1:Int) (a0_2:Int):Option (Bool):=if a0_0 ≥ 1 then (if a0_0≤9999 then (if a0_1 ≥ 1 then (some (decide (a0_1≤12))) else (some false)) else (some false)) else (some false)
theorem calendar_civil_hasMonth.calls (a0_0:Int) (a0_1:Int) (a0_2:Int) (r:Bool) (w:World) (h:calendar_civil_hasMonth.f a0_0 a0_1 a0_2=some r) :
  Calls Tryz.prog 155 #[.agg #[.int .i64 a0_0,.int .i64 a0_1,.int .i64 a0_2]] w fun e w'=>e=.returned (.bool r)∧Below w.heap.size w w':=by
 have hu202:=Tryz.underlying202
 have HB:=Aside0.mk (Below.refl w.heap.size w)
 have H:(if a0_0 ≥ 1 then (if a0_0≤9999 then (if a0_1 ≥ 1 then (some (decide (a0_1≤12))) else (some false)) else (some false)) else (some false))=some r:=h
 clear h
 by_cases c2:a0_0 ≥ 1
 ·rw [if_pos c2] at H
  have c2b0:decide (1≤a0_0)=true:=decide_eq_true c2
  clear c2
  by_cases c3:a0_0≤9999
  ·rw [if_pos c3] at H
   have c3b0:decide (a0_0≤9999)=true:=decide_eq_true c3
   clear c3
   by_cases c4:a0_1 ≥ 1
   ·rw [if_pos c4] at H
    have c4b0:decide (1≤a0_1)=true:=decide_eq_true c4
    clear c4
    obtain rfl:=Option.some.inj H
    go_enter Tryz.func155,Tryz.ntmps155
    go_wp2_with (first | ((with_reducible refine gate_dst (N:=1) rfl ?_);refine box_event ?hg (N:=1) ?hd (cs:=#[.int .i64 a0_0,.int .i64 a0_1,.int .i64 a0_2]) (t:=202) ?hr ?_;(case hd=>rfl);(case hg=>rfl);(case hr=>first | (go_simp;done) | (go_simp;rfl));intro gb115 hg w5 hbox hb;have n0_:=Aside0.mk (below_step (by repeat (first | (with_reducible first | exact HB.out | apply below_alloc | apply pw_below_drewN | apply below_drew1) | exact HB.out)) hb);have n1_:=Aside0.mk (hbox);have n2_:=Aside0.mk ((by rw [hg];exact (below_size (by repeat (first | (with_reducible first | exact HB.out | apply below_alloc | apply pw_below_drewN | apply below_drew1) | exact HB.out))):w.heap.size≤gb115));have n3_:=Aside0.mk ((by rw [hg];exact (below_size (by repeat (first | (with_reducible first | exact HB.out | apply below_alloc | apply pw_below_drewN | apply below_drew1) | exact HB.out))):w.heap.size≤gb115));clear HB;have HB:=n0_;have BK115:=n1_;have GW115:=n2_;have GE115:=n3_;clear n0_ n1_ n2_ n3_;clear hb hbox hg;have hcz6_0:w5.cell? ⟨gb115,0,none⟩=some (.int .i64 a0_0):=(blk_cell BK115.out 0).trans rfl;have hcz6_1:w5.cell? ⟨gb115,1,none⟩=some (.int .i64 a0_1):=(blk_cell BK115.out 1).trans rfl;have hcz6_2:w5.cell? ⟨gb115,2,none⟩=some (.int .i64 a0_2):=(blk_cell BK115.out 2).trans rfl;have hfz6_0:=blk_frozen BK115.out 0;have hfz6_1:=blk_frozen BK115.out 1;have hfz6_2:=blk_frozen BK115.out 2))
    go_ret
    exact ⟨by first | rfl | (simp [errW_none,errW_some] <;> rfl) | (simp [*,errW_none,errW_some] <;> rfl),by repeat (first | (with_reducible first | exact HB.out | apply below_alloc | apply pw_below_drewN | apply below_drew1 | refine below_set ?_ GE115.out) | exact HB.out)⟩
   ·rw [if_neg c4] at H
    have c4b0:decide (1≤a0_1)=false:=decide_eq_false c4
    clear c4
    obtain rfl:=Option.some.inj H
    go_enter Tryz.func155,Tryz.ntmps155
    go_wp2_with (first | ((with_reducible refine gate_dst (N:=1) rfl ?_);refine box_event ?hg (N:=1) ?hd (cs:=#[.int .i64 a0_0,.int .i64 a0_1,.int .i64 a0_2]) (t:=202) ?hr ?_;(case hd=>rfl);(case hg=>rfl);(case hr=>first | (go_simp;done) | (go_simp;rfl));intro gb115 hg w7 hbox hb;have n0_:=Aside0.mk (below_step (by repeat (first | (with_reducible first | exact HB.out | apply below_alloc | apply pw_below_drewN | apply below_drew1) | exact HB.out)) hb);have n1_:=Aside0.mk (hbox);have n2_:=Aside0.mk ((by rw [hg];exact (below_size (by repeat (first | (with_reducible first | exact HB.out | apply below_alloc | apply pw_below_drewN | apply below_drew1) | exact HB.out))):w.heap.size≤gb115));have n3_:=Aside0.mk ((by rw [hg];exact (below_size (by repeat (first | (with_reducible first | exact HB.out | apply below_alloc | apply pw_below_drewN | apply below_drew1) | exact HB.out))):w.heap.size≤gb115));clear HB;have HB:=n0_;have BK115:=n1_;have GW115:=n2_;have GE115:=n3_;clear n0_ n1_ n2_ n3_;clear hb hbox hg;have hcz8_0:w7.cell? ⟨gb115,0,none⟩=some (.int .i64 a0_0):=(blk_cell BK115.out 0).trans rfl;have hcz8_1:w7.cell? ⟨gb115,1,none⟩=some (.int .i64 a0_1):=(blk_cell BK115.out 1).trans rfl;have hcz8_2:w7.cell? ⟨gb115,2,none⟩=some (.int .i64 a0_2):=(blk_cell BK115.out 2).trans rfl;have hfz8_0:=blk_frozen BK115.out 0;have hfz8_1:=blk_frozen BK115.out 1;have hfz8_2:=blk_frozen BK115.out 2))
    go_ret
    exact ⟨by first | rfl | (simp [errW_none,errW_some] <;> rfl) | (simp [*,errW_none,errW_some] <;> rfl),by repeat (first | (with_reducible first | exact HB.out | apply below_alloc | apply pw_below_drewN | apply below_drew1 | refine below_set ?_ GE115.out) | exact HB.out)⟩
  ·rw [if_neg c3] at H
   have c3b0:decide (a0_0≤9999)=false:=decide_eq_false c3
   clear c3
   obtain rfl:=Option.some.inj H
   go_enter Tryz.func155,Tryz.ntmps155
   go_wp2_with (first | ((with_reducible refine gate_dst (N:=1) rfl ?_);refine box_event ?hg (N:=1) ?hd (cs:=#[.int .i64 a0_0,.int .i64 a0_1,.int .i64 a0_2]) (t:=202) ?hr ?_;(case hd=>rfl);(case hg=>rfl);(case hr=>first | (go_simp;done) | (go_simp;rfl));intro gb115 hg w9 hbox hb;have n0_:=Aside0.mk (below_step (by repeat (first | (with_reducible first | exact HB.out | apply below_alloc | apply pw_below_drewN | apply below_drew1) | exact HB.out)) hb);have n1_:=Aside0.mk (hbox);have n2_:=Aside0.mk ((by rw [hg];exact (below_size (by repeat (first | (with_reducible first | exact HB.out | apply below_alloc | apply pw_below_drewN | apply below_drew1) | exact HB.out))):w.heap.size≤gb115));have n3_:=Aside0.mk ((by rw [hg];exact (below_size (by repeat (first | (with_reducible first | exact HB.out | apply below_alloc | apply pw_below_drewN | apply below_drew1) | exact HB.out))):w.heap.size≤gb115));clear HB;have HB:=n0_;have BK115:=n1_;have GW115:=n2_;have GE115:=n3_;clear n0_ n1_ n2_ n3_;clear hb hbox hg;have hcz10_0:w9.cell? ⟨gb115,0,none⟩=some (.int .i64 a0_0):=(blk_cell BK115.out 0).trans rfl;have hcz10_1:w9.cell? ⟨gb115,1,none⟩=some (.int .i64 a0_1):=(blk_cell BK115.out 1).trans rfl;have hcz10_2:w9.cell? ⟨gb115,2,none⟩=some (.int .i64 a0_2):=(blk_cell BK115.out 2).trans rfl;have hfz10_0:=blk_frozen BK115.out 0;have hfz10_1:=blk_frozen BK115.out 1;have hfz10_2:=blk_frozen BK115.out 2))
   go_ret
   exact ⟨by first | rfl | (simp [errW_none,errW_some] <;> rfl) | (simp [*,errW_none,errW_some] <;> rfl),by repeat (first | (with_reducible first | exact HB.out | apply below_alloc | apply pw_below_drewN | apply below_drew1 | refine below_set ?_ GE115.out) | exact HB.out)⟩
 ·rw [if_neg c2] at H
  have c2b0:decide (1≤a0_0)=false:=decide_eq_false c2
  clear c2
  obtain rfl:=Option.some.inj H
  go_enter Tryz.func155,Tryz.ntmps155
  go_wp2_with (first | ((with_reducible refine gate_dst (N:=1) rfl ?_);refine box_event ?hg (N:=1) ?hd (cs:=#[.int .i64 a0_0,.int .i64 a0_1,.int .i64 a0_2]) (t:=202) ?hr ?_;(case hd=>rfl);(case hg=>rfl);(case hr=>first | (go_simp;done) | (go_simp;rfl));intro gb115 hg w11 hbox hb;have n0_:=Aside0.mk (below_step (by repeat (first | (with_reducible first | exact HB.out | apply below_alloc | apply pw_below_drewN | apply below_drew1) | exact HB.out)) hb);have n1_:=Aside0.mk (hbox);have n2_:=Aside0.mk ((by rw [hg];exact (below_size (by repeat (first | (with_reducible first | exact HB.out | apply below_alloc | apply pw_below_drewN | apply below_drew1) | exact HB.out))):w.heap.size≤gb115));have n3_:=Aside0.mk ((by rw [hg];exact (below_size (by repeat (first | (with_reducible first | exact HB.out | apply below_alloc | apply pw_below_drewN | apply below_drew1) | exact HB.out))):w.heap.size≤gb115));clear HB;have HB:=n0_;have BK115:=n1_;have GW115:=n2_;have GE115:=n3_;clear n0_ n1_ n2_ n3_;clear hb hbox hg;have hcz12_0:w11.cell? ⟨gb115,0,none⟩=some (.int .i64 a0_0):=(blk_cell BK115.out 0).trans rfl;have hcz12_1:w11.cell? ⟨gb115,1,none⟩=some (.int .i64 a0_1):=(blk_cell BK115.out 1).trans rfl;have hcz12_2:w11.cell? ⟨gb115,2,none⟩=some (.int .i64 a0_2):=(blk_cell BK115.out 2).trans rfl;have hfz12_0:=blk_frozen BK115.out 0;have hfz12_1:=blk_frozen BK115.out 1;have hfz12_2:=blk_frozen BK115.out 2))
  go_ret
  exact ⟨by first | rfl | (simp [errW_none,errW_some] <;> rfl) | (simp [*,errW_none,errW_some] <;> rfl),by repeat (first | (with_reducible first | exact HB.out | apply below_alloc | apply pw_below_drewN | apply below_drew1 | refine below_set ?_ GE115.out) | exact HB.out)⟩
def calendar_civil_date.f (a0_0:Int) (a0_1:Int) (a0_2:Int):Option (Int):=if a0_1≤2 then (some (wrap64 ((wrap64 ((wrap64 ((wrap64 ((wrap64 ((wrap64 ((wrap64 (365*(wrap64 (a0_0-1))))+(wrap64 (Int.tdiv (wrap64 (a0_0-1)) 4))))-(wrap64 (Int.tdiv (wrap64 (a0_0-1)) 100))))+(wrap64 (Int.tdiv (wrap64 (a0_0-1)) 400))))+(wrap64 (Int.tdiv (wrap64 ((wrap64 (153*(wrap64 (a0_1+12))))-457)) 5))))+a0_2))-306))) else (some (wrap64 ((wrap64 ((wrap64 ((wrap64 ((wrap64 ((wrap64 ((wrap64 (365*a0_0))+(wrap64 (Int.tdiv a0_0 4))))-(wrap64 (Int.tdiv a0_0 100))))+(wrap64 (Int.tdiv a0_0 400))))+(wrap64 (Int.tdiv (wrap64 ((wrap64 (153*a0_1))-457)) 5))))+a0_2))-306)))
theorem calendar_civil_date.calls (a0_0:Int) (a0_1:Int) (a0_2:Int) (r:Int) (w:World) (h:calendar_civil_date.f a0_0 a0_1 a0_2=some r) :
  Calls Tryz.prog 142 #[.agg #[.int .i64 a0_0,.int .i64 a0_1,.int .i64 a0_2]] w fun e w'=>e=.returned (.int .i64 r)∧Below w.heap.size w w':=by
 have hu202:=Tryz.underlying202
 have HB:=Aside0.mk (Below.refl w.heap.size w)
 have H:(if a0_1≤2 then (some (wrap64 ((wrap64 ((wrap64 ((wrap64 ((wrap64 ((wrap64 ((wrap64 (365*(wrap64 (a0_0-1))))+(wrap64 (Int.tdiv (wrap64 (a0_0-1)) 4))))-(wrap64 (Int.tdiv (wrap64 (a0_0-1)) 100))))+(wrap64 (Int.tdiv (wrap64 (a0_0-1)) 400))))+(wrap64 (Int.tdiv (wrap64 ((wrap64 (153*(wrap64 (a0_1+12))))-457)) 5))))+a0_2))-306))) else (some (wrap64 ((wrap64 ((wrap64 ((wrap64 ((wrap64 ((wrap64 ((wrap64 (365*a0_0))+(wrap64 (Int.tdiv a0_0 4))))-(wrap64 (Int.tdiv a0_0 100))))+(wrap64 (Int.tdiv a0_0 400))))+(wrap64 (Int.tdiv (wrap64 ((wrap64 (153*a0_1))-457)) 5))))+a0_2))-306))))=some r:=h
 clear h
 by_cases c2:a0_1≤2
 ·rw [if_pos c2] at H
  have c2b0:decide (a0_1≤2)=true:=decide_eq_true c2
  clear c2
  obtain rfl:=Option.some.inj H
  go_enter Tryz.func142,Tryz.ntmps142
  go_wp2_with (first | ((with_reducible refine gate_dst (N:=1) rfl ?_);refine box_event ?hg (N:=1) ?hd (cs:=#[.int .i64 a0_0,.int .i64 a0_1,.int .i64 a0_2]) (t:=202) ?hr ?_;(case hd=>rfl);(case hg=>rfl);(case hr=>first | (go_simp;done) | (go_simp;rfl));intro gb118 hg w3 hbox hb;have n0_:=Aside0.mk (below_step (by repeat (first | (with_reducible first | exact HB.out | apply below_alloc | apply pw_below_drewN | apply below_drew1) | exact HB.out)) hb);have n1_:=Aside0.mk (hbox);have n2_:=Aside0.mk ((by rw [hg];exact (below_size (by repeat (first | (with_reducible first | exact HB.out | apply below_alloc | apply pw_below_drewN | apply below_drew1) | exact HB.out))):w.heap.size≤gb118));have n3_:=Aside0.mk ((by rw [hg];exact (below_size (by repeat (first | (with_reducible first | exact HB.out | apply below_alloc | apply pw_below_drewN | apply below_drew1) | exact HB.out))):w.heap.size≤gb118));clear HB;have HB:=n0_;have BK118:=n1_;have GW118:=n2_;have GE118:=n3_;clear n0_ n1_ n2_ n3_;clear hb hbox hg;have hcz4_0:w3.cell? ⟨gb118,0,none⟩=some (.int .i64 a0_0):=(blk_cell BK118.out 0).trans rfl;have hcz4_1:w3.cell? ⟨gb118,1,none⟩=some (.int .i64 a0_1):=(blk_cell BK118.out 1).trans rfl;have hcz4_2:w3.cell? ⟨gb118,2,none⟩=some (.int .i64 a0_2):=(blk_cell BK118.out 2).trans rfl;have hfz4_0:=blk_frozen BK118.out 0;have hfz4_1:=blk_frozen BK118.out 1;have hfz4_2:=blk_frozen BK118.out 2))
  repeat (go_quiet (first | ((with_reducible refine gate_dst (N:=1) rfl ?_);refine box_event ?hg (N:=1) ?hd (cs:=#[.int .i64 a0_0,.int .i64 a0_1,.int .i64 a0_2]) (t:=202) ?hr ?_;(case hd=>rfl);(case hg=>rfl);(case hr=>first | (go_simp;done) | (go_simp;rfl));intro gb118 hg w3 hbox hb;have n0_:=Aside0.mk (below_step (by repeat (first | (with_reducible first | exact HB.out | apply below_alloc | apply pw_below_drewN | apply below_drew1) | exact HB.out)) hb);have n1_:=Aside0.mk (hbox);have n2_:=Aside0.mk ((by rw [hg];exact (below_size (by repeat (first | (with_reducible first | exact HB.out | apply below_alloc | apply pw_below_drewN | apply below_drew1) | exact HB.out))):w.heap.size≤gb118));have n3_:=Aside0.mk ((by rw [hg];exact (below_size (by repeat (first | (with_reducible first | exact HB.out | apply below_alloc | apply pw_below_drewN | apply below_drew1) | exact HB.out))):w.heap.size≤gb118));clear HB;have HB:=n0_;have BK118:=n1_;have GW118:=n2_;have GE118:=n3_;clear n0_ n1_ n2_ n3_;clear hb hbox hg;have hcz4_0:w3.cell? ⟨gb118,0,none⟩=some (.int .i64 a0_0):=(blk_cell BK118.out 0).trans rfl;have hcz4_1:w3.cell? ⟨gb118,1,none⟩=some (.int .i64 a0_1):=(blk_cell BK118.out 1).trans rfl;have hcz4_2:w3.cell? ⟨gb118,2,none⟩=some (.int .i64 a0_2):=(blk_cell BK118.out 2).trans rfl;have hfz4_0:=blk_frozen BK118.out 0;have hfz4_1:=blk_frozen BK118.out 1;have hfz4_2:=blk_frozen BK118.out 2));try go_wp2_with (first | ((with_reducible refine gate_dst (N:=1) rfl ?_);refine box_event ?hg (N:=1) ?hd (cs:=#[.int .i64 a0_0,.int .i64 a0_1,.int .i64 a0_2]) (t:=202) ?hr ?_;(case hd=>rfl);(case hg=>rfl);(case hr=>first | (go_simp;done) | (go_simp;rfl));intro gb118 hg w3 hbox hb;have n0_:=Aside0.mk (below_step (by repeat (first | (with_reducible first | exact HB.out | apply below_alloc | apply pw_below_drewN | apply below_drew1) | exact HB.out)) hb);have n1_:=Aside0.mk (hbox);have n2_:=Aside0.mk ((by rw [hg];exact (below_size (by repeat (first | (with_reducible first | exact HB.out | apply below_alloc | apply pw_below_drewN | apply below_drew1) | exact HB.out))):w.heap.size≤gb118));have n3_:=Aside0.mk ((by rw [hg];exact (below_size (by repeat (first | (with_reducible first | exact HB.out | apply below_alloc | apply pw_below_drewN | apply below_drew1) | exact HB.out))):w.heap.size≤gb118));clear HB;have HB:=n0_;have BK118:=n1_;have GW118:=n2_;have GE118:=n3_;clear n0_ n1_ n2_ n3_;clear hb hbox hg;have hcz4_0:w3.cell? ⟨gb118,0,none⟩=some (.int .i64 a0_0):=(blk_cell BK118.out 0).trans rfl;have hcz4_1:w3.cell? ⟨gb118,1,none⟩=some (.int .i64 a0_1):=(blk_cell BK118.out 1).trans rfl;have hcz4_2:w3.cell? ⟨gb118,2,none⟩=some (.int .i64 a0_2):=(blk_cell BK118.out 2).trans rfl;have hfz4_0:=blk_frozen BK118.out 0;have hfz4_1:=blk_frozen BK118.out 1;have hfz4_2:=blk_frozen BK118.out 2)))
  go_ret
  exact ⟨by first | rfl | (simp [errW_none,errW_some] <;> rfl) | (simp [*,errW_none,errW_some] <;> rfl),by repeat (first | (with_reducible first | exact HB.out | apply below_alloc | apply pw_below_drewN | apply below_drew1 | refine below_set ?_ GE118.out) | exact HB.out)⟩
 ·rw [if_neg c2] at H
  have c2b0:decide (a0_1≤2)=false:=decide_eq_false c2
  clear c2
  obtain rfl:=Option.some.inj H
  go_enter Tryz.func142,Tryz.ntmps142
  go_wp2_with (first | ((with_reducible refine gate_dst (N:=1) rfl ?_);refine box_event ?hg (N:=1) ?hd (cs:=#[.int .i64 a0_0,.int .i64 a0_1,.int .i64 a0_2]) (t:=202) ?hr ?_;(case hd=>rfl);(case hg=>rfl);(case hr=>first | (go_simp;done) | (go_simp;rfl));intro gb118 hg w5 hbox hb;have n0_:=Aside0.mk (below_step (by repeat (first | (with_reducible first | exact HB.out | apply below_alloc | apply pw_below_drewN | apply below_drew1) | exact HB.out)) hb);have n1_:=Aside0.mk (hbox);have n2_:=Aside0.mk ((by rw [hg];exact (below_size (by repeat (first | (with_reducible first | exact HB.out | apply below_alloc | apply pw_below_drewN | apply below_drew1) | exact HB.out))):w.heap.size≤gb118));have n3_:=Aside0.mk ((by rw [hg];exact (below_size (by repeat (first | (with_reducible first | exact HB.out | apply below_alloc | apply pw_below_drewN | apply below_drew1) | exact HB.out))):w.heap.size≤gb118));clear HB;have HB:=n0_;have BK118:=n1_;have GW118:=n2_;have GE118:=n3_;clear n0_ n1_ n2_ n3_;clear hb hbox hg;have hcz6_0:w5.cell? ⟨gb118,0,none⟩=some (.int .i64 a0_0):=(blk_cell BK118.out 0).trans rfl;have hcz6_1:w5.cell? ⟨gb118,1,none⟩=some (.int .i64 a0_1):=(blk_cell BK118.out 1).trans rfl;have hcz6_2:w5.cell? ⟨gb118,2,none⟩=some (.int .i64 a0_2):=(blk_cell BK118.out 2).trans rfl;have hfz6_0:=blk_frozen BK118.out 0;have hfz6_1:=blk_frozen BK118.out 1;have hfz6_2:=blk_frozen BK118.out 2))
  repeat (go_quiet (first | ((with_reducible refine gate_dst (N:=1) rfl ?_);refine box_event ?hg (N:=1) ?hd (cs:=#[.int .i64 a0_0,.int .i64 a0_1,.int .i64 a0_2]) (t:=202) ?hr ?_;(case hd=>rfl);(case hg=>rfl);(case hr=>first | (go_simp;done) | (go_simp;rfl));intro gb118 hg w5 hbox hb;have n0_:=Aside0.mk (below_step (by repeat (first | (with_reducible first | exact HB.out | apply below_alloc | apply pw_below_drewN | apply below_drew1) | exact HB.out)) hb);have n1_:=Aside0.mk (hbox);have n2_:=Aside0.mk ((by rw [hg];exact (below_size (by repeat (first | (with_reducible first | exact HB.out | apply below_alloc | apply pw_below_drewN | apply below_drew1) | exact HB.out))):w.heap.size≤gb118));have n3_:=Aside0.mk ((by rw [hg];exact (below_size (by repeat (first | (with_reducible first | exact HB.out | apply below_alloc | apply pw_below_drewN | apply below_drew1) | exact HB.out))):w.heap.size≤gb118));clear HB;have HB:=n0_;have BK118:=n1_;have GW118:=n2_;have GE118:=n3_;clear n0_ n1_ n2_ n3_;clear hb hbox hg;have hcz6_0:w5.cell? ⟨gb118,0,none⟩=some (.int .i64 a0_0):=(blk_cell BK118.out 0).trans rfl;have hcz6_1:w5.cell? ⟨gb118,1,none⟩=some (.int .i64 a0_1):=(blk_cell BK118.out 1).trans rfl;have hcz6_2:w5.cell? ⟨gb118,2,none⟩=some (.int .i64 a0_2):=(blk_cell BK118.out 2).trans rfl;have hfz6_0:=blk_frozen BK118.out 0;have hfz6_1:=blk_frozen BK118.out 1;have hfz6_2:=blk_frozen BK118.out 2));try go_wp2_with (first | ((with_reducible refine gate_dst (N:=1) rfl ?_);refine box_event ?hg (N:=1) ?hd (cs:=#[.int .i64 a0_0,.int .i64 a0_1,.int .i64 a0_2]) (t:=202) ?hr ?_;(case hd=>rfl);(case hg=>rfl);(case hr=>first | (go_simp;done) | (go_simp;rfl));intro gb118 hg w5 hbox hb;have n0_:=Aside0.mk (below_step (by repeat (first | (with_reducible first | exact HB.out | apply below_alloc | apply pw_below_drewN | apply below_drew1) | exact HB.out)) hb);have n1_:=Aside0.mk (hbox);have n2_:=Aside0.mk ((by rw [hg];exact (below_size (by repeat (first | (with_reducible first | exact HB.out | apply below_alloc | apply pw_below_drewN | apply below_drew1) | exact HB.out))):w.heap.size≤gb118));have n3_:=Aside0.mk ((by rw [hg];exact (below_size (by repeat (first | (with_reducible first | exact HB.out | apply below_alloc | apply pw_below_drewN | apply below_drew1) | exact HB.out))):w.heap.size≤gb118));clear HB;have HB:=n0_;have BK118:=n1_;have GW118:=n2_;have GE118:=n3_;clear n0_ n1_ n2_ n3_;clear hb hbox hg;have hcz6_0:w5.cell? ⟨gb118,0,none⟩=some (.int .i64 a0_0):=(blk_cell BK118.out 0).trans rfl;have hcz6_1:w5.cell? ⟨gb118,1,none⟩=some (.int .i64 a0_1):=(blk_cell BK118.out 1).trans rfl;have hcz6_2:w5.cell? ⟨gb118,2,none⟩=some (.int .i64 a0_2):=(blk_cell BK118.out 2).trans rfl;have hfz6_0:=blk_frozen BK118.out 0;have hfz6_1:=blk_frozen BK118.out 1;have hfz6_2:=blk_frozen BK118.out 2)))
  go_ret
  exact ⟨by first | rfl | (simp [errW_none,errW_some] <;> rfl) | (simp [*,errW_none,errW_some] <;> rfl),by repeat (first | (with_reducible first | exact HB.out | apply below_alloc | apply pw_below_drewN | apply below_drew1 | refine below_set ?_ GE118.out) | exact HB.out)⟩
end Go.Proofs.YtcakgennlliejaaGreatDoor.PSyntaxJoined
