import Derived.Test.YtcakgennlliejaaGreatDoorSynK9
set_option maxHeartbeats 8000000
set_option maxRecDepth 100000
namespace Go.Proofs.YtcakgennlliejaaGreatDoor
open Go.Shelf Go.RowKit Go.Lib
open Go.Proofs.YtcakgennlliejaaGreatDoorW.PrintWords
open Go.Proofs.YtcakgennlliejaaGreatDoor.PSyntaxJoined
open Sx
set_option linter.unusedVariables false
set_option linter.unusedSimpArgs false
theorem term_calls (V:Env) (sg:Int) (p:Nat) (w:World) (h:Rd w V p):Calls Tryz.prog 128 #[.pointer (some ⟨V.rb,0,none⟩),.int .i64 sg] w (Post V w (aggR k102 w.heap.size) (V.term sg p)):=by
 have hmf:∀ (fn:Fn) (first cap:Array Value) (w:World),(Instr.makeFunc fn first cap).run Tryz.prog w=.ok (.func fn first cap) w:=fun _ _ _ _=>rfl
 have HN:=Lib.hid (fun w1 (h1:Rd w1 V p)=>next_calls V p w1 h1)
 unfold Sx.tv at HN
 have hF0:V.term sg p=V.term sg p:=rfl
 conv at hF0=>rhs;unfold Env.term
 have hT:V.isT 6 ⟨#[42]⟩ (p+1)=((V.next (p+1)).k==6&&((V.next (p+1)).t.toList==[42])):=by unfold Env.isT;rw [Lib.toList_data ⟨#[42]⟩]
 have hTn:¬ p+1<V.T.length→V.isT 6 ⟨#[42]⟩ (p+1)=false:=fun hn=>by
  cases hc:V.isT 6 ⟨#[42]⟩ (p+1)
  ·rfl
  ·exact absurd (isT_lt hc (by decide)) hn
 have hWq:∀ c q,V.whole 1 1000 p=.ok c q→q=p+1:=fun c q hr=>by
  unfold Env.whole Env.stop at hr
  split at hr
  ·split at hr
   ·cases hr
   ·injection hr with _ h2;exact h2.symm
  ·cases hr
 have HWQ:=Lib.hid hWq
 clear hWq
 obtain ⟨t,ht⟩:∃ t,V.next p=t:=⟨_,rfl⟩
 obtain ⟨s,hs⟩:∃ s,V.next (p+1)=s:=⟨_,rfl⟩
 rw [ht] at hF0 HN
 rw [hs] at hT
 have hfi:∀ w,(Instr.field 48 (.agg #[.int .i64 t.k,.string t.t,.int .i64 t.a]) 0).run Tryz.prog w=.ok (.int .i64 t.k) w:=fun w=>by kernel_rfl
 have wz:IntKind.i64.wrap ((p:Int)+1)=(p:Int)+1:=by have h1:=h.n;have h2:=h.le;rw [IntWalk.i64_in _ (by omega)]
 have HX:=Lib.hid hs
 by_cases hk:t.k=3
 ·have e1:(t.k==3)=true:=by simpa using hk
  rw [e1] at hF0
  by_cases hlt:p+1<V.T.length
  ·have HLT:=Lib.hid hlt
   cases hs6:(s.k==6)
   ·rw [hT,hs6] at hF0
    simp only [Bool.true_and,Bool.false_and,Bool.and_false,Bool.true_or,if_true,Bool.false_eq_true,if_false] at hF0
    clear hk hlt
    have HF0:=Lib.hid hF0
    have HA0:=Lib.hid (Bx.new h h (Keep.refl _ _) 102 #[(.int .i64 0),(.string ⟨#[]⟩),(.slice none 0 0),(.int .i64 0)])
    have HT:=Lib.hid h.t
    clear hF0 h ht hs hT hTn
    go_enter Tryz.func128,Tryz.ntmps128
    go_upto_region 1 with (fail)
    obtain ⟨X0,hX0⟩:∃ X0,w.alloc (Obj.cells #[(.int .i64 0),(.string ⟨#[]⟩),(.slice none 0 0),(.int .i64 0)] 102)=X0:=⟨_,rfl⟩
    try rw [hX0]
    rw [hX0] at HA0
    clear hX0
    go_upto_region 2 with (first | (go_at_call 39;refine (HN.out X0 HA0.out.rd).mono ?_;rintro e w1 ⟨rfl,hb1⟩;have HA1:=Lib.hid (HA0.out.call (HA0.out.rd.below hb1) (Keep.of_below hb1));clear hb1))
    go_upto_region 3 with (fail)
    have HA2:=Lib.hid (HA1.out.alloc (Obj.cells #[(.int .i64 sg),(.string ⟨#[]⟩),(.slice none 0 0),(.int .i64 0)] 102))
    have HB2:=Lib.hid (Bx.new HA0.out.h0 HA1.out.rd HA1.out.keep 102 #[(.int .i64 sg),(.string ⟨#[]⟩),(.slice none 0 0),(.int .i64 0)])
    have HNB0:=World.block_lt_of_cell? _ _ (blk_cell (v:=(.int .i64 0)) HA1.out.blk 0 rfl)
    obtain ⟨B,hB⟩:∃ B,w1.heap.size=B:=⟨_,rfl⟩
    have HNB:=Lib.hid (show w.heap.size≠B by rw [← hB];simp only at HNB0;omega)
    obtain ⟨X2,hX⟩:∃ X,w1.alloc (Obj.cells #[(.int .i64 sg),(.string ⟨#[]⟩),(.slice none 0 0),(.int .i64 0)] 102)=X:=⟨_,rfl⟩
    rw [hX] at HA2
    rw [hX,hB] at HB2
    try rw [hX,hB]
    clear hX hB HNB0 HA1 HA0 HN
    have hl:=HB2.out.rd.l
    have hp:=HB2.out.rd.pos
    obtain ⟨a2,ha2,_,t0,t1,t2⟩:=HB2.out.rd.t (p+1) HLT.out
    rw [ha2] at hl
    rw [HX.out] at t0 t1 t2
    have y1:(p:Int)+1<(V.T.length:Int):=by have:=HLT.out;omega
    have y1n:p+1<V.T.length:=HLT.out
    have y2:(0:Int)≤(p:Int)+1:=by omega
    have d1:decide ((p:Int)+1<(V.T.length:Int))=true:=decide_eq_true y1
    have d1n:decide (p+1<V.T.length)=true:=decide_eq_true y1n
    clear ha2
    go_quiet (fail)
    clear hl hp t0 t1 t2 y1 y1n y2 d1 d1n
    obtain ⟨X3,hX3⟩:∃ X,X2.drewN nq=X:=⟨_,rfl⟩
    have hr2:=HB2.out.rd.below (below_drewN (Below.refl _ X2) nq)
    have hk2:=Keep.of_below (F:=ours V) (below_drewN (Below.refl _ X2) nq)
    rw [hX3] at hr2 hk2
    try rw [hX3]
    clear hX3
    have HD1_0:=Lib.hid (show Bx w X3 V p p w.heap.size 102 #[(.int .i64 0),(.string ⟨#[]⟩),(.slice none 0 0),(.int .i64 0)] from HA2.out.call hr2 hk2)
    have HD1_1:=Lib.hid (show Bx w X3 V p p B 102 #[(.int .i64 sg),(.string ⟨#[]⟩),(.slice none 0 0),(.int .i64 0)] from HB2.out.call hr2 hk2)
    clear HA2 HB2
    clear hr2 hk2
    have HK2:=Lib.hid (fun w1 h1=>money_calls V p w1 h1)
    have hF2:=HF0.out
    generalize hr2:V.money p=r2 at hF2 HK2
    cases r2 with
    | bad er a =>
     dsimp only [Res.bnd] at hF2
     have HF2:=Lib.hid hF2
     clear hF2 HF0 hr2
     go_wp2_with (first | (go_at_call 89;refine (HK2.out X3 HD1_0.out.rd).mono ?_;rintro e w2 ⟨rfl,hk2⟩))
     refine ⟨rfl,?_⟩
     rw [HF2.out]
     exact ⟨rfl,HD1_0.out.keep.trans hk2 (fun _ _ h=>h)⟩
    | ok m q =>
     dsimp only [Res.bnd] at hF2
     have HF2:=Lib.hid hF2
     clear hF2 HF0 hr2
     go_wp2_with (first | (go_at_call 89;refine (HK2.out X3 HD1_0.out.rd).mono ?_;rintro e w2 ⟨x,rfl,rfl,hr2,hk2⟩;have HC:=Lib.hid (HD1_0.out.call hr2 hk2);have y0:=blk_cell (v:=(.int .i64 0)) HC.out.blk 0 rfl;have f0:=blk_free HC.out.blk 0;have y1:=blk_cell (v:=(.string ⟨#[]⟩)) HC.out.blk 1 rfl;have f1:=blk_free HC.out.blk 1;have y2:=blk_cell (v:=(.slice none 0 0)) HC.out.blk 2 rfl;have f2:=blk_free HC.out.blk 2;have y3:=blk_cell (v:=(.int .i64 0)) HC.out.blk 3 rfl;have f3:=blk_free HC.out.blk 3))
     clear y0 y1 y2 y3 f0 f1 f2 f3
     have z0:=blk_cell (v:=(.int .i64 0)) HC.out.blk 0 rfl
     have z1:=blk_cell (v:=(.string ⟨#[]⟩)) HC.out.blk 1 rfl
     have z2:=blk_cell (v:=(.slice none 0 0)) HC.out.blk 2 rfl
     have z3:=blk_cell (v:=(.int .i64 0)) HC.out.blk 3 rfl
     have g0:=blk_free HC.out.blk 0
     have g1:=blk_free HC.out.blk 1
     have g2:=blk_free HC.out.blk 2
     have g3:=blk_free HC.out.blk 3
     have hE0:Bx w _ V p q w.heap.size 102 #[(.int .i64 0),(.string ⟨#[]⟩),(.slice none 0 0),(.int .i64 0)]:=HC.out.set 0 (.int .i64 0)
     have hE1:Bx w _ V p q w.heap.size 102 #[(.int .i64 0),(.string ⟨#[]⟩),(.slice none 0 0),(.int .i64 0)]:=hE0.set 1 (.string ⟨#[]⟩)
     have hE2:Bx w _ V p q w.heap.size 102 #[(.int .i64 0),(.string ⟨#[]⟩),(.slice none 0 0),(.int .i64 0)]:=hE1.set 2 (.slice none 0 0)
     have hE:Bx w _ V p q w.heap.size 102 #[(.int .i64 0),(.string ⟨#[]⟩),(.slice none 0 0),(.int .i64 (wrap64 (sg*m)))]:=hE2.set 3 (.int .i64 (wrap64 (sg*m)))
     refine bodyPost_ret (results_cell_row rfl _ _ w.heap.size 102 #[(.int .i64 0),(.string ⟨#[]⟩),(.slice none 0 0),(.int .i64 (wrap64 (sg*m)))] (0,0) _ rfl hE.blk Tryz.underlying102 rfl rfl) rfl ?_
     rw [HF2.out]
     exact ⟨_,rfl,⟨_,rfl,k102_mkM _ _ _ (⟨0,⟨#[]⟩,[],wrap64 (sg*m)⟩:S102) (Kd.R_nil _ _ _ _ _)⟩,hE.rd,hE.keep⟩
   ·cases hs7:(s.t.toList==[42])
    ·rw [hT,hs6,hs7] at hF0
     simp only [Bool.true_and,Bool.false_and,Bool.and_false,Bool.true_or,if_true,Bool.false_eq_true,if_false] at hF0
     clear hk hlt
     have HF0:=Lib.hid hF0
     have HA0:=Lib.hid (Bx.new h h (Keep.refl _ _) 102 #[(.int .i64 0),(.string ⟨#[]⟩),(.slice none 0 0),(.int .i64 0)])
     have HT:=Lib.hid h.t
     clear hF0 h ht hs hT hTn
     go_enter Tryz.func128,Tryz.ntmps128
     go_upto_region 1 with (fail)
     obtain ⟨X0,hX0⟩:∃ X0,w.alloc (Obj.cells #[(.int .i64 0),(.string ⟨#[]⟩),(.slice none 0 0),(.int .i64 0)] 102)=X0:=⟨_,rfl⟩
     try rw [hX0]
     rw [hX0] at HA0
     clear hX0
     go_upto_region 2 with (first | (go_at_call 39;refine (HN.out X0 HA0.out.rd).mono ?_;rintro e w1 ⟨rfl,hb1⟩;have HA1:=Lib.hid (HA0.out.call (HA0.out.rd.below hb1) (Keep.of_below hb1));clear hb1))
     go_upto_region 3 with (fail)
     have HA2:=Lib.hid (HA1.out.alloc (Obj.cells #[(.int .i64 sg),(.string ⟨#[]⟩),(.slice none 0 0),(.int .i64 0)] 102))
     have HB2:=Lib.hid (Bx.new HA0.out.h0 HA1.out.rd HA1.out.keep 102 #[(.int .i64 sg),(.string ⟨#[]⟩),(.slice none 0 0),(.int .i64 0)])
     have HNB0:=World.block_lt_of_cell? _ _ (blk_cell (v:=(.int .i64 0)) HA1.out.blk 0 rfl)
     obtain ⟨B,hB⟩:∃ B,w1.heap.size=B:=⟨_,rfl⟩
     have HNB:=Lib.hid (show w.heap.size≠B by rw [← hB];simp only at HNB0;omega)
     obtain ⟨X2,hX⟩:∃ X,w1.alloc (Obj.cells #[(.int .i64 sg),(.string ⟨#[]⟩),(.slice none 0 0),(.int .i64 0)] 102)=X:=⟨_,rfl⟩
     rw [hX] at HA2
     rw [hX,hB] at HB2
     try rw [hX,hB]
     clear hX hB HNB0 HA1 HA0 HN
     have hl:=HB2.out.rd.l
     have hp:=HB2.out.rd.pos
     obtain ⟨a2,ha2,_,t0,t1,t2⟩:=HB2.out.rd.t (p+1) HLT.out
     rw [ha2] at hl
     rw [HX.out] at t0 t1 t2
     have y1:(p:Int)+1<(V.T.length:Int):=by have:=HLT.out;omega
     have y1n:p+1<V.T.length:=HLT.out
     have y2:(0:Int)≤(p:Int)+1:=by omega
     have d1:decide ((p:Int)+1<(V.T.length:Int))=true:=decide_eq_true y1
     have d1n:decide (p+1<V.T.length)=true:=decide_eq_true y1n
     clear ha2
     go_quiet (fail)
     clear hl hp t0 t1 t2 y1 y1n y2 d1 d1n
     obtain ⟨X3,hX3⟩:∃ X,X2.drewN nq=X:=⟨_,rfl⟩
     have hr2:=HB2.out.rd.below (below_drewN (Below.refl _ X2) nq)
     have hk2:=Keep.of_below (F:=ours V) (below_drewN (Below.refl _ X2) nq)
     rw [hX3] at hr2 hk2
     try rw [hX3]
     clear hX3
     have HD3_0:=Lib.hid (show Bx w X3 V p p w.heap.size 102 #[(.int .i64 0),(.string ⟨#[]⟩),(.slice none 0 0),(.int .i64 0)] from HA2.out.call hr2 hk2)
     have HD3_1:=Lib.hid (show Bx w X3 V p p B 102 #[(.int .i64 sg),(.string ⟨#[]⟩),(.slice none 0 0),(.int .i64 0)] from HB2.out.call hr2 hk2)
     clear HA2 HB2
     clear hr2 hk2
     have HK4:=Lib.hid (fun w1 h1=>money_calls V p w1 h1)
     have hF4:=HF0.out
     generalize hr4:V.money p=r4 at hF4 HK4
     cases r4 with
     | bad er a =>
      dsimp only [Res.bnd] at hF4
      have HF4:=Lib.hid hF4
      clear hF4 HF0 hr4
      go_wp2_with (first | (go_at_call 89;refine (HK4.out X3 HD3_0.out.rd).mono ?_;rintro e w2 ⟨rfl,hk2⟩))
      refine ⟨rfl,?_⟩
      rw [HF4.out]
      exact ⟨rfl,HD3_0.out.keep.trans hk2 (fun _ _ h=>h)⟩
     | ok m q =>
      dsimp only [Res.bnd] at hF4
      have HF4:=Lib.hid hF4
      clear hF4 HF0 hr4
      go_wp2_with (first | (go_at_call 89;refine (HK4.out X3 HD3_0.out.rd).mono ?_;rintro e w2 ⟨x,rfl,rfl,hr2,hk2⟩;have HC:=Lib.hid (HD3_0.out.call hr2 hk2);have y0:=blk_cell (v:=(.int .i64 0)) HC.out.blk 0 rfl;have f0:=blk_free HC.out.blk 0;have y1:=blk_cell (v:=(.string ⟨#[]⟩)) HC.out.blk 1 rfl;have f1:=blk_free HC.out.blk 1;have y2:=blk_cell (v:=(.slice none 0 0)) HC.out.blk 2 rfl;have f2:=blk_free HC.out.blk 2;have y3:=blk_cell (v:=(.int .i64 0)) HC.out.blk 3 rfl;have f3:=blk_free HC.out.blk 3))
      clear y0 y1 y2 y3 f0 f1 f2 f3
      have z0:=blk_cell (v:=(.int .i64 0)) HC.out.blk 0 rfl
      have z1:=blk_cell (v:=(.string ⟨#[]⟩)) HC.out.blk 1 rfl
      have z2:=blk_cell (v:=(.slice none 0 0)) HC.out.blk 2 rfl
      have z3:=blk_cell (v:=(.int .i64 0)) HC.out.blk 3 rfl
      have g0:=blk_free HC.out.blk 0
      have g1:=blk_free HC.out.blk 1
      have g2:=blk_free HC.out.blk 2
      have g3:=blk_free HC.out.blk 3
      have hE0:Bx w _ V p q w.heap.size 102 #[(.int .i64 0),(.string ⟨#[]⟩),(.slice none 0 0),(.int .i64 0)]:=HC.out.set 0 (.int .i64 0)
      have hE1:Bx w _ V p q w.heap.size 102 #[(.int .i64 0),(.string ⟨#[]⟩),(.slice none 0 0),(.int .i64 0)]:=hE0.set 1 (.string ⟨#[]⟩)
      have hE2:Bx w _ V p q w.heap.size 102 #[(.int .i64 0),(.string ⟨#[]⟩),(.slice none 0 0),(.int .i64 0)]:=hE1.set 2 (.slice none 0 0)
      have hE:Bx w _ V p q w.heap.size 102 #[(.int .i64 0),(.string ⟨#[]⟩),(.slice none 0 0),(.int .i64 (wrap64 (sg*m)))]:=hE2.set 3 (.int .i64 (wrap64 (sg*m)))
      refine bodyPost_ret (results_cell_row rfl _ _ w.heap.size 102 #[(.int .i64 0),(.string ⟨#[]⟩),(.slice none 0 0),(.int .i64 (wrap64 (sg*m)))] (0,0) _ rfl hE.blk Tryz.underlying102 rfl rfl) rfl ?_
      rw [HF4.out]
      exact ⟨_,rfl,⟨_,rfl,k102_mkM _ _ _ (⟨0,⟨#[]⟩,[],wrap64 (sg*m)⟩:S102) (Kd.R_nil _ _ _ _ _)⟩,hE.rd,hE.keep⟩
    ·rw [hT,hs6,hs7] at hF0
     simp only [Bool.true_and,Bool.and_true,Bool.and_self,Bool.false_and,Bool.and_false,Bool.true_or,if_true,Bool.false_eq_true,if_false] at hF0
     clear hk hlt
     have HF0:=Lib.hid hF0
     have HA0:=Lib.hid (Bx.new h h (Keep.refl _ _) 102 #[(.int .i64 0),(.string ⟨#[]⟩),(.slice none 0 0),(.int .i64 0)])
     have HT:=Lib.hid h.t
     clear hF0 h ht hs hT hTn
     go_enter Tryz.func128,Tryz.ntmps128
     go_upto_region 1 with (fail)
     obtain ⟨X0,hX0⟩:∃ X0,w.alloc (Obj.cells #[(.int .i64 0),(.string ⟨#[]⟩),(.slice none 0 0),(.int .i64 0)] 102)=X0:=⟨_,rfl⟩
     try rw [hX0]
     rw [hX0] at HA0
     clear hX0
     go_upto_region 2 with (first | (go_at_call 39;refine (HN.out X0 HA0.out.rd).mono ?_;rintro e w1 ⟨rfl,hb1⟩;have HA1:=Lib.hid (HA0.out.call (HA0.out.rd.below hb1) (Keep.of_below hb1));clear hb1))
     go_upto_region 3 with (fail)
     have HA2:=Lib.hid (HA1.out.alloc (Obj.cells #[(.int .i64 sg),(.string ⟨#[]⟩),(.slice none 0 0),(.int .i64 0)] 102))
     have HB2:=Lib.hid (Bx.new HA0.out.h0 HA1.out.rd HA1.out.keep 102 #[(.int .i64 sg),(.string ⟨#[]⟩),(.slice none 0 0),(.int .i64 0)])
     have HNB0:=World.block_lt_of_cell? _ _ (blk_cell (v:=(.int .i64 0)) HA1.out.blk 0 rfl)
     obtain ⟨B,hB⟩:∃ B,w1.heap.size=B:=⟨_,rfl⟩
     have HNB:=Lib.hid (show w.heap.size≠B by rw [← hB];simp only at HNB0;omega)
     obtain ⟨X2,hX⟩:∃ X,w1.alloc (Obj.cells #[(.int .i64 sg),(.string ⟨#[]⟩),(.slice none 0 0),(.int .i64 0)] 102)=X:=⟨_,rfl⟩
     rw [hX] at HA2
     rw [hX,hB] at HB2
     try rw [hX,hB]
     clear hX hB HNB0 HA1 HA0 HN
     have hl:=HB2.out.rd.l
     have hp:=HB2.out.rd.pos
     obtain ⟨a2,ha2,_,t0,t1,t2⟩:=HB2.out.rd.t (p+1) HLT.out
     rw [ha2] at hl
     rw [HX.out] at t0 t1 t2
     have y1:(p:Int)+1<(V.T.length:Int):=by have:=HLT.out;omega
     have y1n:p+1<V.T.length:=HLT.out
     have y2:(0:Int)≤(p:Int)+1:=by omega
     have d1:decide ((p:Int)+1<(V.T.length:Int))=true:=decide_eq_true y1
     have d1n:decide (p+1<V.T.length)=true:=decide_eq_true y1n
     clear ha2
     go_quiet (fail)
     clear hl hp t0 t1 t2 y1 y1n y2 d1 d1n
     obtain ⟨X3,hX3⟩:∃ X,X2.drewN nq=X:=⟨_,rfl⟩
     have hr2:=HB2.out.rd.below (below_drewN (Below.refl _ X2) nq)
     have hk2:=Keep.of_below (F:=ours V) (below_drewN (Below.refl _ X2) nq)
     rw [hX3] at hr2 hk2
     try rw [hX3]
     clear hX3
     have HD5_0:=Lib.hid (show Bx w X3 V p p w.heap.size 102 #[(.int .i64 0),(.string ⟨#[]⟩),(.slice none 0 0),(.int .i64 0)] from HA2.out.call hr2 hk2)
     have HD5_1:=Lib.hid (show Bx w X3 V p p B 102 #[(.int .i64 sg),(.string ⟨#[]⟩),(.slice none 0 0),(.int .i64 0)] from HB2.out.call hr2 hk2)
     clear HA2 HB2
     clear hr2 hk2
     go_upto_region 5 with (fail)
     have hy0:=blk_cell (v:=(.int .i64 sg)) HD5_1.out.blk 0 rfl
     have HKC:=Lib.hid (fun w9 (k9:Keep (ours V) X3 w9)=>(blk_cell (v:=(.int .i64 sg)) (k9.blk HD5_1.out.blk (fun e=>by unfold ours at e;exact HD5_1.out.inc e)) 0 rfl))
     have HK6:=Lib.hid (fun w1 h1=>whole_calls V 1 1000 (by decide) (by decide) (by decide) p w1 h1)
     have hF6:=HF0.out
     generalize hr6:V.whole 1 1000 p=r6 at hF6 HK6
     have HF6:=Lib.hid hF6
     clear hF6 HF0
     go_region_with (first | (go_at_call 59;refine (HK6.out X3.drew (HD5_0.out.rd.below (Below.refl _ X3).drew)).mono ?_;rintro e w2 hp2;(cases r6 with | bad er a=>(obtain ⟨rfl,hk2⟩:=hp2;refine ⟨rfl,?_⟩;rw [HF6.out];exact ⟨rfl,(HD5_0.out.keep.trans (Keep.of_below (F:=ours V) (Below.refl _ X3).drew) (fun _ _ h=>h)).trans hk2 (fun _ _ h=>h)⟩) | ok c q=>?_);obtain ⟨x,rfl,rfl,hr2,hk2⟩:=hp2;replace hk2:=(Keep.of_below (F:=ours V) (Below.refl _ X3).drew).trans hk2 (fun _ _ h=>h);have HC6_0:=Lib.hid (HD5_0.out.call hr2 hk2);have HC6_1:=Lib.hid (HD5_1.out.call hr2 hk2);have y0:=blk_cell (v:=(.int .i64 sg)) HC6_1.out.blk 0 rfl;have f0:=blk_free HC6_1.out.blk 0))
     all_goals
      have hF6:=HF6.out
      dsimp only [Res.bnd] at hF6
      clear HF6
      have HF6:=Lib.hid hF6
      go_upto_region 6 with (fail)
      rw [show IntKind.i64.wrap (sg*c)=wrap64 (sg*c) from by unfold wrap64;exact IntKind.wrap_i64 _]
      clear hF6
      clear y0 f0
      have HD6_0:=Lib.hid (show Bx w (w2.setCell ⟨B,0,none⟩ (.int .i64 (wrap64 (sg*c)))) V p q w.heap.size 102 #[(.int .i64 0),(.string ⟨#[]⟩),(.slice none 0 0),(.int .i64 0)] from HC6_0.out.far HC6_1.out.ge (by have:=HNB.out;omega) 0 (.int .i64 (wrap64 (sg*c))))
      have HD6_1:=Lib.hid (show Bx w (w2.setCell ⟨B,0,none⟩ (.int .i64 (wrap64 (sg*c)))) V p q B 102 #[(.int .i64 (wrap64 (sg*c))),(.string ⟨#[]⟩),(.slice none 0 0),(.int .i64 0)] from HC6_1.out.set 0 (.int .i64 (wrap64 (sg*c))))
      clear hr2 hk2 HK6 HD5_0 HD5_1 HC6_0 HC6_1 
      generalize (w2.setCell ⟨B,0,none⟩ (.int .i64 (wrap64 (sg*c))))=X6 at *
      have HLQ:=Lib.hid (show q<V.T.length by have h1:=HWQ.out _ _ hr6;have h2:=HLT.out;omega)
      clear hr6 hy0 HKC
      have HT7:=Lib.hid (show q<V.T.length from HLQ.out)
      have hp7:=HD6_0.out.rd.pos
      have hf7:=HD6_0.out.rd.f
      have wz7:IntKind.i64.wrap ((q:Nat)+1:Int)=((q+1:Nat):Int):=by have h1:=HD6_0.out.rd.n;have h2:=HT7.out;rw [IntWalk.i64_in _ (by omega)];omega
      go_upto_region 9 with (fail)
      have hs7:=HD6_0.out.rd.step (q+1) HT7.out
      have hk7:Keep (ours V) X6 (X6.setCell ⟨V.rb,1,none⟩ (.int .i64 ((q+1:Nat):Int))):=Keep.setCell (F:=ours V) (Keep.refl _ _) (p:=⟨V.rb,1,none⟩) (fun _=>rfl) _
      clear hp7 hf7 wz7
      obtain ⟨X7,hX7⟩:∃ X,X6.setCell ⟨V.rb,1,none⟩ (.int .i64 ((q+1:Nat):Int))=X:=⟨_,rfl⟩
      rw [hX7] at hs7 hk7
      have hX7b:X6.setCell ⟨V.rb,1,none⟩ (.int .i64 ((q:Int)+1))=X7:=hX7
      try rw [hX7]
      try rw [hX7b]
      clear hX7 hX7b
      have HD8_0:=Lib.hid (show Bx w X7 V p (q+1) w.heap.size 102 #[(.int .i64 0),(.string ⟨#[]⟩),(.slice none 0 0),(.int .i64 0)] from HD6_0.out.call hs7 hk7)
      have HD8_1:=Lib.hid (show Bx w X7 V p (q+1) B 102 #[(.int .i64 (wrap64 (sg*c))),(.string ⟨#[]⟩),(.slice none 0 0),(.int .i64 0)] from HD6_1.out.call hs7 hk7)
      clear HD6_0 HD6_1
      clear hs7 hk7
      have HK9:=Lib.hid (fun w1 h1=>name_calls V (q+1) w1 h1)
      have hF9:=HF6.out
      generalize hr9:V.name (q+1)=r9 at hF9 HK9
      cases r9 with
      | bad er a =>
       dsimp only [Res.bnd] at hF9
       have HF9:=Lib.hid hF9
       clear hF9 HF6 hr9
       go_wp2_with (first | (go_at_call 56;refine (HK9.out X7 HD8_0.out.rd).mono ?_;rintro e w2 ⟨rfl,hk2⟩))
       refine ⟨rfl,?_⟩
       rw [HF9.out]
       exact ⟨rfl,HD8_0.out.keep.trans hk2 (fun _ _ h=>h)⟩
      | ok n q2 =>
       dsimp only [Res.bnd] at hF9
       have HF9:=Lib.hid hF9
       clear hF9 HF6 hr9
       go_upto_region 10 with (first | (go_at_call 56;refine (HK9.out X7 HD8_0.out.rd).mono ?_;rintro e w2 ⟨x,rfl,rfl,hr2,hk2⟩;have HC9_0:=Lib.hid (HD8_0.out.call hr2 hk2);have HC9_1:=Lib.hid (HD8_1.out.call hr2 hk2);have y1:=blk_cell (v:=(.string ⟨#[]⟩)) HC9_1.out.blk 1 rfl;have f1:=blk_free HC9_1.out.blk 1))
       clear y1 f1
       have HD9_0:=Lib.hid (show Bx w (w2.setCell ⟨B,1,none⟩ (.string n)) V p q2 w.heap.size 102 #[(.int .i64 0),(.string ⟨#[]⟩),(.slice none 0 0),(.int .i64 0)] from HC9_0.out.far HC9_1.out.ge (by have:=HNB.out;omega) 1 (.string n))
       have HD9_1:=Lib.hid (show Bx w (w2.setCell ⟨B,1,none⟩ (.string n)) V p q2 B 102 #[(.int .i64 (wrap64 (sg*c))),(.string n),(.slice none 0 0),(.int .i64 0)] from HC9_1.out.set 1 (.string n))
       clear hr2 hk2 HK9 HD8_0 HD8_1 HC9_0 HC9_1 
       generalize (w2.setCell ⟨B,1,none⟩ (.string n))=X9 at *
       have HK10:=Lib.hid (fun w1 h1=>brackets_calls V V.arg 113 arg_enters (arg_calls V) q2 w1 h1)
       have hF10:=HF9.out
       generalize hr10:V.brackets V.arg q2=r10 at hF10 HK10
       cases r10 with
       | bad er a =>
        dsimp only [Res.bnd] at hF10
        have HF10:=Lib.hid hF10
        clear hF10 HF9 hr10
        go_wp2_with (first | (go_at_call 87;refine (HK10.out X9 HD9_0.out.rd).mono ?_;rintro e w2 ⟨rfl,hk2⟩))
        refine ⟨rfl,?_⟩
        rw [HF10.out]
        exact ⟨rfl,HD9_0.out.keep.trans hk2 (fun _ _ h=>h)⟩
       | ok l q3 =>
        dsimp only [Res.bnd] at hF10
        have HF10:=Lib.hid hF10
        clear hF10 HF9 hr10
        go_upto_region 11 with (first | (go_at_call 87;refine (HK10.out X9 HD9_0.out.rd).mono ?_;rintro e w2 ⟨x,rfl,hx,hr2,hk2⟩;have HC10_0:=Lib.hid (HD9_0.out.call hr2 hk2);have HC10_1:=Lib.hid (HD9_1.out.call hr2 hk2);obtain ⟨A10,c10,rfl⟩:=Kd.R_slice hx;have y2:=blk_cell (v:=(.slice none 0 0)) HC10_1.out.blk 2 rfl;have f2:=blk_free HC10_1.out.blk 2))
        clear y2 f2
        obtain ⟨s10,hs10⟩:∃ s,X9.heap.size=s:=⟨_,rfl⟩
        rw [hs10] at hx
        have HS10:=Lib.hid (show w.heap.size<s10∧B<s10∧V.rb<s10 by
         have h0:=World.block_lt_of_cell? _ _ (blk_cell (v:=(.int .i64 0)) HD9_0.out.blk 0 rfl)
         have h1:=World.block_lt_of_cell? _ _ (blk_cell (v:=(.int .i64 (wrap64 (sg*c)))) HD9_1.out.blk 0 rfl)
         have h9:=World.block_lt_of_cell? _ _ HD9_0.out.rd.pos
         simp only at h0 h1 h9;omega)
        clear hs10
        have HXn10:=Lib.hid (show Kd.R Kd.string 9 (w2.setCell ⟨B,2,none⟩ (.slice A10 l.length c10)) s10 (fun k=>s10≤k) (.slice A10 l.length c10) l from (Kd.R_far hx (p:=⟨B,2,none⟩) (fun k hk=>by have:=HS10.out;simp only;omega) (.slice A10 l.length c10)))
        clear hx
        have HD10_0:=Lib.hid (show Bx w (w2.setCell ⟨B,2,none⟩ (.slice A10 l.length c10)) V p q3 w.heap.size 102 #[(.int .i64 0),(.string ⟨#[]⟩),(.slice none 0 0),(.int .i64 0)] from HC10_0.out.far HC10_1.out.ge (by have:=HNB.out;omega) 2 (.slice A10 l.length c10))
        have HD10_1:=Lib.hid (show Bx w (w2.setCell ⟨B,2,none⟩ (.slice A10 l.length c10)) V p q3 B 102 #[(.int .i64 (wrap64 (sg*c))),(.string n),(.slice A10 l.length c10),(.int .i64 0)] from HC10_1.out.set 2 (.slice A10 l.length c10))
        clear hr2 hk2 HK10 HD9_0 HD9_1 HC10_0 HC10_1 
        have HX10:=HXn10
        clear HXn10
        generalize (w2.setCell ⟨B,2,none⟩ (.slice A10 l.length c10))=X10 at *
        have y0:=blk_cell (v:=(.int .i64 (wrap64 (sg*c)))) HD10_1.out.blk 0 rfl
        have y1:=blk_cell (v:=(.string n)) HD10_1.out.blk 1 rfl
        have y2:=blk_cell (v:=(.slice A10 l.length c10)) HD10_1.out.blk 2 rfl
        have y3:=blk_cell (v:=(.int .i64 0)) HD10_1.out.blk 3 rfl
        have z0:=blk_cell (v:=(.int .i64 0)) HD10_0.out.blk 0 rfl
        have z1:=blk_cell (v:=(.string ⟨#[]⟩)) HD10_0.out.blk 1 rfl
        have z2:=blk_cell (v:=(.slice none 0 0)) HD10_0.out.blk 2 rfl
        have z3:=blk_cell (v:=(.int .i64 0)) HD10_0.out.blk 3 rfl
        have g0:=blk_free HD10_0.out.blk 0
        have g1:=blk_free HD10_0.out.blk 1
        have g2:=blk_free HD10_0.out.blk 2
        have g3:=blk_free HD10_0.out.blk 3
        go_wp2_with fail
        have hE0:Bx w _ V p q3 w.heap.size 102 #[(.int .i64 (wrap64 (sg*c))),(.string ⟨#[]⟩),(.slice none 0 0),(.int .i64 0)]:=HD10_0.out.set 0 (.int .i64 (wrap64 (sg*c)))
        have hE1:Bx w _ V p q3 w.heap.size 102 #[(.int .i64 (wrap64 (sg*c))),(.string n),(.slice none 0 0),(.int .i64 0)]:=hE0.set 1 (.string n)
        have hE2:Bx w _ V p q3 w.heap.size 102 #[(.int .i64 (wrap64 (sg*c))),(.string n),(.slice A10 l.length c10),(.int .i64 0)]:=hE1.set 2 (.slice A10 l.length c10)
        have hE:Bx w _ V p q3 w.heap.size 102 #[(.int .i64 (wrap64 (sg*c))),(.string n),(.slice A10 l.length c10),(.int .i64 0)]:=hE2.set 3 (.int .i64 0)
        refine bodyPost_ret (results_cell_row rfl _ _ w.heap.size 102 #[(.int .i64 (wrap64 (sg*c))),(.string n),(.slice A10 l.length c10),(.int .i64 0)] (0,0) _ rfl hE.blk Tryz.underlying102 rfl rfl) rfl ?_
        rw [HF10.out]
        have hy10:Kd.R Kd.string 9 _ s10 (fun k=>s10≤k) (.slice A10 l.length c10) l:=(Kd.R_far (Kd.R_far (Kd.R_far (Kd.R_far HX10.out (p:=⟨w.heap.size,0,none⟩) (fun k hk=>by have:=HS10.out;simp only;omega) (.int .i64 (wrap64 (sg*c)))) (p:=⟨w.heap.size,1,none⟩) (fun k hk=>by have:=HS10.out;simp only;omega) (.string n)) (p:=⟨w.heap.size,2,none⟩) (fun k hk=>by have:=HS10.out;simp only;omega) (.slice A10 l.length c10)) (p:=⟨w.heap.size,3,none⟩) (fun k hk=>by have:=HS10.out;simp only;omega) (.int .i64 0))
        have hz10:=Kd.R_lower (Kd.R_mono hy10 (ok':=fun k=>w.heap.size≤k) (fun k hk=>by have:=HS10.out;omega)) (base':=w.heap.size) (by have:=HS10.out;omega)
        exact ⟨_,rfl,⟨_,rfl,k102_mkM _ _ _ (⟨wrap64 (sg*c),n,l,0⟩:S102) hz10⟩,hE.rd,hE.keep⟩
  ·have HLT:=Lib.hid hlt
   rw [hTn hlt] at hF0
   simp only [Bool.true_and,Bool.false_and,Bool.and_false,Bool.true_or,if_true,Bool.false_eq_true,if_false] at hF0
   clear hk hlt
   have HF0:=Lib.hid hF0
   have HA0:=Lib.hid (Bx.new h h (Keep.refl _ _) 102 #[(.int .i64 0),(.string ⟨#[]⟩),(.slice none 0 0),(.int .i64 0)])
   have HT:=Lib.hid h.t
   clear hF0 h ht hs hT hTn
   go_enter Tryz.func128,Tryz.ntmps128
   go_upto_region 1 with (fail)
   obtain ⟨X0,hX0⟩:∃ X0,w.alloc (Obj.cells #[(.int .i64 0),(.string ⟨#[]⟩),(.slice none 0 0),(.int .i64 0)] 102)=X0:=⟨_,rfl⟩
   try rw [hX0]
   rw [hX0] at HA0
   clear hX0
   go_upto_region 2 with (first | (go_at_call 39;refine (HN.out X0 HA0.out.rd).mono ?_;rintro e w1 ⟨rfl,hb1⟩;have HA1:=Lib.hid (HA0.out.call (HA0.out.rd.below hb1) (Keep.of_below hb1));clear hb1))
   go_upto_region 3 with (fail)
   have HA2:=Lib.hid (HA1.out.alloc (Obj.cells #[(.int .i64 sg),(.string ⟨#[]⟩),(.slice none 0 0),(.int .i64 0)] 102))
   have HB2:=Lib.hid (Bx.new HA0.out.h0 HA1.out.rd HA1.out.keep 102 #[(.int .i64 sg),(.string ⟨#[]⟩),(.slice none 0 0),(.int .i64 0)])
   have HNB0:=World.block_lt_of_cell? _ _ (blk_cell (v:=(.int .i64 0)) HA1.out.blk 0 rfl)
   obtain ⟨B,hB⟩:∃ B,w1.heap.size=B:=⟨_,rfl⟩
   have HNB:=Lib.hid (show w.heap.size≠B by rw [← hB];simp only at HNB0;omega)
   obtain ⟨X2,hX⟩:∃ X,w1.alloc (Obj.cells #[(.int .i64 sg),(.string ⟨#[]⟩),(.slice none 0 0),(.int .i64 0)] 102)=X:=⟨_,rfl⟩
   rw [hX] at HA2
   rw [hX,hB] at HB2
   try rw [hX,hB]
   clear hX hB HNB0 HA1 HA0 HN
   have hl:=HB2.out.rd.l
   have hp:=HB2.out.rd.pos
   have d1:decide ((p:Int)+1<(V.T.length:Int))=false:=decide_eq_false (by have:=HLT.out;omega)
   have d1n:decide (p+1<V.T.length)=false:=decide_eq_false (by have:=HLT.out;omega)
   go_quiet (fail)
   clear hl hp d1 d1n
   obtain ⟨X3,hX3⟩:∃ X,X2.drewN nq=X:=⟨_,rfl⟩
   have hr2:=HB2.out.rd.below (below_drewN (Below.refl _ X2) nq)
   have hk2:=Keep.of_below (F:=ours V) (below_drewN (Below.refl _ X2) nq)
   rw [hX3] at hr2 hk2
   try rw [hX3]
   clear hX3
   have HD11_0:=Lib.hid (show Bx w X3 V p p w.heap.size 102 #[(.int .i64 0),(.string ⟨#[]⟩),(.slice none 0 0),(.int .i64 0)] from HA2.out.call hr2 hk2)
   have HD11_1:=Lib.hid (show Bx w X3 V p p B 102 #[(.int .i64 sg),(.string ⟨#[]⟩),(.slice none 0 0),(.int .i64 0)] from HB2.out.call hr2 hk2)
   clear HA2 HB2
   clear hr2 hk2
   have HK12:=Lib.hid (fun w1 h1=>money_calls V p w1 h1)
   have hF12:=HF0.out
   generalize hr12:V.money p=r12 at hF12 HK12
   cases r12 with
   | bad er a =>
    dsimp only [Res.bnd] at hF12
    have HF12:=Lib.hid hF12
    clear hF12 HF0 hr12
    go_wp2_with (first | (go_at_call 89;refine (HK12.out X3 HD11_0.out.rd).mono ?_;rintro e w2 ⟨rfl,hk2⟩))
    refine ⟨rfl,?_⟩
    rw [HF12.out]
    exact ⟨rfl,HD11_0.out.keep.trans hk2 (fun _ _ h=>h)⟩
   | ok m q =>
    dsimp only [Res.bnd] at hF12
    have HF12:=Lib.hid hF12
    clear hF12 HF0 hr12
    go_wp2_with (first | (go_at_call 89;refine (HK12.out X3 HD11_0.out.rd).mono ?_;rintro e w2 ⟨x,rfl,rfl,hr2,hk2⟩;have HC:=Lib.hid (HD11_0.out.call hr2 hk2);have y0:=blk_cell (v:=(.int .i64 0)) HC.out.blk 0 rfl;have f0:=blk_free HC.out.blk 0;have y1:=blk_cell (v:=(.string ⟨#[]⟩)) HC.out.blk 1 rfl;have f1:=blk_free HC.out.blk 1;have y2:=blk_cell (v:=(.slice none 0 0)) HC.out.blk 2 rfl;have f2:=blk_free HC.out.blk 2;have y3:=blk_cell (v:=(.int .i64 0)) HC.out.blk 3 rfl;have f3:=blk_free HC.out.blk 3))
    clear y0 y1 y2 y3 f0 f1 f2 f3
    have z0:=blk_cell (v:=(.int .i64 0)) HC.out.blk 0 rfl
    have z1:=blk_cell (v:=(.string ⟨#[]⟩)) HC.out.blk 1 rfl
    have z2:=blk_cell (v:=(.slice none 0 0)) HC.out.blk 2 rfl
    have z3:=blk_cell (v:=(.int .i64 0)) HC.out.blk 3 rfl
    have g0:=blk_free HC.out.blk 0
    have g1:=blk_free HC.out.blk 1
    have g2:=blk_free HC.out.blk 2
    have g3:=blk_free HC.out.blk 3
    have hE0:Bx w _ V p q w.heap.size 102 #[(.int .i64 0),(.string ⟨#[]⟩),(.slice none 0 0),(.int .i64 0)]:=HC.out.set 0 (.int .i64 0)
    have hE1:Bx w _ V p q w.heap.size 102 #[(.int .i64 0),(.string ⟨#[]⟩),(.slice none 0 0),(.int .i64 0)]:=hE0.set 1 (.string ⟨#[]⟩)
    have hE2:Bx w _ V p q w.heap.size 102 #[(.int .i64 0),(.string ⟨#[]⟩),(.slice none 0 0),(.int .i64 0)]:=hE1.set 2 (.slice none 0 0)
    have hE:Bx w _ V p q w.heap.size 102 #[(.int .i64 0),(.string ⟨#[]⟩),(.slice none 0 0),(.int .i64 (wrap64 (sg*m)))]:=hE2.set 3 (.int .i64 (wrap64 (sg*m)))
    refine bodyPost_ret (results_cell_row rfl _ _ w.heap.size 102 #[(.int .i64 0),(.string ⟨#[]⟩),(.slice none 0 0),(.int .i64 (wrap64 (sg*m)))] (0,0) _ rfl hE.blk Tryz.underlying102 rfl rfl) rfl ?_
    rw [HF12.out]
    exact ⟨_,rfl,⟨_,rfl,k102_mkM _ _ _ (⟨0,⟨#[]⟩,[],wrap64 (sg*m)⟩:S102) (Kd.R_nil _ _ _ _ _)⟩,hE.rd,hE.keep⟩
 ·have e1:(t.k==3)=false:=by simpa using hk
  rw [e1] at hF0
  simp only [Bool.true_and,Bool.false_and,Bool.and_false,Bool.false_or,if_true,Bool.false_eq_true,if_false] at hF0
  have HM:=Lib.hid (fun w1 (h1:Rd w1 V p)=>mark_calls V p ⟨#[45]⟩ w1 h1)
  cases hb:V.isT 6 ⟨#[45]⟩ p
  ·rw [hb] at hF0 HM
   simp only [if_true,Bool.false_eq_true,if_false] at hF0
   clear hk hb
   have HF0:=Lib.hid hF0
   have HA0:=Lib.hid (Bx.new h h (Keep.refl _ _) 102 #[(.int .i64 0),(.string ⟨#[]⟩),(.slice none 0 0),(.int .i64 0)])
   have HT:=Lib.hid h.t
   clear hF0 h ht hs hT hTn
   go_enter Tryz.func128,Tryz.ntmps128
   go_upto_region 1 with (fail)
   obtain ⟨X0,hX0⟩:∃ X0,w.alloc (Obj.cells #[(.int .i64 0),(.string ⟨#[]⟩),(.slice none 0 0),(.int .i64 0)] 102)=X0:=⟨_,rfl⟩
   try rw [hX0]
   rw [hX0] at HA0
   clear hX0
   go_upto_region 2 with (first | (go_at_call 39;refine (HN.out X0 HA0.out.rd).mono ?_;rintro e w1 ⟨rfl,hb1⟩;have HA1:=Lib.hid (HA0.out.call (HA0.out.rd.below hb1) (Keep.of_below hb1));clear hb1))
   go_upto_region 3 with (fail)
   have HA2:=Lib.hid (HA1.out.alloc (Obj.cells #[(.int .i64 sg),(.string ⟨#[]⟩),(.slice none 0 0),(.int .i64 0)] 102))
   have HB2:=Lib.hid (Bx.new HA0.out.h0 HA1.out.rd HA1.out.keep 102 #[(.int .i64 sg),(.string ⟨#[]⟩),(.slice none 0 0),(.int .i64 0)])
   have HNB0:=World.block_lt_of_cell? _ _ (blk_cell (v:=(.int .i64 0)) HA1.out.blk 0 rfl)
   obtain ⟨B,hB⟩:∃ B,w1.heap.size=B:=⟨_,rfl⟩
   have HNB:=Lib.hid (show w.heap.size≠B by rw [← hB];simp only at HNB0;omega)
   obtain ⟨X2,hX⟩:∃ X,w1.alloc (Obj.cells #[(.int .i64 sg),(.string ⟨#[]⟩),(.slice none 0 0),(.int .i64 0)] 102)=X:=⟨_,rfl⟩
   rw [hX] at HA2
   rw [hX,hB] at HB2
   try rw [hX,hB]
   clear hX hB HNB0 HA1 HA0 HN
   go_quiet (fail)
   obtain ⟨X3,hX3⟩:∃ X,X2.drewN nq=X:=⟨_,rfl⟩
   have hr2:=HB2.out.rd.below (below_drewN (Below.refl _ X2) nq)
   have hk2:=Keep.of_below (F:=ours V) (below_drewN (Below.refl _ X2) nq)
   rw [hX3] at hr2 hk2
   try rw [hX3]
   clear hX3
   have HD13_0:=Lib.hid (show Bx w X3 V p p w.heap.size 102 #[(.int .i64 0),(.string ⟨#[]⟩),(.slice none 0 0),(.int .i64 0)] from HA2.out.call hr2 hk2)
   have HD13_1:=Lib.hid (show Bx w X3 V p p B 102 #[(.int .i64 sg),(.string ⟨#[]⟩),(.slice none 0 0),(.int .i64 0)] from HB2.out.call hr2 hk2)
   clear HA2 HB2
   clear hr2 hk2
   go_upto_region 9 with (first | (go_at_call 109;refine (HM.out X3 HD13_0.out.rd).mono ?_;rintro e X8 ⟨rfl,hb8⟩;have hr8:=HD13_0.out.rd.below hb8;have hk8:=Keep.of_below (F:=ours V) hb8;clear hb8))
   have HD14_0:=Lib.hid (show Bx w X8 V p p w.heap.size 102 #[(.int .i64 0),(.string ⟨#[]⟩),(.slice none 0 0),(.int .i64 0)] from HD13_0.out.call hr8 hk8)
   have HD14_1:=Lib.hid (show Bx w X8 V p p B 102 #[(.int .i64 sg),(.string ⟨#[]⟩),(.slice none 0 0),(.int .i64 0)] from HD13_1.out.call hr8 hk8)
   clear HD13_0 HD13_1
   clear hr8 hk8
   have HK15:=Lib.hid (fun w1 h1=>name_calls V p w1 h1)
   have hF15:=HF0.out
   generalize hr15:V.name p=r15 at hF15 HK15
   cases r15 with
   | bad er a =>
    dsimp only [Res.bnd] at hF15
    have HF15:=Lib.hid hF15
    clear hF15 HF0 hr15
    go_wp2_with (first | (go_at_call 56;refine (HK15.out X8 HD14_0.out.rd).mono ?_;rintro e w2 ⟨rfl,hk2⟩))
    refine ⟨rfl,?_⟩
    rw [HF15.out]
    exact ⟨rfl,HD14_0.out.keep.trans hk2 (fun _ _ h=>h)⟩
   | ok n q2 =>
    dsimp only [Res.bnd] at hF15
    have HF15:=Lib.hid hF15
    clear hF15 HF0 hr15
    go_upto_region 10 with (first | (go_at_call 56;refine (HK15.out X8 HD14_0.out.rd).mono ?_;rintro e w2 ⟨x,rfl,rfl,hr2,hk2⟩;have HC15_0:=Lib.hid (HD14_0.out.call hr2 hk2);have HC15_1:=Lib.hid (HD14_1.out.call hr2 hk2);have y1:=blk_cell (v:=(.string ⟨#[]⟩)) HC15_1.out.blk 1 rfl;have f1:=blk_free HC15_1.out.blk 1))
    clear y1 f1
    have HD15_0:=Lib.hid (show Bx w (w2.setCell ⟨B,1,none⟩ (.string n)) V p q2 w.heap.size 102 #[(.int .i64 0),(.string ⟨#[]⟩),(.slice none 0 0),(.int .i64 0)] from HC15_0.out.far HC15_1.out.ge (by have:=HNB.out;omega) 1 (.string n))
    have HD15_1:=Lib.hid (show Bx w (w2.setCell ⟨B,1,none⟩ (.string n)) V p q2 B 102 #[(.int .i64 sg),(.string n),(.slice none 0 0),(.int .i64 0)] from HC15_1.out.set 1 (.string n))
    clear hr2 hk2 HK15 HD14_0 HD14_1 HC15_0 HC15_1 
    generalize (w2.setCell ⟨B,1,none⟩ (.string n))=X15 at *
    have HK16:=Lib.hid (fun w1 h1=>brackets_calls V V.arg 113 arg_enters (arg_calls V) q2 w1 h1)
    have hF16:=HF15.out
    generalize hr16:V.brackets V.arg q2=r16 at hF16 HK16
    cases r16 with
    | bad er a =>
     dsimp only [Res.bnd] at hF16
     have HF16:=Lib.hid hF16
     clear hF16 HF15 hr16
     go_wp2_with (first | (go_at_call 87;refine (HK16.out X15 HD15_0.out.rd).mono ?_;rintro e w2 ⟨rfl,hk2⟩))
     refine ⟨rfl,?_⟩
     rw [HF16.out]
     exact ⟨rfl,HD15_0.out.keep.trans hk2 (fun _ _ h=>h)⟩
    | ok l q3 =>
     dsimp only [Res.bnd] at hF16
     have HF16:=Lib.hid hF16
     clear hF16 HF15 hr16
     go_upto_region 11 with (first | (go_at_call 87;refine (HK16.out X15 HD15_0.out.rd).mono ?_;rintro e w2 ⟨x,rfl,hx,hr2,hk2⟩;have HC16_0:=Lib.hid (HD15_0.out.call hr2 hk2);have HC16_1:=Lib.hid (HD15_1.out.call hr2 hk2);obtain ⟨A16,c16,rfl⟩:=Kd.R_slice hx;have y2:=blk_cell (v:=(.slice none 0 0)) HC16_1.out.blk 2 rfl;have f2:=blk_free HC16_1.out.blk 2))
     clear y2 f2
     obtain ⟨s16,hs16⟩:∃ s,X15.heap.size=s:=⟨_,rfl⟩
     rw [hs16] at hx
     have HS16:=Lib.hid (show w.heap.size<s16∧B<s16∧V.rb<s16 by
      have h0:=World.block_lt_of_cell? _ _ (blk_cell (v:=(.int .i64 0)) HD15_0.out.blk 0 rfl)
      have h1:=World.block_lt_of_cell? _ _ (blk_cell (v:=(.int .i64 sg)) HD15_1.out.blk 0 rfl)
      have h9:=World.block_lt_of_cell? _ _ HD15_0.out.rd.pos
      simp only at h0 h1 h9;omega)
     clear hs16
     have HXn16:=Lib.hid (show Kd.R Kd.string 9 (w2.setCell ⟨B,2,none⟩ (.slice A16 l.length c16)) s16 (fun k=>s16≤k) (.slice A16 l.length c16) l from (Kd.R_far hx (p:=⟨B,2,none⟩) (fun k hk=>by have:=HS16.out;simp only;omega) (.slice A16 l.length c16)))
     clear hx
     have HD16_0:=Lib.hid (show Bx w (w2.setCell ⟨B,2,none⟩ (.slice A16 l.length c16)) V p q3 w.heap.size 102 #[(.int .i64 0),(.string ⟨#[]⟩),(.slice none 0 0),(.int .i64 0)] from HC16_0.out.far HC16_1.out.ge (by have:=HNB.out;omega) 2 (.slice A16 l.length c16))
     have HD16_1:=Lib.hid (show Bx w (w2.setCell ⟨B,2,none⟩ (.slice A16 l.length c16)) V p q3 B 102 #[(.int .i64 sg),(.string n),(.slice A16 l.length c16),(.int .i64 0)] from HC16_1.out.set 2 (.slice A16 l.length c16))
     clear hr2 hk2 HK16 HD15_0 HD15_1 HC16_0 HC16_1 
     have HX16:=HXn16
     clear HXn16
     generalize (w2.setCell ⟨B,2,none⟩ (.slice A16 l.length c16))=X16 at *
     have y0:=blk_cell (v:=(.int .i64 sg)) HD16_1.out.blk 0 rfl
     have y1:=blk_cell (v:=(.string n)) HD16_1.out.blk 1 rfl
     have y2:=blk_cell (v:=(.slice A16 l.length c16)) HD16_1.out.blk 2 rfl
     have y3:=blk_cell (v:=(.int .i64 0)) HD16_1.out.blk 3 rfl
     have z0:=blk_cell (v:=(.int .i64 0)) HD16_0.out.blk 0 rfl
     have z1:=blk_cell (v:=(.string ⟨#[]⟩)) HD16_0.out.blk 1 rfl
     have z2:=blk_cell (v:=(.slice none 0 0)) HD16_0.out.blk 2 rfl
     have z3:=blk_cell (v:=(.int .i64 0)) HD16_0.out.blk 3 rfl
     have g0:=blk_free HD16_0.out.blk 0
     have g1:=blk_free HD16_0.out.blk 1
     have g2:=blk_free HD16_0.out.blk 2
     have g3:=blk_free HD16_0.out.blk 3
     go_wp2_with fail
     have hE0:Bx w _ V p q3 w.heap.size 102 #[(.int .i64 sg),(.string ⟨#[]⟩),(.slice none 0 0),(.int .i64 0)]:=HD16_0.out.set 0 (.int .i64 sg)
     have hE1:Bx w _ V p q3 w.heap.size 102 #[(.int .i64 sg),(.string n),(.slice none 0 0),(.int .i64 0)]:=hE0.set 1 (.string n)
     have hE2:Bx w _ V p q3 w.heap.size 102 #[(.int .i64 sg),(.string n),(.slice A16 l.length c16),(.int .i64 0)]:=hE1.set 2 (.slice A16 l.length c16)
     have hE:Bx w _ V p q3 w.heap.size 102 #[(.int .i64 sg),(.string n),(.slice A16 l.length c16),(.int .i64 0)]:=hE2.set 3 (.int .i64 0)
     refine bodyPost_ret (results_cell_row rfl _ _ w.heap.size 102 #[(.int .i64 sg),(.string n),(.slice A16 l.length c16),(.int .i64 0)] (0,0) _ rfl hE.blk Tryz.underlying102 rfl rfl) rfl ?_
     rw [HF16.out]
     have hy16:Kd.R Kd.string 9 _ s16 (fun k=>s16≤k) (.slice A16 l.length c16) l:=(Kd.R_far (Kd.R_far (Kd.R_far (Kd.R_far HX16.out (p:=⟨w.heap.size,0,none⟩) (fun k hk=>by have:=HS16.out;simp only;omega) (.int .i64 sg)) (p:=⟨w.heap.size,1,none⟩) (fun k hk=>by have:=HS16.out;simp only;omega) (.string n)) (p:=⟨w.heap.size,2,none⟩) (fun k hk=>by have:=HS16.out;simp only;omega) (.slice A16 l.length c16)) (p:=⟨w.heap.size,3,none⟩) (fun k hk=>by have:=HS16.out;simp only;omega) (.int .i64 0))
     have hz16:=Kd.R_lower (Kd.R_mono hy16 (ok':=fun k=>w.heap.size≤k) (fun k hk=>by have:=HS16.out;omega)) (base':=w.heap.size) (by have:=HS16.out;omega)
     exact ⟨_,rfl,⟨_,rfl,k102_mkM _ _ _ (⟨sg,n,l,0⟩:S102) hz16⟩,hE.rd,hE.keep⟩
  ·rw [hb] at hF0 HM
   simp only [if_true,Bool.false_eq_true,if_false] at hF0
   clear hk hb
   have HF0:=Lib.hid hF0
   have HA0:=Lib.hid (Bx.new h h (Keep.refl _ _) 102 #[(.int .i64 0),(.string ⟨#[]⟩),(.slice none 0 0),(.int .i64 0)])
   have HT:=Lib.hid h.t
   clear hF0 h ht hs hT hTn
   go_enter Tryz.func128,Tryz.ntmps128
   go_upto_region 1 with (fail)
   obtain ⟨X0,hX0⟩:∃ X0,w.alloc (Obj.cells #[(.int .i64 0),(.string ⟨#[]⟩),(.slice none 0 0),(.int .i64 0)] 102)=X0:=⟨_,rfl⟩
   try rw [hX0]
   rw [hX0] at HA0
   clear hX0
   go_upto_region 2 with (first | (go_at_call 39;refine (HN.out X0 HA0.out.rd).mono ?_;rintro e w1 ⟨rfl,hb1⟩;have HA1:=Lib.hid (HA0.out.call (HA0.out.rd.below hb1) (Keep.of_below hb1));clear hb1))
   go_upto_region 3 with (fail)
   have HA2:=Lib.hid (HA1.out.alloc (Obj.cells #[(.int .i64 sg),(.string ⟨#[]⟩),(.slice none 0 0),(.int .i64 0)] 102))
   have HB2:=Lib.hid (Bx.new HA0.out.h0 HA1.out.rd HA1.out.keep 102 #[(.int .i64 sg),(.string ⟨#[]⟩),(.slice none 0 0),(.int .i64 0)])
   have HNB0:=World.block_lt_of_cell? _ _ (blk_cell (v:=(.int .i64 0)) HA1.out.blk 0 rfl)
   obtain ⟨B,hB⟩:∃ B,w1.heap.size=B:=⟨_,rfl⟩
   have HNB:=Lib.hid (show w.heap.size≠B by rw [← hB];simp only at HNB0;omega)
   obtain ⟨X2,hX⟩:∃ X,w1.alloc (Obj.cells #[(.int .i64 sg),(.string ⟨#[]⟩),(.slice none 0 0),(.int .i64 0)] 102)=X:=⟨_,rfl⟩
   rw [hX] at HA2
   rw [hX,hB] at HB2
   try rw [hX,hB]
   clear hX hB HNB0 HA1 HA0 HN
   go_quiet (fail)
   obtain ⟨X3,hX3⟩:∃ X,X2.drewN nq=X:=⟨_,rfl⟩
   have hr2:=HB2.out.rd.below (below_drewN (Below.refl _ X2) nq)
   have hk2:=Keep.of_below (F:=ours V) (below_drewN (Below.refl _ X2) nq)
   rw [hX3] at hr2 hk2
   try rw [hX3]
   clear hX3
   have HD17_0:=Lib.hid (show Bx w X3 V p p w.heap.size 102 #[(.int .i64 0),(.string ⟨#[]⟩),(.slice none 0 0),(.int .i64 0)] from HA2.out.call hr2 hk2)
   have HD17_1:=Lib.hid (show Bx w X3 V p p B 102 #[(.int .i64 sg),(.string ⟨#[]⟩),(.slice none 0 0),(.int .i64 0)] from HB2.out.call hr2 hk2)
   clear HA2 HB2
   clear hr2 hk2
   have HK18:=Lib.hid (fun w1 h1=>money_calls V p w1 h1)
   have hF18:=HF0.out
   generalize hr18:V.money p=r18 at hF18 HK18
   cases r18 with
   | bad er a =>
    dsimp only [Res.bnd] at hF18
    have HF18:=Lib.hid hF18
    clear hF18 HF0 hr18
    go_wp2_with (first | (go_at_call 109;refine (HM.out X3 HD17_0.out.rd).mono ?_;rintro e w8 ⟨rfl,hb8⟩;have hr8:=HD17_0.out.rd.below hb8;have HR8:=Lib.hid (HD17_0.out.call hr8 (Keep.of_below hb8))) | (go_at_call 89;refine (HK18.out w8 hr8).mono ?_;rintro e w2 ⟨rfl,hk2⟩))
    refine ⟨rfl,?_⟩
    rw [HF18.out]
    exact ⟨rfl,HR8.out.keep.trans hk2 (fun _ _ h=>h)⟩
   | ok m q =>
    dsimp only [Res.bnd] at hF18
    have HF18:=Lib.hid hF18
    clear hF18 HF0 hr18
    go_wp2_with (first | (go_at_call 109;refine (HM.out X3 HD17_0.out.rd).mono ?_;rintro e w8 ⟨rfl,hb8⟩;have hr8:=HD17_0.out.rd.below hb8;have HR8:=Lib.hid (HD17_0.out.call hr8 (Keep.of_below hb8))) | (go_at_call 89;refine (HK18.out w8 hr8).mono ?_;rintro e w2 ⟨x,rfl,rfl,hr2,hk2⟩;have HC:=Lib.hid (HR8.out.call hr2 hk2);have y0:=blk_cell (v:=(.int .i64 0)) HC.out.blk 0 rfl;have f0:=blk_free HC.out.blk 0;have y1:=blk_cell (v:=(.string ⟨#[]⟩)) HC.out.blk 1 rfl;have f1:=blk_free HC.out.blk 1;have y2:=blk_cell (v:=(.slice none 0 0)) HC.out.blk 2 rfl;have f2:=blk_free HC.out.blk 2;have y3:=blk_cell (v:=(.int .i64 0)) HC.out.blk 3 rfl;have f3:=blk_free HC.out.blk 3))
    clear y0 y1 y2 y3 f0 f1 f2 f3
    have z0:=blk_cell (v:=(.int .i64 0)) HC.out.blk 0 rfl
    have z1:=blk_cell (v:=(.string ⟨#[]⟩)) HC.out.blk 1 rfl
    have z2:=blk_cell (v:=(.slice none 0 0)) HC.out.blk 2 rfl
    have z3:=blk_cell (v:=(.int .i64 0)) HC.out.blk 3 rfl
    have g0:=blk_free HC.out.blk 0
    have g1:=blk_free HC.out.blk 1
    have g2:=blk_free HC.out.blk 2
    have g3:=blk_free HC.out.blk 3
    have hE0:Bx w _ V p q w.heap.size 102 #[(.int .i64 0),(.string ⟨#[]⟩),(.slice none 0 0),(.int .i64 0)]:=HC.out.set 0 (.int .i64 0)
    have hE1:Bx w _ V p q w.heap.size 102 #[(.int .i64 0),(.string ⟨#[]⟩),(.slice none 0 0),(.int .i64 0)]:=hE0.set 1 (.string ⟨#[]⟩)
    have hE2:Bx w _ V p q w.heap.size 102 #[(.int .i64 0),(.string ⟨#[]⟩),(.slice none 0 0),(.int .i64 0)]:=hE1.set 2 (.slice none 0 0)
    have hE:Bx w _ V p q w.heap.size 102 #[(.int .i64 0),(.string ⟨#[]⟩),(.slice none 0 0),(.int .i64 (wrap64 (sg*m)))]:=hE2.set 3 (.int .i64 (wrap64 (sg*m)))
    refine bodyPost_ret (results_cell_row rfl _ _ w.heap.size 102 #[(.int .i64 0),(.string ⟨#[]⟩),(.slice none 0 0),(.int .i64 (wrap64 (sg*m)))] (0,0) _ rfl hE.blk Tryz.underlying102 rfl rfl) rfl ?_
    rw [HF18.out]
    exact ⟨_,rfl,⟨_,rfl,k102_mkM _ _ _ (⟨0,⟨#[]⟩,[],wrap64 (sg*m)⟩:S102) (Kd.R_nil _ _ _ _ _)⟩,hE.rd,hE.keep⟩
theorem info_t:(Tryz.prog.info? 102).map (fun i=>(i.zero,i.size,i.bytes))=some (some (.agg #[.int .i64 0,.string ⟨#[]⟩,.slice none 0 0,.int .i64 0]),4,56):=by kernel_rfl
def Sx.termsR (base:Nat) (l:List S102) (x:Value) (w:World):Prop:=Kd.R k102 102 w base (fun k=>base≤k) x l
theorem Sx.termsR_keep {V:Env} {base:Nat} {l:List S102} {x:Value} {w w1:World} (h:termsR base l x w) (hb:V.rb<base) (k:Keep (ours V) w w1):termsR base l x w1 :=
 Kd.R_step h (fun i hi hlt=>k.block i hlt (fun e=>by unfold ours at e;omega))
theorem Sx.lit1 {α:Type} (d:Kd α) (e base:Nat) (W:World) (okp ok:Nat→Prop) (x:α) (cs:List Value) (h:d.M W base okp x cs) (hok:∀ k,okp k→ok k) (hf:ok W.heap.size) (hb:base≤W.heap.size) :
  d.R e (W.alloc (.cells cs.toArray e)) base ok (.slice (some ⟨W.heap.size,0,none⟩) 1 1) [x]:=by
 have hl:cs.length=d.sz:=d.K_len (d.K_of_M h)
 refine ⟨fun k hk=>?_,cs,?_,?_⟩
 ·have:W.heap.size=k:=by simpa [Value.ownBlock] using hk
  subst this
  exact hf
 ·have h2:=World.ownsRow_lit (base:=base) (e:=e) (size:=d.sz) W cs.toArray 1 hb (by decide) (by simpa using hl)
  simpa using h2
 ·have h3:Reps (d.M (W.alloc (.cells cs.toArray e)) base (fun k=>ok k∧some k≠(Value.slice (some ⟨W.heap.size,0,none⟩) 1 1).ownBlock)) d.sz [x] ([]++cs):=Reps.snoc (Reps.none _ _) (d.M_mono (fun k hk=>⟨hok k hk.1,fun he=>by
    have h3:k=W.heap.size:=by simpa [Value.ownBlock] using he
    have:=hk.2.2.1
    omega⟩) (Kd.M_below (d.M_bound h) (below_alloc (Below.refl _ _) _))) hl
  exact h3
theorem sum_calls (V:Env) (p:Nat) (w:World) (h:Rd w V p):Calls Tryz.prog 110 #[.pointer (some ⟨V.rb,0,none⟩)] w (Post V w (termsR w.heap.size) (V.sum p)):=by
 have HB:=Lib.hid (show V.rb<w.heap.size from World.block_lt_of_cell? w _ h.pos)
 have HR:=Lib.hid h
 obtain ⟨F,hFF⟩:∃ F,V.sum p=F:=⟨_,rfl⟩
 have hF:F=(V.term 1 p).bnd fun t q=>V.sumM 7 [t] q:=by rw [← hFF];rfl
 rw [hFF]
 have HK:=Lib.hid (term_calls V 1 p w h)
 generalize V.term 1 p=r0 at hF HK
 have HF:=Lib.hid hF
 clear hFF hF h
 go_enter Tryz.func110,Tryz.ntmps110
 cases r0 with
 | bad er a =>
  go_wp2_with (first | (go_at_call 128;refine HK.out.mono ?_;rintro e w2 ⟨rfl,hk2⟩))
  refine ⟨rfl,?_⟩
  rw [HF.out]
  exact ⟨rfl,hk2⟩
 | ok t q =>
  go_upto_region 2 with (first | (go_at_call 128;refine HK.out.mono ?_;rintro e w2 ⟨x,rfl,⟨cs,rfl,hM⟩,hr2,hk2⟩;obtain ⟨v2,rfl,g2⟩:=k102_openM hM;have HM2:=Lib.hid hM;clear hM g2))
  have HL1:=Lib.hid (Sx.lit1 k102 102 w.heap.size w2 (fun k=>w.heap.size≤k) (fun k=>w.heap.size≤k) t _ HM2.out (fun k hk=>hk) hk2.size hk2.size)
  have HR1:=Lib.hid (hr2.below ((Below.refl _ w2).alloc (Nat.le_refl _) (.cells [.int .i64 t.f0,.string t.f1,v2,.int .i64 t.f3].toArray 102)))
  have HK1:=Lib.hid (hk2.below ((Below.refl _ w2).alloc (Nat.le_refl _) (.cells [.int .i64 t.f0,.string t.f1,v2,.int .i64 t.f3].toArray 102)))
  have HF1:=Lib.hid (show F=V.sumM 7 [t] q from HF.out)
  clear hr2 hk2 HM2 HK HF
  go_loopw [3] (fun v wr=>∃ (out:List S102) (q:Nat),termsR w.heap.size out v wr∧Rd wr V q∧Keep (ours V) w wr∧1≤out.length∧out.length≤8∧F=V.sumM (8-out.length) out q) (fun v _=>8-lenOf v)
  case atStart=>exact ⟨[t],q,HL1.out,HR1.out,HK1.out,by simp,by simp,HF1.out⟩
  case round =>
   clear HL1 HR1 HK1 HF1
   obtain ⟨out,q,hs,hr,hk,hl1,hl,hf⟩:=hrel
   obtain ⟨A,c,rfl⟩:=Kd.R_slice hs
   have HS:=Lib.hid hs
   have HK:=Lib.hid hk
   have HQ:=Lib.hid hr
   obtain ⟨j,hj⟩:∃ j,8-out.length=j:=⟨_,rfl⟩
   rw [hj] at hf
   have HJ:=Lib.hid hj
   have HL:=Lib.hid (show 1≤out.length∧out.length≤8 from ⟨hl1,hl⟩)
   have HM1:=Lib.hid (fun w1 (h1:Rd w1 V q)=>mark_calls V q ⟨#[45]⟩ w1 h1)
   have HM2:=Lib.hid (fun w1 (h1:Rd w1 V q)=>mark_calls V q ⟨#[43]⟩ w1 h1)
   have HT1:=Lib.hid (Sx.isT_lt (V:=V) (k:=6) (s:=⟨#[45]⟩) (p:=q))
   have HT2:=Lib.hid (Sx.isT_lt (V:=V) (k:=6) (s:=⟨#[43]⟩) (p:=q))
   have hf2:(j=0→F=if V.isT 6 ⟨#[45]⟩ q||V.isT 6 ⟨#[43]⟩ q then V.stop 3 (q+1) else .ok out q)∧(∀ m,j=m+1→F=if V.isT 6 ⟨#[45]⟩ q then (V.term (-1) (q+1)).bnd fun t q=>V.sumM m (out++[t]) q
      else if V.isT 6 ⟨#[43]⟩ q then (V.term 1 (q+1)).bnd fun t q=>V.sumM m (out++[t]) q else .ok out q):=⟨fun e=>by rw [hf,e];rfl,fun m e=>by rw [hf,e];rfl⟩
   clear hf
   generalize V.isT 6 ⟨#[45]⟩ q=b1 at *
   generalize V.isT 6 ⟨#[43]⟩ q=b2 at *
   have HF:=Lib.hid hf2
   clear hs hr hk hl1 hl hj hf2
   cases b1
   ·cases b2
    ·have hF:=HF.out
     have HF2:=Lib.hid (show F=.ok out q by cases j with | zero=>exact hF.1 rfl | succ m=>exact hF.2 m rfl)
     clear hF HF
     go_wp2_with (first | (go_at_call 109;(with_reducible refine (HM1.out wr HQ.out).mono ?_);rintro e w1 ⟨rfl,hb1⟩;have hr1:=HQ.out.below hb1;skip) | (go_at_call 109;(with_reducible refine (HM2.out w1 hr1).mono ?_);rintro e w2 ⟨rfl,hb2⟩))
     go_ret
     rw [HF2.out]
     have hb:=below_next hb1 hb2
     exact ⟨_,rfl,Kd.R_below HS.out hb,HQ.out.below hb,HK.out.below hb⟩
    ·have HLT:=Lib.hid (HT2.out rfl (by decide))
     go_upto_region 7 with (first | (go_at_call 109;(with_reducible refine (HM1.out wr HQ.out).mono ?_);rintro e w1 ⟨rfl,hb1⟩;have hr1:=HQ.out.below hb1;skip) | (go_at_call 109;(with_reducible refine (HM2.out w1 hr1).mono ?_);rintro e X ⟨rfl,hb2⟩;have hbX:=below_next hb1 hb2;have hrX:=HQ.out.below hbX;have hkX:=HK.out.below hbX;clear hb1 hb2 hr1))
     have HQX:=Lib.hid hrX
     have HKX:=Lib.hid hkX
     have HSX:=Lib.hid (Kd.R_below HS.out hbX)
     clear hrX hkX hbX
     have hp:=HQX.out.pos
     have hfr:=HQX.out.f
     have wz:IntKind.i64.wrap ((q:Nat)+1:Int)=((q+1:Nat):Int):=by have h1:=HQX.out.n;have h2:=HLT.out;rw [IntWalk.i64_in _ (by omega)];omega
     go_upto_region 8 with (fail)
     have hY:=HQX.out.step (q+1) HLT.out
     have hkY:Keep (ours V) X (X.setCell ⟨V.rb,1,none⟩ (.int .i64 ((q+1:Nat):Int))):=Keep.setCell (F:=ours V) (Keep.refl _ _) (p:=⟨V.rb,1,none⟩) (fun _=>rfl) _
     clear hp hfr wz
     obtain ⟨Y,hYY⟩:∃ Y,X.setCell ⟨V.rb,1,none⟩ (.int .i64 ((q+1:Nat):Int))=Y:=⟨_,rfl⟩
     rw [hYY] at hY hkY
     have hYb:X.setCell ⟨V.rb,1,none⟩ (.int .i64 ((q:Int)+1))=Y:=hYY
     try rw [hYY]
     try rw [hYb]
     clear hYY hYb
     have HSY:=Lib.hid (termsR_keep HSX.out HB.out hkY)
     have HKY:=Lib.hid (HKX.out.trans hkY (fun _ _ h=>h))
     have HQY:=Lib.hid hY
     clear hY hkY HSX HKX HQX
     cases j with
     | zero =>
      have hF:=HF.out.1 rfl
      simp only [Bool.true_or,Bool.or_true,Bool.false_or,Bool.or_false,if_true,Bool.false_eq_true,if_false] at hF
      have HF2:=Lib.hid hF
      clear hF HF
      have HC:=Lib.hid (room_bad V (q+1) (out.length:Int) 8 Y HQY.out (by have:=HJ.out;omega))
      go_wp2_with (first | (go_at_call 55;refine HC.out.mono ?_;rintro e w2 ⟨rfl,hb⟩))
      refine ⟨rfl,?_⟩
      rw [HF2.out]
      exact ⟨rfl,HKY.out.trans hb (fun _ _ h=>h)⟩
     | succ j =>
      have hF:=HF.out.2 j rfl
      simp only [Bool.true_or,Bool.or_true,Bool.false_or,Bool.or_false,if_true,Bool.false_eq_true,if_false] at hF
      have HC:=Lib.hid (room_ok V (q+1) (out.length:Int) 8 Y (by have:=HJ.out;omega))
      have HT:=Lib.hid (term_calls V (1) (q+1) Y HQY.out)
      generalize V.term (1) (q+1)=r2 at hF HT
      have HF2:=Lib.hid hF
      clear hF HF
      cases r2 with
      | bad er a =>
       go_wp2_with (first | (go_at_call 55;refine HC.out.mono ?_;rintro e w8 ⟨rfl,rfl⟩) | (go_at_call 128;refine HT.out.mono ?_;rintro e w9 ⟨rfl,hk9⟩))
       refine ⟨rfl,?_⟩
       rw [HF2.out]
       exact ⟨rfl,HKY.out.trans hk9 (fun _ _ h=>h)⟩
      | ok t q2 =>
       go_wp2_with (first | (go_at_call 55;refine HC.out.mono ?_;rintro e w8 ⟨rfl,rfl⟩) | (go_at_call 128;refine HT.out.mono ?_;rintro e w9 ⟨x,rfl,⟨cs,rfl,hM⟩,hr9,hk9⟩;obtain ⟨v2,rfl,g2⟩:=k102_openM hM;have HMM:=Lib.hid hM;clear hM g2;have HS9:=Lib.hid (termsR_keep HSY.out HB.out hk9)) | (at_builtin;refine Kd.R_append k102 (w0:=w9) w.heap.size rfl (.tmp 27) (.tmp 31) 95 102 (.agg #[.int .i64 0,.string ⟨#[]⟩,.slice none 0 0,.int .i64 0]) 56 rfl Tryz.underlying95 info_t rfl (by decide) (by omega) (.slice A out.length c) out t [.int .i64 t.f0,.string t.f1,v2,.int .i64 t.f3] (fun k=>w.heap.size≤k) (fun k=>Y.heap.size≤k) rfl rfl (k102.M_lower HKY.out.size HMM.out) (fun k hk=>⟨Nat.le_trans HKY.out.size hk,fun e=>by have h1:=Kd.R_lt HSY.out k e.symm;omega⟩) (fun k hk=>Nat.le_trans (Nat.le_trans HKY.out.size hk9.size) hk) HS9.out (Below.mono (Below.refl _ _) (Nat.le_trans HKY.out.size hk9.size)) (Nat.le_trans HKY.out.size hk9.size) (by have h1:=HL.out;omega) ?_))
       intro v3 w3 hs3 hb3 hg3 hat3
       have HQ3:=Lib.hid (rd_over HR.out hr9 hb3)
       have HK3:=Lib.hid (keep_over (HKY.out.trans hk9 (fun _ _ h=>h)) hb3)
       have HS3:=Lib.hid hs3
       clear hr9 hk9 hs3 hb3 hg3 hat3
       obtain ⟨A3,c3,rfl⟩:=Kd.R_slice HS3.out
       go_wp2_with fail
       go_roundw
       case rel=>exact ⟨out++[t],q2,HS3.out,HQ3.out,HK3.out,by simp,by have:=HJ.out;simp;omega,by rw [HF2.out,show 8-(out++[t]).length=j by have:=HJ.out;simp;omega];rfl⟩
       case measure=>have:=HJ.out;have:=HL.out;simp [lenOf];omega
   ·have HLT:=Lib.hid (HT1.out rfl (by decide))
    go_upto_region 7 with (first | (go_at_call 109;(with_reducible refine (HM1.out wr HQ.out).mono ?_);rintro e X ⟨rfl,hb1⟩;have hr1:=HQ.out.below hb1;have hbX:=hb1;have hrX:=hr1;have hkX:=HK.out.below hb1;clear hb1 hr1))
    have HQX:=Lib.hid hrX
    have HKX:=Lib.hid hkX
    have HSX:=Lib.hid (Kd.R_below HS.out hbX)
    clear hrX hkX hbX
    have hp:=HQX.out.pos
    have hfr:=HQX.out.f
    have wz:IntKind.i64.wrap ((q:Nat)+1:Int)=((q+1:Nat):Int):=by have h1:=HQX.out.n;have h2:=HLT.out;rw [IntWalk.i64_in _ (by omega)];omega
    go_upto_region 8 with (fail)
    have hY:=HQX.out.step (q+1) HLT.out
    have hkY:Keep (ours V) X (X.setCell ⟨V.rb,1,none⟩ (.int .i64 ((q+1:Nat):Int))):=Keep.setCell (F:=ours V) (Keep.refl _ _) (p:=⟨V.rb,1,none⟩) (fun _=>rfl) _
    clear hp hfr wz
    obtain ⟨Y,hYY⟩:∃ Y,X.setCell ⟨V.rb,1,none⟩ (.int .i64 ((q+1:Nat):Int))=Y:=⟨_,rfl⟩
    rw [hYY] at hY hkY
    have hYb:X.setCell ⟨V.rb,1,none⟩ (.int .i64 ((q:Int)+1))=Y:=hYY
    try rw [hYY]
    try rw [hYb]
    clear hYY hYb
    have HSY:=Lib.hid (termsR_keep HSX.out HB.out hkY)
    have HKY:=Lib.hid (HKX.out.trans hkY (fun _ _ h=>h))
    have HQY:=Lib.hid hY
    clear hY hkY HSX HKX HQX
    cases j with
    | zero =>
     have hF:=HF.out.1 rfl
     simp only [Bool.true_or,Bool.or_true,Bool.false_or,Bool.or_false,if_true,Bool.false_eq_true,if_false] at hF
     have HF2:=Lib.hid hF
     clear hF HF
     have HC:=Lib.hid (room_bad V (q+1) (out.length:Int) 8 Y HQY.out (by have:=HJ.out;omega))
     go_wp2_with (first | (go_at_call 55;refine HC.out.mono ?_;rintro e w2 ⟨rfl,hb⟩))
     refine ⟨rfl,?_⟩
     rw [HF2.out]
     exact ⟨rfl,HKY.out.trans hb (fun _ _ h=>h)⟩
    | succ j =>
     have hF:=HF.out.2 j rfl
     simp only [Bool.true_or,Bool.or_true,Bool.false_or,Bool.or_false,if_true,Bool.false_eq_true,if_false] at hF
     have HC:=Lib.hid (room_ok V (q+1) (out.length:Int) 8 Y (by have:=HJ.out;omega))
     have HT:=Lib.hid (term_calls V (-1) (q+1) Y HQY.out)
     generalize V.term (-1) (q+1)=r2 at hF HT
     have HF2:=Lib.hid hF
     clear hF HF
     cases r2 with
     | bad er a =>
      go_wp2_with (first | (go_at_call 55;refine HC.out.mono ?_;rintro e w8 ⟨rfl,rfl⟩) | (go_at_call 128;refine HT.out.mono ?_;rintro e w9 ⟨rfl,hk9⟩))
      refine ⟨rfl,?_⟩
      rw [HF2.out]
      exact ⟨rfl,HKY.out.trans hk9 (fun _ _ h=>h)⟩
     | ok t q2 =>
      go_wp2_with (first | (go_at_call 55;refine HC.out.mono ?_;rintro e w8 ⟨rfl,rfl⟩) | (go_at_call 128;refine HT.out.mono ?_;rintro e w9 ⟨x,rfl,⟨cs,rfl,hM⟩,hr9,hk9⟩;obtain ⟨v2,rfl,g2⟩:=k102_openM hM;have HMM:=Lib.hid hM;clear hM g2;have HS9:=Lib.hid (termsR_keep HSY.out HB.out hk9)) | (at_builtin;refine Kd.R_append k102 (w0:=w9) w.heap.size rfl (.tmp 27) (.tmp 31) 95 102 (.agg #[.int .i64 0,.string ⟨#[]⟩,.slice none 0 0,.int .i64 0]) 56 rfl Tryz.underlying95 info_t rfl (by decide) (by omega) (.slice A out.length c) out t [.int .i64 t.f0,.string t.f1,v2,.int .i64 t.f3] (fun k=>w.heap.size≤k) (fun k=>Y.heap.size≤k) rfl rfl (k102.M_lower HKY.out.size HMM.out) (fun k hk=>⟨Nat.le_trans HKY.out.size hk,fun e=>by have h1:=Kd.R_lt HSY.out k e.symm;omega⟩) (fun k hk=>Nat.le_trans (Nat.le_trans HKY.out.size hk9.size) hk) HS9.out (Below.mono (Below.refl _ _) (Nat.le_trans HKY.out.size hk9.size)) (Nat.le_trans HKY.out.size hk9.size) (by have h1:=HL.out;omega) ?_))
      intro v3 w3 hs3 hb3 hg3 hat3
      have HQ3:=Lib.hid (rd_over HR.out hr9 hb3)
      have HK3:=Lib.hid (keep_over (HKY.out.trans hk9 (fun _ _ h=>h)) hb3)
      have HS3:=Lib.hid hs3
      clear hr9 hk9 hs3 hb3 hg3 hat3
      obtain ⟨A3,c3,rfl⟩:=Kd.R_slice HS3.out
      go_wp2_with fail
      go_roundw
      case rel=>exact ⟨out++[t],q2,HS3.out,HQ3.out,HK3.out,by simp,by have:=HJ.out;simp;omega,by rw [HF2.out,show 8-(out++[t]).length=j by have:=HJ.out;simp;omega];rfl⟩
      case measure=>have:=HJ.out;have:=HL.out;simp [lenOf];omega
end Go.Proofs.YtcakgennlliejaaGreatDoor
