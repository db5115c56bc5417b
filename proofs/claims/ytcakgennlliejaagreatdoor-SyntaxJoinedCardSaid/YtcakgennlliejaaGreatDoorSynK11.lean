import Derived.Deep.RegionLaw
import Derived.Deep.RegionHeldLaw
import Derived.Test.YtcakgennlliejaaGreatDoorSynK8
import Derived.Test.YtcakgennlliejaaGreatDoorSynK10
set_option maxHeartbeats 8000000
set_option maxRecDepth 100000
namespace Go.Proofs.YtcakgennlliejaaGreatDoor
open Go.Shelf Go.RowKit Go.Lib
open Go.Proofs.YtcakgennlliejaaGreatDoorW.PrintWords
open Go.Proofs.YtcakgennlliejaaGreatDoor.PSyntaxJoined
open Sx
set_option linter.unusedVariables false
set_option linter.unusedSimpArgs false
theorem premise_calls (V:Env) (p:Nat) (w:World) (h:Rd w V p):Calls Tryz.prog 94 #[.pointer (some ⟨V.rb,0,none⟩)] w (Post V w (aggR k100 w.heap.size) (V.premise p)):=by
 have hmf:∀ (fn:Fn) (first cap:Array Value) (w:World),(Instr.makeFunc fn first cap).run Tryz.prog w=.ok (.func fn first cap) w:=fun _ _ _ _=>rfl
 have hF0:V.premise p=V.premise p:=rfl
 conv at hF0=>rhs;unfold Env.premise
 have HF0:=Lib.hid hF0
 have HA0:=Lib.hid (Bx.new h h (Keep.refl _ _) 100 #[(.int .i64 0),(.bool false),(.string ⟨#[]⟩),(.slice none 0 0),(.bool false),(.int .i64 0),(.slice none 0 0),(.int .i64 0),(.slice none 0 0),(.string ⟨#[]⟩),(.string ⟨#[]⟩)])
 clear h hF0
 go_enter Tryz.func94,Tryz.ntmps94
 go_upto_region 1 with (fail)
 obtain ⟨X0,hX0⟩:∃ X0,w.alloc (Obj.cells #[(.int .i64 0),(.bool false),(.string ⟨#[]⟩),(.slice none 0 0),(.bool false),(.int .i64 0),(.slice none 0 0),(.int .i64 0),(.slice none 0 0),(.string ⟨#[]⟩),(.string ⟨#[]⟩)] 100)=X0:=⟨_,rfl⟩
 try rw [hX0]
 rw [hX0] at HA0
 clear hX0
 have HK1:=Lib.hid (fun w1 h1=>skip_calls V p 6 ⟨#[123]⟩ w1 h1 (by decide))
 have hF1:=HF0.out
 generalize hr1:V.isT 6 ⟨#[123]⟩ p=b1 at hF1 HK1
 clear HF0
 cases b1
 ·simp only [if_true,Bool.false_eq_true,if_false] at hF1
  try dsimp only [Res.bnd] at hF1
  have HF1:=Lib.hid hF1
  clear hF1 hr1
  go_upto_region 7 with (first | (go_at_call 38;refine (HK1.out X0 HA0.out.rd).mono ?_;rintro e X1 ⟨rfl,hr2,hk2⟩))
  simp only [if_true,Bool.false_eq_true,if_false] at hr2
  have HD2_0:=Lib.hid (show Bx w X1 V p p w.heap.size 100 #[(.int .i64 0),(.bool false),(.string ⟨#[]⟩),(.slice none 0 0),(.bool false),(.int .i64 0),(.slice none 0 0),(.int .i64 0),(.slice none 0 0),(.string ⟨#[]⟩),(.string ⟨#[]⟩)] from HA0.out.call hr2 hk2)
  clear HA0
  clear hr2 hk2 HK1
  have HU:=Lib.hid (unlike_calls V p X1 HD2_0.out.rd)
  have hF3:=HF1.out
  generalize V.unlike p=bu at hF3 HU
  clear HF1
  cases bu
  ·simp only [if_true,Bool.false_eq_true,if_false] at hF3
   have HF3:=Lib.hid hF3
   clear hF3
   go_upto_region 12 with (first | (go_at_call 112;refine HU.out.mono ?_;rintro e X3 ⟨rfl,hb2⟩;have hr2:=HD2_0.out.rd.below hb2;have hk2:=Keep.of_below (F:=ours V) hb2;clear hb2))
   have HD4_0:=Lib.hid (show Bx w X3 V p p w.heap.size 100 #[(.int .i64 0),(.bool false),(.string ⟨#[]⟩),(.slice none 0 0),(.bool false),(.int .i64 0),(.slice none 0 0),(.int .i64 0),(.slice none 0 0),(.string ⟨#[]⟩),(.string ⟨#[]⟩)] from HD2_0.out.call hr2 hk2)
   clear HD2_0
   clear hr2 hk2 HU
   have HK5:=Lib.hid (fun w1 h1=>literal_calls V p w1 h1)
   have hF5:=HF3.out
   generalize V.literal p=r5 at hF5 HK5
   cases r5 with
   | bad er a =>
    dsimp only [Res.bnd] at hF5
    have HF5:=Lib.hid hF5
    clear hF5 HF3
    go_wp2_with (first | (go_at_call 95;refine (HK5.out X3 HD4_0.out.rd).mono ?_;rintro e w2 ⟨rfl,hk2⟩))
    refine ⟨rfl,?_⟩
    rw [HF5.out]
    exact ⟨rfl,HD4_0.out.keep.trans hk2 (fun _ _ h=>h)⟩
   | ok h q =>
    dsimp only [Res.bnd] at hF5
    have HF5:=Lib.hid hF5
    clear hF5 HF3
    obtain ⟨s5,hs5⟩:∃ s,X3.heap.size=s:=⟨_,rfl⟩
    have HS5:=Lib.hid (show w.heap.size<s5∧V.rb<s5 by
     rw [← hs5]
     have h0:=World.block_lt_of_cell? _ _ (blk_cell (v:=(.int .i64 0)) HD4_0.out.blk 0 rfl)
     have h9:=World.block_lt_of_cell? _ _ HD4_0.out.rd.pos
     simp only at h0 h9;omega)
    go_wp2_with (first | (go_at_call 95;refine (HK5.out X3 HD4_0.out.rd).mono ?_;rintro e w2 ⟨x,rfl,⟨cs,rfl,hM⟩,hr2,hk2⟩;rw [hs5] at hM;have HC:=Lib.hid (HD4_0.out.call hr2 hk2);obtain ⟨vl,rfl,hx⟩:=k91_openM hM;clear hM;obtain ⟨A5,c5,rfl⟩:=Kd.R_slice hx;have y0:=blk_cell (v:=(.int .i64 0)) HC.out.blk 0 rfl;have f0:=blk_free HC.out.blk 0;have y1:=blk_cell (v:=(.bool false)) HC.out.blk 1 rfl;have f1:=blk_free HC.out.blk 1;have y2:=blk_cell (v:=(.string ⟨#[]⟩)) HC.out.blk 2 rfl;have f2:=blk_free HC.out.blk 2;have y3:=blk_cell (v:=(.slice none 0 0)) HC.out.blk 3 rfl;have f3:=blk_free HC.out.blk 3;have y4:=blk_cell (v:=(.bool false)) HC.out.blk 4 rfl;have f4:=blk_free HC.out.blk 4;have y5:=blk_cell (v:=(.int .i64 0)) HC.out.blk 5 rfl;have f5:=blk_free HC.out.blk 5;have y6:=blk_cell (v:=(.slice none 0 0)) HC.out.blk 6 rfl;have f6:=blk_free HC.out.blk 6;have y7:=blk_cell (v:=(.int .i64 0)) HC.out.blk 7 rfl;have f7:=blk_free HC.out.blk 7;have y8:=blk_cell (v:=(.slice none 0 0)) HC.out.blk 8 rfl;have f8:=blk_free HC.out.blk 8;have y9:=blk_cell (v:=(.string ⟨#[]⟩)) HC.out.blk 9 rfl;have f9:=blk_free HC.out.blk 9;have y10:=blk_cell (v:=(.string ⟨#[]⟩)) HC.out.blk 10 rfl;have f10:=blk_free HC.out.blk 10))
    have HX5:=Lib.hid (show Kd.R Kd.string 9 w2 s5 (fun k=>s5≤k) (.slice A5 h.f2.length c5) h.f2 from hx)
    clear y0 f0 y1 f1 y2 f2 y3 f3 y4 f4 y5 f5 y6 f6 y7 f7 y8 f8 y9 f9 y10 f10 hx
    have z0:=blk_cell (v:=(.int .i64 0)) HC.out.blk 0 rfl
    have z1:=blk_cell (v:=(.bool false)) HC.out.blk 1 rfl
    have z2:=blk_cell (v:=(.string ⟨#[]⟩)) HC.out.blk 2 rfl
    have z3:=blk_cell (v:=(.slice none 0 0)) HC.out.blk 3 rfl
    have z4:=blk_cell (v:=(.bool false)) HC.out.blk 4 rfl
    have z5:=blk_cell (v:=(.int .i64 0)) HC.out.blk 5 rfl
    have z6:=blk_cell (v:=(.slice none 0 0)) HC.out.blk 6 rfl
    have z7:=blk_cell (v:=(.int .i64 0)) HC.out.blk 7 rfl
    have z8:=blk_cell (v:=(.slice none 0 0)) HC.out.blk 8 rfl
    have z9:=blk_cell (v:=(.string ⟨#[]⟩)) HC.out.blk 9 rfl
    have z10:=blk_cell (v:=(.string ⟨#[]⟩)) HC.out.blk 10 rfl
    have g0:=blk_free HC.out.blk 0
    have g1:=blk_free HC.out.blk 1
    have g2:=blk_free HC.out.blk 2
    have g3:=blk_free HC.out.blk 3
    have g4:=blk_free HC.out.blk 4
    have g5:=blk_free HC.out.blk 5
    have g6:=blk_free HC.out.blk 6
    have g7:=blk_free HC.out.blk 7
    have g8:=blk_free HC.out.blk 8
    have g9:=blk_free HC.out.blk 9
    have g10:=blk_free HC.out.blk 10
    have hE0:Bx w _ V p q w.heap.size 100 #[(.int .i64 1),(.bool false),(.string ⟨#[]⟩),(.slice none 0 0),(.bool false),(.int .i64 0),(.slice none 0 0),(.int .i64 0),(.slice none 0 0),(.string ⟨#[]⟩),(.string ⟨#[]⟩)]:=HC.out.set 0 (.int .i64 1)
    have hE1:Bx w _ V p q w.heap.size 100 #[(.int .i64 1),(.bool h.f0),(.string ⟨#[]⟩),(.slice none 0 0),(.bool false),(.int .i64 0),(.slice none 0 0),(.int .i64 0),(.slice none 0 0),(.string ⟨#[]⟩),(.string ⟨#[]⟩)]:=hE0.set 1 (.bool h.f0)
    have hE2:Bx w _ V p q w.heap.size 100 #[(.int .i64 1),(.bool h.f0),(.string h.f1),(.slice none 0 0),(.bool false),(.int .i64 0),(.slice none 0 0),(.int .i64 0),(.slice none 0 0),(.string ⟨#[]⟩),(.string ⟨#[]⟩)]:=hE1.set 2 (.string h.f1)
    have hE3:Bx w _ V p q w.heap.size 100 #[(.int .i64 1),(.bool h.f0),(.string h.f1),(.slice A5 h.f2.length c5),(.bool false),(.int .i64 0),(.slice none 0 0),(.int .i64 0),(.slice none 0 0),(.string ⟨#[]⟩),(.string ⟨#[]⟩)]:=hE2.set 3 (.slice A5 h.f2.length c5)
    have hE4:Bx w _ V p q w.heap.size 100 #[(.int .i64 1),(.bool h.f0),(.string h.f1),(.slice A5 h.f2.length c5),(.bool h.f3),(.int .i64 0),(.slice none 0 0),(.int .i64 0),(.slice none 0 0),(.string ⟨#[]⟩),(.string ⟨#[]⟩)]:=hE3.set 4 (.bool h.f3)
    have hE5:Bx w _ V p q w.heap.size 100 #[(.int .i64 1),(.bool h.f0),(.string h.f1),(.slice A5 h.f2.length c5),(.bool h.f3),(.int .i64 h.f4),(.slice none 0 0),(.int .i64 0),(.slice none 0 0),(.string ⟨#[]⟩),(.string ⟨#[]⟩)]:=hE4.set 5 (.int .i64 h.f4)
    have hE6:Bx w _ V p q w.heap.size 100 #[(.int .i64 1),(.bool h.f0),(.string h.f1),(.slice A5 h.f2.length c5),(.bool h.f3),(.int .i64 h.f4),(.slice none 0 0),(.int .i64 0),(.slice none 0 0),(.string ⟨#[]⟩),(.string ⟨#[]⟩)]:=hE5.set 6 (.slice none 0 0)
    have hE7:Bx w _ V p q w.heap.size 100 #[(.int .i64 1),(.bool h.f0),(.string h.f1),(.slice A5 h.f2.length c5),(.bool h.f3),(.int .i64 h.f4),(.slice none 0 0),(.int .i64 0),(.slice none 0 0),(.string ⟨#[]⟩),(.string ⟨#[]⟩)]:=hE6.set 7 (.int .i64 0)
    have hE8:Bx w _ V p q w.heap.size 100 #[(.int .i64 1),(.bool h.f0),(.string h.f1),(.slice A5 h.f2.length c5),(.bool h.f3),(.int .i64 h.f4),(.slice none 0 0),(.int .i64 0),(.slice none 0 0),(.string ⟨#[]⟩),(.string ⟨#[]⟩)]:=hE7.set 8 (.slice none 0 0)
    have hE9:Bx w _ V p q w.heap.size 100 #[(.int .i64 1),(.bool h.f0),(.string h.f1),(.slice A5 h.f2.length c5),(.bool h.f3),(.int .i64 h.f4),(.slice none 0 0),(.int .i64 0),(.slice none 0 0),(.string ⟨#[]⟩),(.string ⟨#[]⟩)]:=hE8.set 9 (.string ⟨#[]⟩)
    have hE:Bx w _ V p q w.heap.size 100 #[(.int .i64 1),(.bool h.f0),(.string h.f1),(.slice A5 h.f2.length c5),(.bool h.f3),(.int .i64 h.f4),(.slice none 0 0),(.int .i64 0),(.slice none 0 0),(.string ⟨#[]⟩),(.string ⟨#[]⟩)]:=hE9.set 10 (.string ⟨#[]⟩)
    refine bodyPost_ret (results_cell_row rfl _ _ w.heap.size 100 #[(.int .i64 1),(.bool h.f0),(.string h.f1),(.slice A5 h.f2.length c5),(.bool h.f3),(.int .i64 h.f4),(.slice none 0 0),(.int .i64 0),(.slice none 0 0),(.string ⟨#[]⟩),(.string ⟨#[]⟩)] (0,0) _ rfl hE.blk Tryz.underlying100 rfl rfl) rfl ?_
    rw [HF5.out]
    have hy5:Kd.R Kd.string 9 _ s5 (fun k=>s5≤k) (.slice A5 h.f2.length c5) h.f2:=(Kd.R_far (Kd.R_far (Kd.R_far (Kd.R_far (Kd.R_far (Kd.R_far (Kd.R_far (Kd.R_far (Kd.R_far (Kd.R_far (Kd.R_far HX5.out (p:=⟨w.heap.size,0,none⟩) (fun k hk=>by have:=HS5.out;(try simp only);omega) (.int .i64 1)) (p:=⟨w.heap.size,1,none⟩) (fun k hk=>by have:=HS5.out;(try simp only);omega) (.bool h.f0)) (p:=⟨w.heap.size,2,none⟩) (fun k hk=>by have:=HS5.out;(try simp only);omega) (.string h.f1)) (p:=⟨w.heap.size,3,none⟩) (fun k hk=>by have:=HS5.out;(try simp only);omega) (.slice A5 h.f2.length c5)) (p:=⟨w.heap.size,4,none⟩) (fun k hk=>by have:=HS5.out;(try simp only);omega) (.bool h.f3)) (p:=⟨w.heap.size,5,none⟩) (fun k hk=>by have:=HS5.out;(try simp only);omega) (.int .i64 h.f4)) (p:=⟨w.heap.size,6,none⟩) (fun k hk=>by have:=HS5.out;(try simp only);omega) (.slice none 0 0)) (p:=⟨w.heap.size,7,none⟩) (fun k hk=>by have:=HS5.out;(try simp only);omega) (.int .i64 0)) (p:=⟨w.heap.size,8,none⟩) (fun k hk=>by have:=HS5.out;(try simp only);omega) (.slice none 0 0)) (p:=⟨w.heap.size,9,none⟩) (fun k hk=>by have:=HS5.out;(try simp only);omega) (.string ⟨#[]⟩)) (p:=⟨w.heap.size,10,none⟩) (fun k hk=>by have:=HS5.out;(try simp only);omega) (.string ⟨#[]⟩))
    have hz5:=Kd.R_lower (Kd.R_mono hy5 (ok':=fun k=>w.heap.size≤k) (fun k hk=>by have:=HS5.out;omega)) (base':=w.heap.size) (by have:=HS5.out;omega)
    exact ⟨_,rfl,⟨_,rfl,k100_mkM _ _ _ (⟨1,h,noGuard,⟨#[]⟩,⟨#[]⟩⟩:S100) hz5 (Kd.R_nil _ _ _ _ _) (Kd.R_nil _ _ _ _ _)⟩,hE.rd,hE.keep⟩
  ·simp only [if_true,Bool.false_eq_true,if_false] at hF3
   have HF3:=Lib.hid hF3
   clear hF3
   go_upto_region 8 with (first | (go_at_call 112;refine HU.out.mono ?_;rintro e X3 ⟨rfl,hb2⟩;have hr2:=HD2_0.out.rd.below hb2;have hk2:=Keep.of_below (F:=ours V) hb2;clear hb2))
   have HD6_0:=Lib.hid (show Bx w X3 V p p w.heap.size 100 #[(.int .i64 0),(.bool false),(.string ⟨#[]⟩),(.slice none 0 0),(.bool false),(.int .i64 0),(.slice none 0 0),(.int .i64 0),(.slice none 0 0),(.string ⟨#[]⟩),(.string ⟨#[]⟩)] from HD2_0.out.call hr2 hk2)
   clear HD2_0
   clear hr2 hk2 HU
   have HK7:=Lib.hid (fun w1 h1=>arg_calls V p w1 h1)
   have hF7:=HF3.out
   generalize hr7:V.arg p=r7 at hF7 HK7
   cases r7 with
   | bad er a =>
    dsimp only [Res.bnd] at hF7
    have HF7:=Lib.hid hF7
    clear hF7 HF3 hr7
    go_wp2_with (first | (go_at_call 113;refine (HK7.out X3 HD6_0.out.rd).mono ?_;rintro e w2 ⟨rfl,hk2⟩))
    refine ⟨rfl,?_⟩
    rw [HF7.out]
    exact ⟨rfl,HD6_0.out.keep.trans hk2 (fun _ _ h=>h)⟩
   | ok a q1 =>
    dsimp only [Res.bnd] at hF7
    have HF7:=Lib.hid hF7
    clear hF7 HF3 hr7
    go_upto_region 9 with (first | (go_at_call 113;refine (HK7.out X3 HD6_0.out.rd).mono ?_;rintro e w2 ⟨x,rfl,rfl,hr2,hk2⟩;have HC7_0:=Lib.hid (HD6_0.out.call hr2 hk2)))
    have HD7_0:=Lib.hid (HC7_0.out.alloc (Obj.cells #[(.int .i64 3),(.bool false),(.string ⟨#[]⟩),(.slice none 0 0),(.bool false),(.int .i64 0),(.slice none 0 0),(.int .i64 0),(.slice none 0 0),(.string a),(.string ⟨#[]⟩)] 100))
    have HD7_1:=Lib.hid (Bx.new HD6_0.out.h0 hr2 HC7_0.out.keep 100 #[(.int .i64 3),(.bool false),(.string ⟨#[]⟩),(.slice none 0 0),(.bool false),(.int .i64 0),(.slice none 0 0),(.int .i64 0),(.slice none 0 0),(.string a),(.string ⟨#[]⟩)])
    obtain ⟨B,hB⟩:∃ B,w2.heap.size=B:=⟨_,rfl⟩
    have HNB:=Lib.hid (show w.heap.size≠B by
     rw [← hB]
     have h0:=World.block_lt_of_cell? _ _ (blk_cell (v:=(.int .i64 0)) HC7_0.out.blk 0 rfl)
     simp only at h0;omega)
    obtain ⟨X7,hX⟩:∃ X,w2.alloc (Obj.cells #[(.int .i64 3),(.bool false),(.string ⟨#[]⟩),(.slice none 0 0),(.bool false),(.int .i64 0),(.slice none 0 0),(.int .i64 0),(.slice none 0 0),(.string a),(.string ⟨#[]⟩)] 100)=X:=⟨_,rfl⟩
    rw [hX] at HD7_0
    rw [hX,hB] at HD7_1
    try rw [hX,hB]
    clear hX hr2 hk2 HK7 hB HD6_0 HC7_0 
    have HK8:=Lib.hid (fun w1 h1=>must_calls V q1 6 ⟨#[33,61]⟩ w1 h1 (by decide))
    have hF8:=HF7.out
    generalize hr8:V.must 6 ⟨#[33,61]⟩ q1=r8 at hF8 HK8
    cases r8 with
    | bad er a =>
     dsimp only [Res.bnd] at hF8
     have HF8:=Lib.hid hF8
     clear hF8 HF7 hr8
     go_wp2_with (first | (go_at_call 41;refine (HK8.out X7 HD7_0.out.rd).mono ?_;rintro e w2 ⟨rfl,hk2⟩))
     refine ⟨rfl,?_⟩
     rw [HF8.out]
     exact ⟨rfl,HD7_0.out.keep.trans hk2 (fun _ _ h=>h)⟩
    | ok _ q2 =>
     dsimp only [Res.bnd] at hF8
     have HF8:=Lib.hid hF8
     clear hF8 HF7 hr8
     go_upto_region 10 with (first | (go_at_call 41;refine (HK8.out X7 HD7_0.out.rd).mono ?_;rintro e X8 ⟨x,rfl,rfl,hr2,hk2⟩;have HC8_0:=Lib.hid (HD7_0.out.call hr2 hk2);have HC8_1:=Lib.hid (HD7_1.out.call hr2 hk2)))
     have HD8_0:=Lib.hid (show Bx w X8 V p q2 w.heap.size 100 #[(.int .i64 0),(.bool false),(.string ⟨#[]⟩),(.slice none 0 0),(.bool false),(.int .i64 0),(.slice none 0 0),(.int .i64 0),(.slice none 0 0),(.string ⟨#[]⟩),(.string ⟨#[]⟩)] from HC8_0.out)
     have HD8_1:=Lib.hid (show Bx w X8 V p q2 B 100 #[(.int .i64 3),(.bool false),(.string ⟨#[]⟩),(.slice none 0 0),(.bool false),(.int .i64 0),(.slice none 0 0),(.int .i64 0),(.slice none 0 0),(.string a),(.string ⟨#[]⟩)] from HC8_1.out)
     clear hr2 hk2 HK8 HD7_0 HD7_1 HC8_0 HC8_1 
     have HK9:=Lib.hid (fun w1 h1=>arg_calls V q2 w1 h1)
     have hF9:=HF8.out
     generalize hr9:V.arg q2=r9 at hF9 HK9
     cases r9 with
     | bad er a =>
      dsimp only [Res.bnd] at hF9
      have HF9:=Lib.hid hF9
      clear hF9 HF8 hr9
      go_wp2_with (first | (go_at_call 113;refine (HK9.out X8 HD8_0.out.rd).mono ?_;rintro e w2 ⟨rfl,hk2⟩))
      refine ⟨rfl,?_⟩
      rw [HF9.out]
      exact ⟨rfl,HD8_0.out.keep.trans hk2 (fun _ _ h=>h)⟩
     | ok b q3 =>
      dsimp only [Res.bnd] at hF9
      have HF9:=Lib.hid hF9
      clear hF9 HF8 hr9
      go_upto_region 11 with (first | (go_at_call 113;refine (HK9.out X8 HD8_0.out.rd).mono ?_;rintro e w2 ⟨x,rfl,rfl,hr2,hk2⟩;have HC9_0:=Lib.hid (HD8_0.out.call hr2 hk2);have HC9_1:=Lib.hid (HD8_1.out.call hr2 hk2);have y10:=blk_cell (v:=(.string ⟨#[]⟩)) HC9_1.out.blk 10 rfl;have f10:=blk_free HC9_1.out.blk 10))
      clear y10 f10
      have HD9_0:=Lib.hid (show Bx w (w2.setCell ⟨B,10,none⟩ (.string b)) V p q3 w.heap.size 100 #[(.int .i64 0),(.bool false),(.string ⟨#[]⟩),(.slice none 0 0),(.bool false),(.int .i64 0),(.slice none 0 0),(.int .i64 0),(.slice none 0 0),(.string ⟨#[]⟩),(.string ⟨#[]⟩)] from HC9_0.out.far HC9_1.out.ge (by have:=HNB.out;omega) 10 (.string b))
      have HD9_1:=Lib.hid (show Bx w (w2.setCell ⟨B,10,none⟩ (.string b)) V p q3 B 100 #[(.int .i64 3),(.bool false),(.string ⟨#[]⟩),(.slice none 0 0),(.bool false),(.int .i64 0),(.slice none 0 0),(.int .i64 0),(.slice none 0 0),(.string a),(.string b)] from HC9_1.out.set 10 (.string b))
      clear hr2 hk2 HK9 HD8_0 HD8_1 HC9_0 HC9_1 
      generalize (w2.setCell ⟨B,10,none⟩ (.string b))=X9 at *
      have y0:=blk_cell (v:=(.int .i64 3)) HD9_1.out.blk 0 rfl
      have y1:=blk_cell (v:=(.bool false)) HD9_1.out.blk 1 rfl
      have y2:=blk_cell (v:=(.string ⟨#[]⟩)) HD9_1.out.blk 2 rfl
      have y3:=blk_cell (v:=(.slice none 0 0)) HD9_1.out.blk 3 rfl
      have y4:=blk_cell (v:=(.bool false)) HD9_1.out.blk 4 rfl
      have y5:=blk_cell (v:=(.int .i64 0)) HD9_1.out.blk 5 rfl
      have y6:=blk_cell (v:=(.slice none 0 0)) HD9_1.out.blk 6 rfl
      have y7:=blk_cell (v:=(.int .i64 0)) HD9_1.out.blk 7 rfl
      have y8:=blk_cell (v:=(.slice none 0 0)) HD9_1.out.blk 8 rfl
      have y9:=blk_cell (v:=(.string a)) HD9_1.out.blk 9 rfl
      have y10:=blk_cell (v:=(.string b)) HD9_1.out.blk 10 rfl
      have z0:=blk_cell (v:=(.int .i64 0)) HD9_0.out.blk 0 rfl
      have z1:=blk_cell (v:=(.bool false)) HD9_0.out.blk 1 rfl
      have z2:=blk_cell (v:=(.string ⟨#[]⟩)) HD9_0.out.blk 2 rfl
      have z3:=blk_cell (v:=(.slice none 0 0)) HD9_0.out.blk 3 rfl
      have z4:=blk_cell (v:=(.bool false)) HD9_0.out.blk 4 rfl
      have z5:=blk_cell (v:=(.int .i64 0)) HD9_0.out.blk 5 rfl
      have z6:=blk_cell (v:=(.slice none 0 0)) HD9_0.out.blk 6 rfl
      have z7:=blk_cell (v:=(.int .i64 0)) HD9_0.out.blk 7 rfl
      have z8:=blk_cell (v:=(.slice none 0 0)) HD9_0.out.blk 8 rfl
      have z9:=blk_cell (v:=(.string ⟨#[]⟩)) HD9_0.out.blk 9 rfl
      have z10:=blk_cell (v:=(.string ⟨#[]⟩)) HD9_0.out.blk 10 rfl
      have g0:=blk_free HD9_0.out.blk 0
      have g1:=blk_free HD9_0.out.blk 1
      have g2:=blk_free HD9_0.out.blk 2
      have g3:=blk_free HD9_0.out.blk 3
      have g4:=blk_free HD9_0.out.blk 4
      have g5:=blk_free HD9_0.out.blk 5
      have g6:=blk_free HD9_0.out.blk 6
      have g7:=blk_free HD9_0.out.blk 7
      have g8:=blk_free HD9_0.out.blk 8
      have g9:=blk_free HD9_0.out.blk 9
      have g10:=blk_free HD9_0.out.blk 10
      go_wp2_with fail
      have hE0:Bx w _ V p q3 w.heap.size 100 #[(.int .i64 3),(.bool false),(.string ⟨#[]⟩),(.slice none 0 0),(.bool false),(.int .i64 0),(.slice none 0 0),(.int .i64 0),(.slice none 0 0),(.string ⟨#[]⟩),(.string ⟨#[]⟩)]:=HD9_0.out.set 0 (.int .i64 3)
      have hE1:Bx w _ V p q3 w.heap.size 100 #[(.int .i64 3),(.bool false),(.string ⟨#[]⟩),(.slice none 0 0),(.bool false),(.int .i64 0),(.slice none 0 0),(.int .i64 0),(.slice none 0 0),(.string ⟨#[]⟩),(.string ⟨#[]⟩)]:=hE0.set 1 (.bool false)
      have hE2:Bx w _ V p q3 w.heap.size 100 #[(.int .i64 3),(.bool false),(.string ⟨#[]⟩),(.slice none 0 0),(.bool false),(.int .i64 0),(.slice none 0 0),(.int .i64 0),(.slice none 0 0),(.string ⟨#[]⟩),(.string ⟨#[]⟩)]:=hE1.set 2 (.string ⟨#[]⟩)
      have hE3:Bx w _ V p q3 w.heap.size 100 #[(.int .i64 3),(.bool false),(.string ⟨#[]⟩),(.slice none 0 0),(.bool false),(.int .i64 0),(.slice none 0 0),(.int .i64 0),(.slice none 0 0),(.string ⟨#[]⟩),(.string ⟨#[]⟩)]:=hE2.set 3 (.slice none 0 0)
      have hE4:Bx w _ V p q3 w.heap.size 100 #[(.int .i64 3),(.bool false),(.string ⟨#[]⟩),(.slice none 0 0),(.bool false),(.int .i64 0),(.slice none 0 0),(.int .i64 0),(.slice none 0 0),(.string ⟨#[]⟩),(.string ⟨#[]⟩)]:=hE3.set 4 (.bool false)
      have hE5:Bx w _ V p q3 w.heap.size 100 #[(.int .i64 3),(.bool false),(.string ⟨#[]⟩),(.slice none 0 0),(.bool false),(.int .i64 0),(.slice none 0 0),(.int .i64 0),(.slice none 0 0),(.string ⟨#[]⟩),(.string ⟨#[]⟩)]:=hE4.set 5 (.int .i64 0)
      have hE6:Bx w _ V p q3 w.heap.size 100 #[(.int .i64 3),(.bool false),(.string ⟨#[]⟩),(.slice none 0 0),(.bool false),(.int .i64 0),(.slice none 0 0),(.int .i64 0),(.slice none 0 0),(.string ⟨#[]⟩),(.string ⟨#[]⟩)]:=hE5.set 6 (.slice none 0 0)
      have hE7:Bx w _ V p q3 w.heap.size 100 #[(.int .i64 3),(.bool false),(.string ⟨#[]⟩),(.slice none 0 0),(.bool false),(.int .i64 0),(.slice none 0 0),(.int .i64 0),(.slice none 0 0),(.string ⟨#[]⟩),(.string ⟨#[]⟩)]:=hE6.set 7 (.int .i64 0)
      have hE8:Bx w _ V p q3 w.heap.size 100 #[(.int .i64 3),(.bool false),(.string ⟨#[]⟩),(.slice none 0 0),(.bool false),(.int .i64 0),(.slice none 0 0),(.int .i64 0),(.slice none 0 0),(.string ⟨#[]⟩),(.string ⟨#[]⟩)]:=hE7.set 8 (.slice none 0 0)
      have hE9:Bx w _ V p q3 w.heap.size 100 #[(.int .i64 3),(.bool false),(.string ⟨#[]⟩),(.slice none 0 0),(.bool false),(.int .i64 0),(.slice none 0 0),(.int .i64 0),(.slice none 0 0),(.string a),(.string ⟨#[]⟩)]:=hE8.set 9 (.string a)
      have hE:Bx w _ V p q3 w.heap.size 100 #[(.int .i64 3),(.bool false),(.string ⟨#[]⟩),(.slice none 0 0),(.bool false),(.int .i64 0),(.slice none 0 0),(.int .i64 0),(.slice none 0 0),(.string a),(.string b)]:=hE9.set 10 (.string b)
      refine bodyPost_ret (results_cell_row rfl _ _ w.heap.size 100 #[(.int .i64 3),(.bool false),(.string ⟨#[]⟩),(.slice none 0 0),(.bool false),(.int .i64 0),(.slice none 0 0),(.int .i64 0),(.slice none 0 0),(.string a),(.string b)] (0,0) _ rfl hE.blk Tryz.underlying100 rfl rfl) rfl ?_
      rw [HF9.out]
      exact ⟨_,rfl,⟨_,rfl,k100_mkM _ _ _ (⟨3,noLit,noGuard,a,b⟩:S100) (Kd.R_nil _ _ _ _ _) (Kd.R_nil _ _ _ _ _) (Kd.R_nil _ _ _ _ _)⟩,hE.rd,hE.keep⟩
 ·simp only [if_true,Bool.false_eq_true,if_false] at hF1
  try dsimp only [Res.bnd] at hF1
  have HF1:=Lib.hid hF1
  clear hF1 hr1
  go_upto_region 2 with (first | (go_at_call 38;refine (HK1.out X0 HA0.out.rd).mono ?_;rintro e X1 ⟨rfl,hr2,hk2⟩))
  simp only [if_true,Bool.false_eq_true,if_false] at hr2
  have HD10_0:=Lib.hid (show Bx w X1 V p (p+1) w.heap.size 100 #[(.int .i64 0),(.bool false),(.string ⟨#[]⟩),(.slice none 0 0),(.bool false),(.int .i64 0),(.slice none 0 0),(.int .i64 0),(.slice none 0 0),(.string ⟨#[]⟩),(.string ⟨#[]⟩)] from HA0.out.call hr2 hk2)
  clear HA0
  clear hr2 hk2 HK1
  have HK11:=Lib.hid (fun w1 h1=>sum_calls V (p+1) w1 h1)
  have hF11:=HF1.out
  generalize hr11:V.sum (p+1)=r11 at hF11 HK11
  cases r11 with
  | bad er a =>
   dsimp only [Res.bnd] at hF11
   have HF11:=Lib.hid hF11
   clear hF11 HF1 hr11
   go_wp2_with (first | (go_at_call 110;refine (HK11.out X1 HD10_0.out.rd).mono ?_;rintro e w2 ⟨rfl,hk2⟩))
   refine ⟨rfl,?_⟩
   rw [HF11.out]
   exact ⟨rfl,HD10_0.out.keep.trans hk2 (fun _ _ h=>h)⟩
  | ok l q1 =>
   dsimp only [Res.bnd] at hF11
   have HF11:=Lib.hid hF11
   clear hF11 HF1 hr11
   go_upto_region 3 with (first | (go_at_call 110;refine (HK11.out X1 HD10_0.out.rd).mono ?_;rintro e w2 ⟨x,rfl,hx,hr2,hk2⟩;have HC11_0:=Lib.hid (HD10_0.out.call hr2 hk2);obtain ⟨A11,c11,rfl⟩:=Kd.R_slice hx))
   obtain ⟨s11,hs11⟩:∃ s,X1.heap.size=s:=⟨_,rfl⟩
   rw [hs11] at hx
   have HS11:=Lib.hid (show w.heap.size<s11∧V.rb<s11 by
    have h0:=World.block_lt_of_cell? _ _ (blk_cell (v:=(.int .i64 0)) HD10_0.out.blk 0 rfl)
    have h9:=World.block_lt_of_cell? _ _ HD10_0.out.rd.pos
    simp only at h0 h9;omega)
   clear hs11
   have HXn11:=Lib.hid (show Kd.R k102 102 w2 s11 (fun k=>s11≤k) (.slice A11 l.length c11) l from hx)
   clear hx
   have HD11_0:=Lib.hid (HC11_0.out.alloc (Obj.cells #[(.slice A11 l.length c11),(.int .i64 0),(.slice none 0 0)] 98))
   have HD11_1:=Lib.hid (Bx.new HD10_0.out.h0 hr2 HC11_0.out.keep 98 #[(.slice A11 l.length c11),(.int .i64 0),(.slice none 0 0)])
   have HXm11:=Lib.hid (Kd.R_below (Kd.R_elderB HXn11.out w2.heap.size (Nat.le_refl _)) ((Below.refl _ w2).alloc (Nat.le_refl _) (Obj.cells #[(.slice A11 l.length c11),(.int .i64 0),(.slice none 0 0)] 98)))
   obtain ⟨B,hB⟩:∃ B,w2.heap.size=B:=⟨_,rfl⟩
   have HNB:=Lib.hid (show w.heap.size≠B by
    rw [← hB]
    have h0:=World.block_lt_of_cell? _ _ (blk_cell (v:=(.int .i64 0)) HC11_0.out.blk 0 rfl)
    simp only at h0;omega)
   obtain ⟨X11,hX⟩:∃ X,w2.alloc (Obj.cells #[(.slice A11 l.length c11),(.int .i64 0),(.slice none 0 0)] 98)=X:=⟨_,rfl⟩
   rw [hX] at HD11_0
   rw [hX,hB] at HD11_1
   rw [hX,hB] at HXm11
   try rw [hX,hB]
   clear hX hr2 hk2 HK11 hB HD10_0 HC11_0 
   have HX11:=Lib.hid (show Kd.R k102 102 X11 s11 (fun k=>s11≤k∧k≠B) (.slice A11 l.length c11) l from Kd.R_mono HXm11.out (fun k hk=>by first | exact hk | exact ⟨hk.1.1,hk.1.2,hk.2⟩))
   clear HXn11 HXm11
   have HK12:=Lib.hid (fun w1 h1=>op_calls V q1 w1 h1)
   have hF12:=HF11.out
   generalize hr12:V.op q1=r12 at hF12 HK12
   cases r12 with
   | bad er a =>
    dsimp only [Res.bnd] at hF12
    have HF12:=Lib.hid hF12
    clear hF12 HF11 hr12
    go_wp2_with (first | (go_at_call 111;refine (HK12.out X11 HD11_0.out.rd).mono ?_;rintro e w2 ⟨rfl,hk2⟩))
    refine ⟨rfl,?_⟩
    rw [HF12.out]
    exact ⟨rfl,HD11_0.out.keep.trans hk2 (fun _ _ h=>h)⟩
   | ok o q2 =>
    dsimp only [Res.bnd] at hF12
    have HF12:=Lib.hid hF12
    clear hF12 HF11 hr12
    go_upto_region 4 with (first | (go_at_call 111;refine (HK12.out X11 HD11_0.out.rd).mono ?_;rintro e w2 ⟨x,rfl,rfl,hr2,hk2⟩;have HC12_0:=Lib.hid (HD11_0.out.call hr2 hk2);have HC12_1:=Lib.hid (HD11_1.out.call hr2 hk2);have y1:=blk_cell (v:=(.int .i64 0)) HC12_1.out.blk 1 rfl;have f1:=blk_free HC12_1.out.blk 1))
    clear y1 f1
    have HXn11:=Lib.hid (show Kd.R k102 102 (w2.setCell ⟨B,1,none⟩ (.int .i64 o)) s11 (fun k=>s11≤k∧k≠B) (.slice A11 l.length c11) l from (Kd.R_far (Kd.R_step HX11.out (fun i hi hlt=>hk2.block i hlt (fun e=>by have:=HS11.out;unfold ours at e;omega))) (p:=⟨B,1,none⟩) (fun k hk=>by have:=HS11.out;(try simp only);omega) (.int .i64 o)))
    have HD12_0:=Lib.hid (show Bx w (w2.setCell ⟨B,1,none⟩ (.int .i64 o)) V p q2 w.heap.size 100 #[(.int .i64 0),(.bool false),(.string ⟨#[]⟩),(.slice none 0 0),(.bool false),(.int .i64 0),(.slice none 0 0),(.int .i64 0),(.slice none 0 0),(.string ⟨#[]⟩),(.string ⟨#[]⟩)] from HC12_0.out.far HC12_1.out.ge (by have:=HNB.out;omega) 1 (.int .i64 o))
    have HD12_1:=Lib.hid (show Bx w (w2.setCell ⟨B,1,none⟩ (.int .i64 o)) V p q2 B 98 #[(.slice A11 l.length c11),(.int .i64 o),(.slice none 0 0)] from HC12_1.out.set 1 (.int .i64 o))
    clear hr2 hk2 HK12 HD11_0 HD11_1 HC12_0 HC12_1 HX11
    have HX11:=HXn11
    clear HXn11
    generalize (w2.setCell ⟨B,1,none⟩ (.int .i64 o))=X12 at *
    have HK13:=Lib.hid (fun w1 h1=>sum_calls V q2 w1 h1)
    have hF13:=HF12.out
    generalize hr13:V.sum q2=r13 at hF13 HK13
    cases r13 with
    | bad er a =>
     dsimp only [Res.bnd] at hF13
     have HF13:=Lib.hid hF13
     clear hF13 HF12 hr13
     go_wp2_with (first | (go_at_call 110;refine (HK13.out X12 HD12_0.out.rd).mono ?_;rintro e w2 ⟨rfl,hk2⟩))
     refine ⟨rfl,?_⟩
     rw [HF13.out]
     exact ⟨rfl,HD12_0.out.keep.trans hk2 (fun _ _ h=>h)⟩
    | ok r q3 =>
     dsimp only [Res.bnd] at hF13
     have HF13:=Lib.hid hF13
     clear hF13 HF12 hr13
     go_upto_region 5 with (first | (go_at_call 110;refine (HK13.out X12 HD12_0.out.rd).mono ?_;rintro e w2 ⟨x,rfl,hx,hr2,hk2⟩;have HC13_0:=Lib.hid (HD12_0.out.call hr2 hk2);have HC13_1:=Lib.hid (HD12_1.out.call hr2 hk2);obtain ⟨A13,c13,rfl⟩:=Kd.R_slice hx;have y2:=blk_cell (v:=(.slice none 0 0)) HC13_1.out.blk 2 rfl;have f2:=blk_free HC13_1.out.blk 2))
     clear y2 f2
     obtain ⟨s13,hs13⟩:∃ s,X12.heap.size=s:=⟨_,rfl⟩
     rw [hs13] at hx
     have HS13:=Lib.hid (show w.heap.size<s13∧B<s13∧V.rb<s13 by
      have h0:=World.block_lt_of_cell? _ _ (blk_cell (v:=(.int .i64 0)) HD12_0.out.blk 0 rfl)
      have h1:=World.block_lt_of_cell? _ _ (blk_cell (v:=(.slice A11 l.length c11)) HD12_1.out.blk 0 rfl)
      have h9:=World.block_lt_of_cell? _ _ HD12_0.out.rd.pos
      simp only at h0 h1 h9;omega)
     clear hs13
     have HXn11:=Lib.hid (show Kd.R k102 102 (w2.setCell ⟨B,2,none⟩ (.slice A13 r.length c13)) s11 (fun k=>s11≤k∧k≠B) (.slice A11 l.length c11) l from (Kd.R_far (Kd.R_step HX11.out (fun i hi hlt=>hk2.block i hlt (fun e=>by have:=HS11.out;unfold ours at e;omega))) (p:=⟨B,2,none⟩) (fun k hk=>by have:=HS11.out;(try simp only);omega) (.slice A13 r.length c13)))
     have HXn13:=Lib.hid (show Kd.R k102 102 (w2.setCell ⟨B,2,none⟩ (.slice A13 r.length c13)) s13 (fun k=>s13≤k) (.slice A13 r.length c13) r from (Kd.R_far hx (p:=⟨B,2,none⟩) (fun k hk=>by have:=HS13.out;(try simp only);omega) (.slice A13 r.length c13)))
     clear hx
     have HD13_0:=Lib.hid (show Bx w (w2.setCell ⟨B,2,none⟩ (.slice A13 r.length c13)) V p q3 w.heap.size 100 #[(.int .i64 0),(.bool false),(.string ⟨#[]⟩),(.slice none 0 0),(.bool false),(.int .i64 0),(.slice none 0 0),(.int .i64 0),(.slice none 0 0),(.string ⟨#[]⟩),(.string ⟨#[]⟩)] from HC13_0.out.far HC13_1.out.ge (by have:=HNB.out;omega) 2 (.slice A13 r.length c13))
     have HD13_1:=Lib.hid (show Bx w (w2.setCell ⟨B,2,none⟩ (.slice A13 r.length c13)) V p q3 B 98 #[(.slice A11 l.length c11),(.int .i64 o),(.slice A13 r.length c13)] from HC13_1.out.set 2 (.slice A13 r.length c13))
     clear hr2 hk2 HK13 HD12_0 HD12_1 HC13_0 HC13_1 HX11
     have HX11:=HXn11
     clear HXn11
     have HX13:=HXn13
     clear HXn13
     generalize (w2.setCell ⟨B,2,none⟩ (.slice A13 r.length c13))=X13 at *
     have HK14:=Lib.hid (fun w1 h1=>must_calls V q3 6 ⟨#[125]⟩ w1 h1 (by decide))
     have hF14:=HF13.out
     generalize hr14:V.must 6 ⟨#[125]⟩ q3=r14 at hF14 HK14
     cases r14 with
     | bad er a =>
      dsimp only [Res.bnd] at hF14
      have HF14:=Lib.hid hF14
      clear hF14 HF13 hr14
      go_wp2_with (first | (go_at_call 41;refine (HK14.out X13 HD13_0.out.rd).mono ?_;rintro e w2 ⟨rfl,hk2⟩))
      refine ⟨rfl,?_⟩
      rw [HF14.out]
      exact ⟨rfl,HD13_0.out.keep.trans hk2 (fun _ _ h=>h)⟩
     | ok _ q4 =>
      dsimp only [Res.bnd] at hF14
      have HF14:=Lib.hid hF14
      clear hF14 HF13 hr14
      go_upto_region 6 with (first | (go_at_call 41;refine (HK14.out X13 HD13_0.out.rd).mono ?_;rintro e X14 ⟨x,rfl,rfl,hr2,hk2⟩;have HC14_0:=Lib.hid (HD13_0.out.call hr2 hk2);have HC14_1:=Lib.hid (HD13_1.out.call hr2 hk2)))
      have HXn11:=Lib.hid (show Kd.R k102 102 X14 s11 (fun k=>s11≤k∧k≠B) (.slice A11 l.length c11) l from (Kd.R_step HX11.out (fun i hi hlt=>hk2.block i hlt (fun e=>by have:=HS11.out;unfold ours at e;omega))))
      have HXn13:=Lib.hid (show Kd.R k102 102 X14 s13 (fun k=>s13≤k) (.slice A13 r.length c13) r from (Kd.R_step HX13.out (fun i hi hlt=>hk2.block i hlt (fun e=>by have:=HS13.out;unfold ours at e;omega))))
      have HD14_0:=Lib.hid (show Bx w X14 V p q4 w.heap.size 100 #[(.int .i64 0),(.bool false),(.string ⟨#[]⟩),(.slice none 0 0),(.bool false),(.int .i64 0),(.slice none 0 0),(.int .i64 0),(.slice none 0 0),(.string ⟨#[]⟩),(.string ⟨#[]⟩)] from HC14_0.out)
      have HD14_1:=Lib.hid (show Bx w X14 V p q4 B 98 #[(.slice A11 l.length c11),(.int .i64 o),(.slice A13 r.length c13)] from HC14_1.out)
      clear hr2 hk2 HK14 HD13_0 HD13_1 HC14_0 HC14_1 HX11 HX13
      have HX11:=HXn11
      clear HXn11
      have HX13:=HXn13
      clear HXn13
      have y0:=blk_cell (v:=(.slice A11 l.length c11)) HD14_1.out.blk 0 rfl
      have y1:=blk_cell (v:=(.int .i64 o)) HD14_1.out.blk 1 rfl
      have y2:=blk_cell (v:=(.slice A13 r.length c13)) HD14_1.out.blk 2 rfl
      have z0:=blk_cell (v:=(.int .i64 0)) HD14_0.out.blk 0 rfl
      have z1:=blk_cell (v:=(.bool false)) HD14_0.out.blk 1 rfl
      have z2:=blk_cell (v:=(.string ⟨#[]⟩)) HD14_0.out.blk 2 rfl
      have z3:=blk_cell (v:=(.slice none 0 0)) HD14_0.out.blk 3 rfl
      have z4:=blk_cell (v:=(.bool false)) HD14_0.out.blk 4 rfl
      have z5:=blk_cell (v:=(.int .i64 0)) HD14_0.out.blk 5 rfl
      have z6:=blk_cell (v:=(.slice none 0 0)) HD14_0.out.blk 6 rfl
      have z7:=blk_cell (v:=(.int .i64 0)) HD14_0.out.blk 7 rfl
      have z8:=blk_cell (v:=(.slice none 0 0)) HD14_0.out.blk 8 rfl
      have z9:=blk_cell (v:=(.string ⟨#[]⟩)) HD14_0.out.blk 9 rfl
      have z10:=blk_cell (v:=(.string ⟨#[]⟩)) HD14_0.out.blk 10 rfl
      have g0:=blk_free HD14_0.out.blk 0
      have g1:=blk_free HD14_0.out.blk 1
      have g2:=blk_free HD14_0.out.blk 2
      have g3:=blk_free HD14_0.out.blk 3
      have g4:=blk_free HD14_0.out.blk 4
      have g5:=blk_free HD14_0.out.blk 5
      have g6:=blk_free HD14_0.out.blk 6
      have g7:=blk_free HD14_0.out.blk 7
      have g8:=blk_free HD14_0.out.blk 8
      have g9:=blk_free HD14_0.out.blk 9
      have g10:=blk_free HD14_0.out.blk 10
      go_wp2_with fail
      have hE0:Bx w _ V p q4 w.heap.size 100 #[(.int .i64 2),(.bool false),(.string ⟨#[]⟩),(.slice none 0 0),(.bool false),(.int .i64 0),(.slice none 0 0),(.int .i64 0),(.slice none 0 0),(.string ⟨#[]⟩),(.string ⟨#[]⟩)]:=HD14_0.out.set 0 (.int .i64 2)
      have hE1:Bx w _ V p q4 w.heap.size 100 #[(.int .i64 2),(.bool false),(.string ⟨#[]⟩),(.slice none 0 0),(.bool false),(.int .i64 0),(.slice none 0 0),(.int .i64 0),(.slice none 0 0),(.string ⟨#[]⟩),(.string ⟨#[]⟩)]:=hE0.set 1 (.bool false)
      have hE2:Bx w _ V p q4 w.heap.size 100 #[(.int .i64 2),(.bool false),(.string ⟨#[]⟩),(.slice none 0 0),(.bool false),(.int .i64 0),(.slice none 0 0),(.int .i64 0),(.slice none 0 0),(.string ⟨#[]⟩),(.string ⟨#[]⟩)]:=hE1.set 2 (.string ⟨#[]⟩)
      have hE3:Bx w _ V p q4 w.heap.size 100 #[(.int .i64 2),(.bool false),(.string ⟨#[]⟩),(.slice none 0 0),(.bool false),(.int .i64 0),(.slice none 0 0),(.int .i64 0),(.slice none 0 0),(.string ⟨#[]⟩),(.string ⟨#[]⟩)]:=hE2.set 3 (.slice none 0 0)
      have hE4:Bx w _ V p q4 w.heap.size 100 #[(.int .i64 2),(.bool false),(.string ⟨#[]⟩),(.slice none 0 0),(.bool false),(.int .i64 0),(.slice none 0 0),(.int .i64 0),(.slice none 0 0),(.string ⟨#[]⟩),(.string ⟨#[]⟩)]:=hE3.set 4 (.bool false)
      have hE5:Bx w _ V p q4 w.heap.size 100 #[(.int .i64 2),(.bool false),(.string ⟨#[]⟩),(.slice none 0 0),(.bool false),(.int .i64 0),(.slice none 0 0),(.int .i64 0),(.slice none 0 0),(.string ⟨#[]⟩),(.string ⟨#[]⟩)]:=hE4.set 5 (.int .i64 0)
      have hE6:Bx w _ V p q4 w.heap.size 100 #[(.int .i64 2),(.bool false),(.string ⟨#[]⟩),(.slice none 0 0),(.bool false),(.int .i64 0),(.slice A11 l.length c11),(.int .i64 0),(.slice none 0 0),(.string ⟨#[]⟩),(.string ⟨#[]⟩)]:=hE5.set 6 (.slice A11 l.length c11)
      have hE7:Bx w _ V p q4 w.heap.size 100 #[(.int .i64 2),(.bool false),(.string ⟨#[]⟩),(.slice none 0 0),(.bool false),(.int .i64 0),(.slice A11 l.length c11),(.int .i64 o),(.slice none 0 0),(.string ⟨#[]⟩),(.string ⟨#[]⟩)]:=hE6.set 7 (.int .i64 o)
      have hE8:Bx w _ V p q4 w.heap.size 100 #[(.int .i64 2),(.bool false),(.string ⟨#[]⟩),(.slice none 0 0),(.bool false),(.int .i64 0),(.slice A11 l.length c11),(.int .i64 o),(.slice A13 r.length c13),(.string ⟨#[]⟩),(.string ⟨#[]⟩)]:=hE7.set 8 (.slice A13 r.length c13)
      have hE9:Bx w _ V p q4 w.heap.size 100 #[(.int .i64 2),(.bool false),(.string ⟨#[]⟩),(.slice none 0 0),(.bool false),(.int .i64 0),(.slice A11 l.length c11),(.int .i64 o),(.slice A13 r.length c13),(.string ⟨#[]⟩),(.string ⟨#[]⟩)]:=hE8.set 9 (.string ⟨#[]⟩)
      have hE:Bx w _ V p q4 w.heap.size 100 #[(.int .i64 2),(.bool false),(.string ⟨#[]⟩),(.slice none 0 0),(.bool false),(.int .i64 0),(.slice A11 l.length c11),(.int .i64 o),(.slice A13 r.length c13),(.string ⟨#[]⟩),(.string ⟨#[]⟩)]:=hE9.set 10 (.string ⟨#[]⟩)
      refine bodyPost_ret (results_cell_row rfl _ _ w.heap.size 100 #[(.int .i64 2),(.bool false),(.string ⟨#[]⟩),(.slice none 0 0),(.bool false),(.int .i64 0),(.slice A11 l.length c11),(.int .i64 o),(.slice A13 r.length c13),(.string ⟨#[]⟩),(.string ⟨#[]⟩)] (0,0) _ rfl hE.blk Tryz.underlying100 rfl rfl) rfl ?_
      rw [HF14.out]
      have hy11:Kd.R k102 102 _ s11 (fun k=>s11≤k∧k≠B) (.slice A11 l.length c11) l:=(Kd.R_far (Kd.R_far (Kd.R_far (Kd.R_far (Kd.R_far (Kd.R_far (Kd.R_far (Kd.R_far (Kd.R_far (Kd.R_far (Kd.R_far HX11.out (p:=⟨w.heap.size,0,none⟩) (fun k hk=>by have:=HS11.out;(try simp only);omega) (.int .i64 2)) (p:=⟨w.heap.size,1,none⟩) (fun k hk=>by have:=HS11.out;(try simp only);omega) (.bool false)) (p:=⟨w.heap.size,2,none⟩) (fun k hk=>by have:=HS11.out;(try simp only);omega) (.string ⟨#[]⟩)) (p:=⟨w.heap.size,3,none⟩) (fun k hk=>by have:=HS11.out;(try simp only);omega) (.slice none 0 0)) (p:=⟨w.heap.size,4,none⟩) (fun k hk=>by have:=HS11.out;(try simp only);omega) (.bool false)) (p:=⟨w.heap.size,5,none⟩) (fun k hk=>by have:=HS11.out;(try simp only);omega) (.int .i64 0)) (p:=⟨w.heap.size,6,none⟩) (fun k hk=>by have:=HS11.out;(try simp only);omega) (.slice A11 l.length c11)) (p:=⟨w.heap.size,7,none⟩) (fun k hk=>by have:=HS11.out;(try simp only);omega) (.int .i64 o)) (p:=⟨w.heap.size,8,none⟩) (fun k hk=>by have:=HS11.out;(try simp only);omega) (.slice A13 r.length c13)) (p:=⟨w.heap.size,9,none⟩) (fun k hk=>by have:=HS11.out;(try simp only);omega) (.string ⟨#[]⟩)) (p:=⟨w.heap.size,10,none⟩) (fun k hk=>by have:=HS11.out;(try simp only);omega) (.string ⟨#[]⟩))
      have hz11:=Kd.R_lower (Kd.R_mono hy11 (ok':=fun k=>w.heap.size≤k) (fun k hk=>by have:=HS11.out;omega)) (base':=w.heap.size) (by have:=HS11.out;omega)
      have hy13:Kd.R k102 102 _ s13 (fun k=>s13≤k) (.slice A13 r.length c13) r:=(Kd.R_far (Kd.R_far (Kd.R_far (Kd.R_far (Kd.R_far (Kd.R_far (Kd.R_far (Kd.R_far (Kd.R_far (Kd.R_far (Kd.R_far HX13.out (p:=⟨w.heap.size,0,none⟩) (fun k hk=>by have:=HS13.out;(try simp only);omega) (.int .i64 2)) (p:=⟨w.heap.size,1,none⟩) (fun k hk=>by have:=HS13.out;(try simp only);omega) (.bool false)) (p:=⟨w.heap.size,2,none⟩) (fun k hk=>by have:=HS13.out;(try simp only);omega) (.string ⟨#[]⟩)) (p:=⟨w.heap.size,3,none⟩) (fun k hk=>by have:=HS13.out;(try simp only);omega) (.slice none 0 0)) (p:=⟨w.heap.size,4,none⟩) (fun k hk=>by have:=HS13.out;(try simp only);omega) (.bool false)) (p:=⟨w.heap.size,5,none⟩) (fun k hk=>by have:=HS13.out;(try simp only);omega) (.int .i64 0)) (p:=⟨w.heap.size,6,none⟩) (fun k hk=>by have:=HS13.out;(try simp only);omega) (.slice A11 l.length c11)) (p:=⟨w.heap.size,7,none⟩) (fun k hk=>by have:=HS13.out;(try simp only);omega) (.int .i64 o)) (p:=⟨w.heap.size,8,none⟩) (fun k hk=>by have:=HS13.out;(try simp only);omega) (.slice A13 r.length c13)) (p:=⟨w.heap.size,9,none⟩) (fun k hk=>by have:=HS13.out;(try simp only);omega) (.string ⟨#[]⟩)) (p:=⟨w.heap.size,10,none⟩) (fun k hk=>by have:=HS13.out;(try simp only);omega) (.string ⟨#[]⟩))
      have hz13:=Kd.R_lower (Kd.R_mono hy13 (ok':=fun k=>w.heap.size≤k) (fun k hk=>by have:=HS13.out;omega)) (base':=w.heap.size) (by have:=HS13.out;omega)
      exact ⟨_,rfl,⟨_,rfl,k100_mkM _ _ _ (⟨2,noLit,⟨l,o,r⟩,⟨#[]⟩,⟨#[]⟩⟩:S100) (Kd.R_nil _ _ _ _ _) hz11 hz13⟩,hE.rd,hE.keep⟩
namespace Sx
def Lo (V:Env) (SB:Nat):Prop:=V.rb<SB∧0<SB∧∀ a,V.A=some a→0<V.T.length→a.block<SB
theorem Lo.of {w:World} {V:Env} {p SB:Nat} (h:Rd w V p) (hs:w.heap.size≤SB):Lo V SB:=by
 have h1:V.rb<w.heap.size:=World.block_lt_of_cell? w _ h.pos
 obtain ⟨m,hm⟩:=h.gl
 have h2:=World.block_lt_of_cell? w _ hm
 simp only at h2
 refine ⟨by omega,by omega,fun a ha hT=>?_⟩
 obtain ⟨a',ha',_,h0,_,_⟩:=h.t 0 hT
 have e:a=a':=by rw [ha] at ha';exact Option.some.inj ha'
 subst e
 have h3:=World.block_lt_of_cell? w _ h0
 rw [add_block] at h3
 omega
theorem Rd.up {w w1:World} {V:Env} {p SB:Nat} (h:Rd w V p) (lo:Lo V SB) (hm:∀ k,k<SB→w1.heap[k]?=w.heap[k]?):Rd w1 V p:=by
 have kc:∀ {a:Addr} {v:Value},a.block<SB→w.cell? a=some v→w1.cell? a=some v:=fun {a v} ha hc=>(World.cell?_of_block (hm _ ha)).trans hc
 refine ⟨kc lo.1 h.l,kc lo.1 h.pos,kc lo.1 h.e,?_,fun i hi=>?_,h.n,h.le,h.z,h.gl.imp fun _ hm=>kc lo.2.1 hm⟩
 ·rw [← h.f];unfold World.frozen?;rw [hm _ lo.1]
 ·obtain ⟨a,ha,hne,t0,t1,t2⟩:=h.t i hi
  have hb:(a.add (i*3)).block<SB:=by rw [add_block];exact lo.2.2 a ha (by omega)
  exact ⟨a,ha,hne,kc hb t0,kc hb t1,kc hb t2⟩
def oursS (V:Env) (SB:Nat):Nat→Prop:=fun k=>k=V.rb∨SB≤k
theorem Keep.toS {V:Env} {SB:Nat} {w w1:World} (h:Keep (ours V) w w1):Keep (oursS V SB) w w1:=⟨h.os,h.tape,h.output,h.size,fun i hi hn=>h.block i hi (fun e=>hn (.inl e))⟩
def okf (SB N:Nat) (own:Nat→Nat) (i:Nat):Nat→Prop:=fun k=>SB<k∧(k<N→own k=i)
structure Vs where
 v1:Value
 v2:Value
 v3:Value
 v4:Value
 v5:Value
 v6:Value
 v7:Value
 v8:Value
structure StB (w:World) (SB:Nat) (own:Nat→Nat) (s:Stt) (v:Vs):Prop where
 blk:w.heap[SB]?=some (.cells #[.string s.title,v.v1,v.v2,v.v3,v.v4,v.v5,v.v6,v.v7,v.v8] 32 (0,0))
 lm:s.members.length≤64
 r1:Kd.R Kd.string 9 w (SB+1) (okf SB w.heap.size own 1) v.v1 s.kinds
 r2:Kd.R k54 54 w (SB+1) (okf SB w.heap.size own 2) v.v2 s.members
 r3:Kd.R k85 85 w (SB+1) (okf SB w.heap.size own 3) v.v3 s.preds
 r4:Kd.R (Kd.slice 9 Kd.string) 23 w (SB+1) (okf SB w.heap.size own 4) v.v4 s.classes
 r5:Kd.R k117 117 w (SB+1) (okf SB w.heap.size own 5) v.v5 s.sources
 r6:Kd.R k93 93 w (SB+1) (okf SB w.heap.size own 6) v.v6 s.rules
 r7:Kd.R k120 120 w (SB+1) (okf SB w.heap.size own 7) v.v7 s.excepts
 r8:Kd.R k104 104 w (SB+1) (okf SB w.heap.size own 8) v.v8 s.totals
theorem StB.lt {w:World} {SB:Nat} {own:Nat→Nat} {s:Stt} {v:Vs} (h:StB w SB own s v):SB<w.heap.size:=blk_lt h.blk
theorem StB.move {w w1:World} {V:Env} {SB:Nat} {own:Nat→Nat} {s:Stt} {v:Vs} (h:StB w SB own s v) (lo:Lo V SB) (k:Keep (ours V) w w1):StB w1 SB own s v:=by
 have hm:∀ {j:Nat} {α:Type} {d:Kd α} {e:Nat} {x:Value} {l:List α},Kd.R d e w (SB+1) (okf SB w.heap.size own j) x l→Kd.R d e w1 (SB+1) (okf SB w1.heap.size own j) x l:=fun {j α d e x l} hr =>
  Kd.R_mono (Kd.R_step (Kd.R_bound hr) (fun i hi hlt=>k.block i hlt (fun e=>by unfold ours at e;have h1:=hi.1.1;have h2:=lo.1;omega))) (fun i hi=>⟨hi.1.1,fun _=>hi.1.2 hi.2.2.1⟩)
 exact ⟨(k.block SB h.lt (fun e=>by unfold ours at e;have h2:=lo.1;omega)).trans h.blk,h.lm,hm h.r1,hm h.r2,hm h.r3,hm h.r4,hm h.r5,hm h.r6,hm h.r7,hm h.r8⟩
structure Did (V:Env) (SB:Nat) (row:Option Nat) (w w1:World):Prop where
 os:w1.os=w.os
 tape:w1.tape=w.tape
 output:w1.output=w.output
 size:w.heap.size≤w1.heap.size
 block:∀ k,k<w.heap.size→k≠V.rb→k≠SB→some k≠row→w1.heap[k]?=w.heap[k]?
theorem Did.keep {V:Env} {SB:Nat} {row:Option Nat} {w w1:World} (h:Did V SB row w w1) (hr:∀ k,row=some k→SB≤k):Keep (oursS V SB) w w1 :=
 ⟨h.os,h.tape,h.output,h.size,fun i hi hn=>h.block i hi (fun e=>hn (.inl e)) (fun e=>hn (.inr (by omega))) (fun e=>hn (.inr (hr i e.symm)))⟩
theorem StB.put1 {w w1:World} {V:Env} {SB:Nat} {own:Nat→Nat} {s:Stt} {v:Vs} {x:Value} {l:List ByteArray} (h:StB w SB own s v) (lo:Lo V SB) (k:Did V SB v.v1.ownBlock w w1)
  (hb:w1.heap[SB]?=some (.cells #[.string s.title,x,v.v2,v.v3,v.v4,v.v5,v.v6,v.v7,v.v8] 32 (0,0))) (hr:Kd.R Kd.string 9 w1 (SB+1) (okf SB w.heap.size own 1) x l):∃ own' v',StB w1 SB own' { s with kinds:=l } v':=by
 have hm:∀ (j:Nat) {α:Type} {d:Kd α} {e:Nat} {y:Value} {l:List α},j≠1→Kd.R d e w (SB+1) (okf SB w.heap.size own j) y l→Kd.R d e w1 (SB+1) (okf SB w1.heap.size (fun k=>if k<w.heap.size then own k else 1) j) y l:=fun j {α d e y l} hj hr =>
  Kd.R_mono (Kd.R_step (Kd.R_bound hr) (fun i hi hlt=>k.block i hlt (fun e=>by have h1:=hi.1.1;have h2:=lo.1;omega) (fun e=>by have h1:=hi.1.1;omega) (fun e=>by
   have h1:=(h.r1.1 i e.symm).2 hlt
   have h2:=hi.1.2 hlt
   exact hj (h2.symm.trans h1)))) (fun i hi=>⟨hi.1.1,fun _=>by show (if i<w.heap.size then own i else 1)=j;rw [if_pos hi.2.2.1];exact hi.1.2 hi.2.2.1⟩)
 exact ⟨fun k=>if k<w.heap.size then own k else 1,⟨x,v.v2,v.v3,v.v4,v.v5,v.v6,v.v7,v.v8⟩,hb,h.lm,Kd.R_mono hr (fun k hk=>⟨hk.1,fun _=>by show (if k<w.heap.size then own k else 1)=1;split;exact hk.2 (by assumption);rfl⟩),hm 2 (by decide) h.r2,hm 3 (by decide) h.r3,hm 4 (by decide) h.r4,hm 5 (by decide) h.r5,hm 6 (by decide) h.r6,hm 7 (by decide) h.r7,hm 8 (by decide) h.r8⟩
theorem StB.put2 {w w1:World} {V:Env} {SB:Nat} {own:Nat→Nat} {s:Stt} {v:Vs} {x:Value} {l:List S54} (h:StB w SB own s v) (lo:Lo V SB) (k:Did V SB v.v2.ownBlock w w1)
  (hb:w1.heap[SB]?=some (.cells #[.string s.title,v.v1,x,v.v3,v.v4,v.v5,v.v6,v.v7,v.v8] 32 (0,0))) (hl:l.length≤64) (hr:Kd.R k54 54 w1 (SB+1) (okf SB w.heap.size own 2) x l):∃ own' v',StB w1 SB own' { s with members:=l } v':=by
 have hm:∀ (j:Nat) {α:Type} {d:Kd α} {e:Nat} {y:Value} {l:List α},j≠2→Kd.R d e w (SB+1) (okf SB w.heap.size own j) y l→Kd.R d e w1 (SB+1) (okf SB w1.heap.size (fun k=>if k<w.heap.size then own k else 2) j) y l:=fun j {α d e y l} hj hr =>
  Kd.R_mono (Kd.R_step (Kd.R_bound hr) (fun i hi hlt=>k.block i hlt (fun e=>by have h1:=hi.1.1;have h2:=lo.1;omega) (fun e=>by have h1:=hi.1.1;omega) (fun e=>by
   have h1:=(h.r2.1 i e.symm).2 hlt
   have h2:=hi.1.2 hlt
   exact hj (h2.symm.trans h1)))) (fun i hi=>⟨hi.1.1,fun _=>by show (if i<w.heap.size then own i else 2)=j;rw [if_pos hi.2.2.1];exact hi.1.2 hi.2.2.1⟩)
 exact ⟨fun k=>if k<w.heap.size then own k else 2,⟨v.v1,x,v.v3,v.v4,v.v5,v.v6,v.v7,v.v8⟩,hb,hl,hm 1 (by decide) h.r1,Kd.R_mono hr (fun k hk=>⟨hk.1,fun _=>by show (if k<w.heap.size then own k else 2)=2;split;exact hk.2 (by assumption);rfl⟩),hm 3 (by decide) h.r3,hm 4 (by decide) h.r4,hm 5 (by decide) h.r5,hm 6 (by decide) h.r6,hm 7 (by decide) h.r7,hm 8 (by decide) h.r8⟩
theorem StB.put3 {w w1:World} {V:Env} {SB:Nat} {own:Nat→Nat} {s:Stt} {v:Vs} {x:Value} {l:List S85} (h:StB w SB own s v) (lo:Lo V SB) (k:Did V SB v.v3.ownBlock w w1)
  (hb:w1.heap[SB]?=some (.cells #[.string s.title,v.v1,v.v2,x,v.v4,v.v5,v.v6,v.v7,v.v8] 32 (0,0))) (hr:Kd.R k85 85 w1 (SB+1) (okf SB w.heap.size own 3) x l):∃ own' v',StB w1 SB own' { s with preds:=l } v':=by
 have hm:∀ (j:Nat) {α:Type} {d:Kd α} {e:Nat} {y:Value} {l:List α},j≠3→Kd.R d e w (SB+1) (okf SB w.heap.size own j) y l→Kd.R d e w1 (SB+1) (okf SB w1.heap.size (fun k=>if k<w.heap.size then own k else 3) j) y l:=fun j {α d e y l} hj hr =>
  Kd.R_mono (Kd.R_step (Kd.R_bound hr) (fun i hi hlt=>k.block i hlt (fun e=>by have h1:=hi.1.1;have h2:=lo.1;omega) (fun e=>by have h1:=hi.1.1;omega) (fun e=>by
   have h1:=(h.r3.1 i e.symm).2 hlt
   have h2:=hi.1.2 hlt
   exact hj (h2.symm.trans h1)))) (fun i hi=>⟨hi.1.1,fun _=>by show (if i<w.heap.size then own i else 3)=j;rw [if_pos hi.2.2.1];exact hi.1.2 hi.2.2.1⟩)
 exact ⟨fun k=>if k<w.heap.size then own k else 3,⟨v.v1,v.v2,x,v.v4,v.v5,v.v6,v.v7,v.v8⟩,hb,h.lm,hm 1 (by decide) h.r1,hm 2 (by decide) h.r2,Kd.R_mono hr (fun k hk=>⟨hk.1,fun _=>by show (if k<w.heap.size then own k else 3)=3;split;exact hk.2 (by assumption);rfl⟩),hm 4 (by decide) h.r4,hm 5 (by decide) h.r5,hm 6 (by decide) h.r6,hm 7 (by decide) h.r7,hm 8 (by decide) h.r8⟩
theorem StB.put4 {w w1:World} {V:Env} {SB:Nat} {own:Nat→Nat} {s:Stt} {v:Vs} {x:Value} {l:List (List ByteArray)} (h:StB w SB own s v) (lo:Lo V SB) (k:Did V SB v.v4.ownBlock w w1)
  (hb:w1.heap[SB]?=some (.cells #[.string s.title,v.v1,v.v2,v.v3,x,v.v5,v.v6,v.v7,v.v8] 32 (0,0))) (hr:Kd.R (Kd.slice 9 Kd.string) 23 w1 (SB+1) (okf SB w.heap.size own 4) x l):∃ own' v',StB w1 SB own' { s with classes:=l } v':=by
 have hm:∀ (j:Nat) {α:Type} {d:Kd α} {e:Nat} {y:Value} {l:List α},j≠4→Kd.R d e w (SB+1) (okf SB w.heap.size own j) y l→Kd.R d e w1 (SB+1) (okf SB w1.heap.size (fun k=>if k<w.heap.size then own k else 4) j) y l:=fun j {α d e y l} hj hr =>
  Kd.R_mono (Kd.R_step (Kd.R_bound hr) (fun i hi hlt=>k.block i hlt (fun e=>by have h1:=hi.1.1;have h2:=lo.1;omega) (fun e=>by have h1:=hi.1.1;omega) (fun e=>by
   have h1:=(h.r4.1 i e.symm).2 hlt
   have h2:=hi.1.2 hlt
   exact hj (h2.symm.trans h1)))) (fun i hi=>⟨hi.1.1,fun _=>by show (if i<w.heap.size then own i else 4)=j;rw [if_pos hi.2.2.1];exact hi.1.2 hi.2.2.1⟩)
 exact ⟨fun k=>if k<w.heap.size then own k else 4,⟨v.v1,v.v2,v.v3,x,v.v5,v.v6,v.v7,v.v8⟩,hb,h.lm,hm 1 (by decide) h.r1,hm 2 (by decide) h.r2,hm 3 (by decide) h.r3,Kd.R_mono hr (fun k hk=>⟨hk.1,fun _=>by show (if k<w.heap.size then own k else 4)=4;split;exact hk.2 (by assumption);rfl⟩),hm 5 (by decide) h.r5,hm 6 (by decide) h.r6,hm 7 (by decide) h.r7,hm 8 (by decide) h.r8⟩
theorem StB.put5 {w w1:World} {V:Env} {SB:Nat} {own:Nat→Nat} {s:Stt} {v:Vs} {x:Value} {l:List S117} (h:StB w SB own s v) (lo:Lo V SB) (k:Did V SB v.v5.ownBlock w w1)
  (hb:w1.heap[SB]?=some (.cells #[.string s.title,v.v1,v.v2,v.v3,v.v4,x,v.v6,v.v7,v.v8] 32 (0,0))) (hr:Kd.R k117 117 w1 (SB+1) (okf SB w.heap.size own 5) x l):∃ own' v',StB w1 SB own' { s with sources:=l } v':=by
 have hm:∀ (j:Nat) {α:Type} {d:Kd α} {e:Nat} {y:Value} {l:List α},j≠5→Kd.R d e w (SB+1) (okf SB w.heap.size own j) y l→Kd.R d e w1 (SB+1) (okf SB w1.heap.size (fun k=>if k<w.heap.size then own k else 5) j) y l:=fun j {α d e y l} hj hr =>
  Kd.R_mono (Kd.R_step (Kd.R_bound hr) (fun i hi hlt=>k.block i hlt (fun e=>by have h1:=hi.1.1;have h2:=lo.1;omega) (fun e=>by have h1:=hi.1.1;omega) (fun e=>by
   have h1:=(h.r5.1 i e.symm).2 hlt
   have h2:=hi.1.2 hlt
   exact hj (h2.symm.trans h1)))) (fun i hi=>⟨hi.1.1,fun _=>by show (if i<w.heap.size then own i else 5)=j;rw [if_pos hi.2.2.1];exact hi.1.2 hi.2.2.1⟩)
 exact ⟨fun k=>if k<w.heap.size then own k else 5,⟨v.v1,v.v2,v.v3,v.v4,x,v.v6,v.v7,v.v8⟩,hb,h.lm,hm 1 (by decide) h.r1,hm 2 (by decide) h.r2,hm 3 (by decide) h.r3,hm 4 (by decide) h.r4,Kd.R_mono hr (fun k hk=>⟨hk.1,fun _=>by show (if k<w.heap.size then own k else 5)=5;split;exact hk.2 (by assumption);rfl⟩),hm 6 (by decide) h.r6,hm 7 (by decide) h.r7,hm 8 (by decide) h.r8⟩
theorem StB.put6 {w w1:World} {V:Env} {SB:Nat} {own:Nat→Nat} {s:Stt} {v:Vs} {x:Value} {l:List S93} (h:StB w SB own s v) (lo:Lo V SB) (k:Did V SB v.v6.ownBlock w w1)
  (hb:w1.heap[SB]?=some (.cells #[.string s.title,v.v1,v.v2,v.v3,v.v4,v.v5,x,v.v7,v.v8] 32 (0,0))) (hr:Kd.R k93 93 w1 (SB+1) (okf SB w.heap.size own 6) x l):∃ own' v',StB w1 SB own' { s with rules:=l } v':=by
 have hm:∀ (j:Nat) {α:Type} {d:Kd α} {e:Nat} {y:Value} {l:List α},j≠6→Kd.R d e w (SB+1) (okf SB w.heap.size own j) y l→Kd.R d e w1 (SB+1) (okf SB w1.heap.size (fun k=>if k<w.heap.size then own k else 6) j) y l:=fun j {α d e y l} hj hr =>
  Kd.R_mono (Kd.R_step (Kd.R_bound hr) (fun i hi hlt=>k.block i hlt (fun e=>by have h1:=hi.1.1;have h2:=lo.1;omega) (fun e=>by have h1:=hi.1.1;omega) (fun e=>by
   have h1:=(h.r6.1 i e.symm).2 hlt
   have h2:=hi.1.2 hlt
   exact hj (h2.symm.trans h1)))) (fun i hi=>⟨hi.1.1,fun _=>by show (if i<w.heap.size then own i else 6)=j;rw [if_pos hi.2.2.1];exact hi.1.2 hi.2.2.1⟩)
 exact ⟨fun k=>if k<w.heap.size then own k else 6,⟨v.v1,v.v2,v.v3,v.v4,v.v5,x,v.v7,v.v8⟩,hb,h.lm,hm 1 (by decide) h.r1,hm 2 (by decide) h.r2,hm 3 (by decide) h.r3,hm 4 (by decide) h.r4,hm 5 (by decide) h.r5,Kd.R_mono hr (fun k hk=>⟨hk.1,fun _=>by show (if k<w.heap.size then own k else 6)=6;split;exact hk.2 (by assumption);rfl⟩),hm 7 (by decide) h.r7,hm 8 (by decide) h.r8⟩
theorem StB.put7 {w w1:World} {V:Env} {SB:Nat} {own:Nat→Nat} {s:Stt} {v:Vs} {x:Value} {l:List S120} (h:StB w SB own s v) (lo:Lo V SB) (k:Did V SB v.v7.ownBlock w w1)
  (hb:w1.heap[SB]?=some (.cells #[.string s.title,v.v1,v.v2,v.v3,v.v4,v.v5,v.v6,x,v.v8] 32 (0,0))) (hr:Kd.R k120 120 w1 (SB+1) (okf SB w.heap.size own 7) x l):∃ own' v',StB w1 SB own' { s with excepts:=l } v':=by
 have hm:∀ (j:Nat) {α:Type} {d:Kd α} {e:Nat} {y:Value} {l:List α},j≠7→Kd.R d e w (SB+1) (okf SB w.heap.size own j) y l→Kd.R d e w1 (SB+1) (okf SB w1.heap.size (fun k=>if k<w.heap.size then own k else 7) j) y l:=fun j {α d e y l} hj hr =>
  Kd.R_mono (Kd.R_step (Kd.R_bound hr) (fun i hi hlt=>k.block i hlt (fun e=>by have h1:=hi.1.1;have h2:=lo.1;omega) (fun e=>by have h1:=hi.1.1;omega) (fun e=>by
   have h1:=(h.r7.1 i e.symm).2 hlt
   have h2:=hi.1.2 hlt
   exact hj (h2.symm.trans h1)))) (fun i hi=>⟨hi.1.1,fun _=>by show (if i<w.heap.size then own i else 7)=j;rw [if_pos hi.2.2.1];exact hi.1.2 hi.2.2.1⟩)
 exact ⟨fun k=>if k<w.heap.size then own k else 7,⟨v.v1,v.v2,v.v3,v.v4,v.v5,v.v6,x,v.v8⟩,hb,h.lm,hm 1 (by decide) h.r1,hm 2 (by decide) h.r2,hm 3 (by decide) h.r3,hm 4 (by decide) h.r4,hm 5 (by decide) h.r5,hm 6 (by decide) h.r6,Kd.R_mono hr (fun k hk=>⟨hk.1,fun _=>by show (if k<w.heap.size then own k else 7)=7;split;exact hk.2 (by assumption);rfl⟩),hm 8 (by decide) h.r8⟩
theorem StB.put8 {w w1:World} {V:Env} {SB:Nat} {own:Nat→Nat} {s:Stt} {v:Vs} {x:Value} {l:List S104} (h:StB w SB own s v) (lo:Lo V SB) (k:Did V SB v.v8.ownBlock w w1)
  (hb:w1.heap[SB]?=some (.cells #[.string s.title,v.v1,v.v2,v.v3,v.v4,v.v5,v.v6,v.v7,x] 32 (0,0))) (hr:Kd.R k104 104 w1 (SB+1) (okf SB w.heap.size own 8) x l):∃ own' v',StB w1 SB own' { s with totals:=l } v':=by
 have hm:∀ (j:Nat) {α:Type} {d:Kd α} {e:Nat} {y:Value} {l:List α},j≠8→Kd.R d e w (SB+1) (okf SB w.heap.size own j) y l→Kd.R d e w1 (SB+1) (okf SB w1.heap.size (fun k=>if k<w.heap.size then own k else 8) j) y l:=fun j {α d e y l} hj hr =>
  Kd.R_mono (Kd.R_step (Kd.R_bound hr) (fun i hi hlt=>k.block i hlt (fun e=>by have h1:=hi.1.1;have h2:=lo.1;omega) (fun e=>by have h1:=hi.1.1;omega) (fun e=>by
   have h1:=(h.r8.1 i e.symm).2 hlt
   have h2:=hi.1.2 hlt
   exact hj (h2.symm.trans h1)))) (fun i hi=>⟨hi.1.1,fun _=>by show (if i<w.heap.size then own i else 8)=j;rw [if_pos hi.2.2.1];exact hi.1.2 hi.2.2.1⟩)
 exact ⟨fun k=>if k<w.heap.size then own k else 8,⟨v.v1,v.v2,v.v3,v.v4,v.v5,v.v6,v.v7,x⟩,hb,h.lm,hm 1 (by decide) h.r1,hm 2 (by decide) h.r2,hm 3 (by decide) h.r3,hm 4 (by decide) h.r4,hm 5 (by decide) h.r5,hm 6 (by decide) h.r6,hm 7 (by decide) h.r7,Kd.R_mono hr (fun k hk=>⟨hk.1,fun _=>by show (if k<w.heap.size then own k else 8)=8;split;exact hk.2 (by assumption);rfl⟩)⟩
def PostS (V:Env) (SB:Nat) (w:World) (r:Res Stt) (e:Ending) (w':World):Prop:=match r with
 | .ok s q=>e=.returned (.tuple #[])∧Rd w' V q∧(∃ own v,StB w' SB own s v)∧Keep (oursS V SB) w w'
 | .bad er a=>e=.panicked (flt er a)∧Keep (oursS V SB) w w'
end Sx
structure Sx.Bs (w X:World) (V:Env) (p q SB:Nat) (own:Nat→Nat) (s:Stt) (v:Vs):Prop where
 h0:Rd w V p
 lo:Lo V SB
 st:StB w SB own s v
 rd:Rd X V q
 keep:Keep (ours V) w X
namespace Sx.Bs
variable {w X X2 W:World} {V:Env} {p q q2 SB:Nat} {own:Nat→Nat} {s:Stt} {v:Vs}
theorem call (h:Bs w X V p q SB own s v) (hr:Rd X2 V q2) (hk:Keep (ours V) X X2):Bs w X2 V p q2 SB own s v:=⟨h.h0,h.lo,h.st,hr,h.keep.trans hk (fun _ _ h=>h)⟩
theorem alloc (h:Bs w X V p q SB own s v) (o:Obj):Bs w (X.alloc o) V p q SB own s v :=
 h.call (h.rd.below ((Below.refl _ X).alloc (Nat.le_refl _) _)) (Keep.of_below ((Below.refl _ X).alloc (Nat.le_refl _) _))
theorem drew (h:Bs w X V p q SB own s v):Bs w X.drew V p q SB own s v:=h.call (h.rd.below (Below.refl _ X).drew) (Keep.of_below (Below.refl _ X).drew)
theorem far (h:Bs w X V p q SB own s v) {c:Nat} (hc:w.heap.size≤c) (hn:c≠SB) (j:Nat) (u:Value):Bs w (X.setCell ⟨c,j,none⟩ u) V p q SB own s v:=by
 have hb:Below w.heap.size X (X.setCell ⟨c,j,none⟩ u):=(Below.mono (Below.refl _ X) h.keep.size).setCell (p:=⟨c,j,none⟩) hc u
 exact ⟨h.h0,h.lo,h.st,rd_over h.h0 h.rd hb,keep_over h.keep hb⟩
theorem lt (h:Bs w X V p q SB own s v):SB<w.heap.size:=h.st.lt
theorem blk (h:Bs w X V p q SB own s v):X.heap[SB]?=some (.cells #[.string s.title,v.v1,v.v2,v.v3,v.v4,v.v5,v.v6,v.v7,v.v8] 32 (0,0)) :=
 (h.keep.block SB h.st.lt (fun e=>by unfold ours at e;have h2:=h.lo.1;omega)).trans h.st.blk
theorem row {α:Type} {d:Kd α} {e j:Nat} {x:Value} {l:List α} (h:Bs w X V p q SB own s v) (hr:Kd.R d e w (SB+1) (okf SB w.heap.size own j) x l):Kd.R d e X (SB+1) (okf SB w.heap.size own j) x l :=
 Kd.R_step hr (fun i hi hlt=>h.keep.block i hlt (fun e=>by unfold ours at e;have h1:=hi.1;have h2:=h.lo.1;omega))
theorem fresh (h:Bs w X V p q SB own s v) (j:Nat):∀ k,X.heap.size≤k→okf SB w.heap.size own j k:=fun k hk=>⟨by have:=h.st.lt;have:=h.keep.size;omega,fun hn=>by have:=h.keep.size;omega⟩
theorem okn {α:Type} {d:Kd α} {e j:Nat} {x:Value} {l:List α} (h:Bs w X V p q SB own s v) (hr:Kd.R d e w (SB+1) (okf SB w.heap.size own j) x l):∀ k,w.heap.size≤k→okf SB w.heap.size own j k∧some k≠x.ownBlock :=
 fun k hk=>⟨⟨by have:=h.st.lt;omega,fun hn=>by omega⟩,fun e=>by have h1:=Kd.R_lt hr k e.symm;omega⟩
theorem base (h:Bs w X V p q SB own s v):SB+1≤X.heap.size:=by have:=h.st.lt;have:=h.keep.size;omega
theorem did {row:Option Nat} {w3:World} (h:Bs w X V p q SB own s v) (hg:X.grownBy w3 row) (j:Nat) (u:Value):Did V SB row w (w3.setCell ⟨SB,j,none⟩ u):=by
 have k:=h.keep
 refine ⟨hg.os.trans k.os,hg.tape.trans k.tape,hg.output.trans k.output,?_,fun i hi h1 h2 h3=>?_⟩
 ·have h1:=k.size
  have h2:=hg.size
  rw [show (w3.setCell ⟨SB,j,none⟩ u).heap.size=w3.heap.size from World.size_setCell _ _ _]
  omega
 ·rw [Below.heap_setCell w3 ⟨SB,j,none⟩ u i h2,hg.block i (by have:=k.size;omega) h3]
  exact k.block i hi (fun e=>by unfold ours at e;omega)
theorem rd3 {w3:World} (h:Bs w X V p q SB own s v) (hb:Below (SB+1) X w3) (j:Nat) (u:Value):Rd (w3.setCell ⟨SB,j,none⟩ u) V q :=
 h.rd.up h.lo (fun k hk=>(Below.heap_setCell w3 ⟨SB,j,none⟩ u k (by simp only;omega)).trans (hb.block k (by omega)))
theorem fin1 {w3:World} {x:Value} {l:List ByteArray} (h:Bs w X V p q SB own s v) (hs:Kd.R Kd.string 9 w3 (SB+1) (okf SB w.heap.size own 1) x l) (hb:Below (SB+1) X w3) (hg:X.grownBy w3 v.v1.ownBlock) :
  Rd (w3.setCell ⟨SB,1,none⟩ x) V q∧(∃ own' v',StB (w3.setCell ⟨SB,1,none⟩ x) SB own' { s with kinds:=l } v')∧Keep (oursS V SB) w (w3.setCell ⟨SB,1,none⟩ x) :=
 ⟨h.rd3 hb 1 x,StB.put1 h.st h.lo (h.did hg 1 x) (heap_setCell_same ((hb.block SB (Nat.lt_succ_self _)).trans h.blk) 1 x) (Kd.R_far hs (p:=⟨SB,1,none⟩) (fun k hk=>by have h1:=hk.1;simp only;omega) x),
  (h.did hg 1 x).keep (fun k hk=>Nat.le_of_lt (h.st.r1.1 k hk).1)⟩
theorem fin3 {w3:World} {x:Value} {l:List S85} (h:Bs w X V p q SB own s v) (hs:Kd.R k85 85 w3 (SB+1) (okf SB w.heap.size own 3) x l) (hb:Below (SB+1) X w3) (hg:X.grownBy w3 v.v3.ownBlock) :
  Rd (w3.setCell ⟨SB,3,none⟩ x) V q∧(∃ own' v',StB (w3.setCell ⟨SB,3,none⟩ x) SB own' { s with preds:=l } v')∧Keep (oursS V SB) w (w3.setCell ⟨SB,3,none⟩ x) :=
 ⟨h.rd3 hb 3 x,StB.put3 h.st h.lo (h.did hg 3 x) (heap_setCell_same ((hb.block SB (Nat.lt_succ_self _)).trans h.blk) 3 x) (Kd.R_far hs (p:=⟨SB,3,none⟩) (fun k hk=>by have h1:=hk.1;simp only;omega) x),
  (h.did hg 3 x).keep (fun k hk=>Nat.le_of_lt (h.st.r3.1 k hk).1)⟩
theorem fin4 {w3:World} {x:Value} {l:List (List ByteArray)} (h:Bs w X V p q SB own s v) (hs:Kd.R (Kd.slice 9 Kd.string) 23 w3 (SB+1) (okf SB w.heap.size own 4) x l) (hb:Below (SB+1) X w3) (hg:X.grownBy w3 v.v4.ownBlock) :
  Rd (w3.setCell ⟨SB,4,none⟩ x) V q∧(∃ own' v',StB (w3.setCell ⟨SB,4,none⟩ x) SB own' { s with classes:=l } v')∧Keep (oursS V SB) w (w3.setCell ⟨SB,4,none⟩ x) :=
 ⟨h.rd3 hb 4 x,StB.put4 h.st h.lo (h.did hg 4 x) (heap_setCell_same ((hb.block SB (Nat.lt_succ_self _)).trans h.blk) 4 x) (Kd.R_far hs (p:=⟨SB,4,none⟩) (fun k hk=>by have h1:=hk.1;simp only;omega) x),
  (h.did hg 4 x).keep (fun k hk=>Nat.le_of_lt (h.st.r4.1 k hk).1)⟩
theorem fin5 {w3:World} {x:Value} {l:List S117} (h:Bs w X V p q SB own s v) (hs:Kd.R k117 117 w3 (SB+1) (okf SB w.heap.size own 5) x l) (hb:Below (SB+1) X w3) (hg:X.grownBy w3 v.v5.ownBlock) :
  Rd (w3.setCell ⟨SB,5,none⟩ x) V q∧(∃ own' v',StB (w3.setCell ⟨SB,5,none⟩ x) SB own' { s with sources:=l } v')∧Keep (oursS V SB) w (w3.setCell ⟨SB,5,none⟩ x) :=
 ⟨h.rd3 hb 5 x,StB.put5 h.st h.lo (h.did hg 5 x) (heap_setCell_same ((hb.block SB (Nat.lt_succ_self _)).trans h.blk) 5 x) (Kd.R_far hs (p:=⟨SB,5,none⟩) (fun k hk=>by have h1:=hk.1;simp only;omega) x),
  (h.did hg 5 x).keep (fun k hk=>Nat.le_of_lt (h.st.r5.1 k hk).1)⟩
theorem fin6 {w3:World} {x:Value} {l:List S93} (h:Bs w X V p q SB own s v) (hs:Kd.R k93 93 w3 (SB+1) (okf SB w.heap.size own 6) x l) (hb:Below (SB+1) X w3) (hg:X.grownBy w3 v.v6.ownBlock) :
  Rd (w3.setCell ⟨SB,6,none⟩ x) V q∧(∃ own' v',StB (w3.setCell ⟨SB,6,none⟩ x) SB own' { s with rules:=l } v')∧Keep (oursS V SB) w (w3.setCell ⟨SB,6,none⟩ x) :=
 ⟨h.rd3 hb 6 x,StB.put6 h.st h.lo (h.did hg 6 x) (heap_setCell_same ((hb.block SB (Nat.lt_succ_self _)).trans h.blk) 6 x) (Kd.R_far hs (p:=⟨SB,6,none⟩) (fun k hk=>by have h1:=hk.1;simp only;omega) x),
  (h.did hg 6 x).keep (fun k hk=>Nat.le_of_lt (h.st.r6.1 k hk).1)⟩
theorem fin7 {w3:World} {x:Value} {l:List S120} (h:Bs w X V p q SB own s v) (hs:Kd.R k120 120 w3 (SB+1) (okf SB w.heap.size own 7) x l) (hb:Below (SB+1) X w3) (hg:X.grownBy w3 v.v7.ownBlock) :
  Rd (w3.setCell ⟨SB,7,none⟩ x) V q∧(∃ own' v',StB (w3.setCell ⟨SB,7,none⟩ x) SB own' { s with excepts:=l } v')∧Keep (oursS V SB) w (w3.setCell ⟨SB,7,none⟩ x) :=
 ⟨h.rd3 hb 7 x,StB.put7 h.st h.lo (h.did hg 7 x) (heap_setCell_same ((hb.block SB (Nat.lt_succ_self _)).trans h.blk) 7 x) (Kd.R_far hs (p:=⟨SB,7,none⟩) (fun k hk=>by have h1:=hk.1;simp only;omega) x),
  (h.did hg 7 x).keep (fun k hk=>Nat.le_of_lt (h.st.r7.1 k hk).1)⟩
theorem fin8 {w3:World} {x:Value} {l:List S104} (h:Bs w X V p q SB own s v) (hs:Kd.R k104 104 w3 (SB+1) (okf SB w.heap.size own 8) x l) (hb:Below (SB+1) X w3) (hg:X.grownBy w3 v.v8.ownBlock) :
  Rd (w3.setCell ⟨SB,8,none⟩ x) V q∧(∃ own' v',StB (w3.setCell ⟨SB,8,none⟩ x) SB own' { s with totals:=l } v')∧Keep (oursS V SB) w (w3.setCell ⟨SB,8,none⟩ x) :=
 ⟨h.rd3 hb 8 x,StB.put8 h.st h.lo (h.did hg 8 x) (heap_setCell_same ((hb.block SB (Nat.lt_succ_self _)).trans h.blk) 8 x) (Kd.R_far hs (p:=⟨SB,8,none⟩) (fun k hk=>by have h1:=hk.1;simp only;omega) x),
  (h.did hg 8 x).keep (fun k hk=>Nat.le_of_lt (h.st.r8.1 k hk).1)⟩
end Sx.Bs
structure Sx.Sn (w:World) (sb:Nat) (s:ByteArray) (p:Nat) (l:List S48) (rm:List ByteArray) (er pl:Int) (tv rv:Value):Prop where
 blk:w.heap[sb]?=some (.cells #[.string s,.int .i64 p,tv,rv,.int .i64 er,.int .i64 pl] 108 (0,0))
 rt:Kd.R k48 48 w (sb+1) (fun k=>sb<k) tv l
 rr:Kd.R Kd.string 9 w (sb+1) (fun k=>sb<k) rv rm
 z:s.size≤65536
 le:p≤s.size
 nt:l.length≤p
 nr:rm.length≤p
namespace Sx.Sn
variable {w w1:World} {sb:Nat} {s:ByteArray} {p:Nat} {l:List S48} {rm:List ByteArray} {er pl:Int} {tv rv:Value}
theorem lt (h:Sn w sb s p l rm er pl tv rv):sb<w.heap.size:=blk_lt h.blk
theorem below (h:Sn w sb s p l rm er pl tv rv) (b:Below w.heap.size w w1):Sn w1 sb s p l rm er pl tv rv :=
 ⟨(b.block sb h.lt).trans h.blk,Kd.R_below h.rt b,Kd.R_below h.rr b,h.z,h.le,h.nt,h.nr⟩
theorem set (h:Sn w sb s p l rm er pl tv rv) (j:Nat) (v:Value):Kd.R k48 48 (w.setCell ⟨sb,j,none⟩ v) (sb+1) (fun k=>sb<k) tv l∧Kd.R Kd.string 9 (w.setCell ⟨sb,j,none⟩ v) (sb+1) (fun k=>sb<k) rv rm :=
 ⟨Kd.R_far h.rt (p:=⟨sb,j,none⟩) (fun k hk=>Nat.ne_of_gt hk) v,Kd.R_far h.rr (p:=⟨sb,j,none⟩) (fun k hk=>Nat.ne_of_gt hk) v⟩
theorem goTo (h:Sn w sb s p l rm er pl tv rv) (q:Nat) (hq:q≤s.size) (hpq:p≤q):Sn (w.setCell ⟨sb,1,none⟩ (.int .i64 q)) sb s q l rm er pl tv rv :=
 ⟨heap_setCell_same h.blk 1 _,(h.set 1 _).1,(h.set 1 _).2,h.z,hq,Nat.le_trans h.nt hpq,Nat.le_trans h.nr hpq⟩
theorem err (h:Sn w sb s p l rm er pl tv rv) (e a:Int):Sn ((w.setCell ⟨sb,4,none⟩ (.int .i64 e)).setCell ⟨sb,5,none⟩ (.int .i64 a)) sb s p l rm e a tv rv:=by
 have h1:Sn (w.setCell ⟨sb,4,none⟩ (.int .i64 e)) sb s p l rm e pl tv rv:=⟨heap_setCell_same h.blk 4 _,(h.set 4 _).1,(h.set 4 _).2,h.z,h.le,h.nt,h.nr⟩
 exact ⟨heap_setCell_same h1.blk 5 _,(h1.set 5 _).1,(h1.set 5 _).2,h.z,h.le,h.nt,h.nr⟩
end Sx.Sn
def Sx.sF (sb:Nat):Nat→Prop:=fun k=>sb≤k
theorem Sx.keep_set {sb j:Nat} {w:World} (v:Value):Keep (sF sb) w (w.setCell ⟨sb,j,none⟩ v):=Keep.setCell (F:=sF sb) (Keep.refl _ _) (p:=⟨sb,j,none⟩) (fun _=>Nat.le_refl _) _
theorem fail_calls (sb:Nat) (s:ByteArray) (p:Nat) (l:List S48) (rm:List ByteArray) (er pl:Int) (tv rv:Value) (e a:Int) (w:World) (h:Sn w sb s p l rm er pl tv rv) :
  Calls Tryz.prog 51 #[.pointer (some ⟨sb,0,none⟩),.int .i64 e,.int .i64 a] w fun x w'=>x=.returned (.bool false)∧Sn w' sb s p l rm e a tv rv∧Keep (sF sb) w w':=by
 have HS:=Lib.hid h
 have y4:=blk_cell (v:=.int .i64 er) h.blk 4 rfl
 have y5:=blk_cell (v:=.int .i64 pl) h.blk 5 rfl
 have f4:=blk_free h.blk 4
 have f5:=blk_free h.blk 5
 clear h
 go_enter Tryz.func51,Tryz.ntmps51
 go_wp2_with fail
 go_ret
 exact ⟨rfl,HS.out.err e a,(keep_set _).trans (keep_set _) (fun _ _ h=>h)⟩
theorem blank_calls (sb:Nat) (s:ByteArray) (p:Nat) (l:List S48) (rm:List ByteArray) (er pl:Int) (tv rv:Value) (hp:p<s.size) (w:World) (h:Sn w sb s p l rm er pl tv rv) :
  Calls Tryz.prog 76 #[.pointer (some ⟨sb,0,none⟩)] w fun x w'=>x=.returned (.bool true)∧Sn w' sb s (p+1) l rm er pl tv rv∧Keep (sF sb) w w':=by
 have HS:=Lib.hid h
 have HP:=Lib.hid hp
 have y1:=blk_cell (v:=.int .i64 p) h.blk 1 rfl
 have f1:=blk_free h.blk 1
 have wz:IntKind.i64.wrap ((p:Int)+1)=((p+1:Nat):Int):=by have h1:=h.z;rw [IntWalk.i64_in _ (by omega)];omega
 clear h hp
 go_enter Tryz.func76,Tryz.ntmps76
 go_wp2_with fail
 go_ret
 exact ⟨rfl,HS.out.goTo (p+1) HP.out (Nat.le_succ p),keep_set _⟩
end Go.Proofs.YtcakgennlliejaaGreatDoor
namespace Go.Proofs.YtcakgennlliejaaGreatDoor
open Go.Shelf Go.RowKit Go.Lib
open Go.Proofs.YtcakgennlliejaaGreatDoorW.PrintWords
open Go.Proofs.YtcakgennlliejaaGreatDoor.PSyntaxJoined
set_option linter.unusedVariables false
set_option linter.unusedSimpArgs false
namespace Sx
inductive Stp where
 | go (q:Nat)
 | rem (r:ByteArray) (q:Nat)
 | tok (t:S48) (q:Nat)
 | jam (t:S48) (q:Nat)
 | no (e:Int) (a:Nat)
namespace Stp
def ok:Stp→Bool
 | .go _ | .rem _ _ | .tok _ _=>true
 | .jam _ _ | .no _ _=>false
def q (p:Nat):Stp→Nat
 | .go q | .rem _ q | .tok _ q | .jam _ q=>q
 | .no _ _=>p
def l (l:List S48):Stp→List S48
 | .tok t _ | .jam t _=>l++[t]
 | _=>l
def rm (l:List ByteArray):Stp→List ByteArray
 | .rem r _=>l++[r]
 | _=>l
def er (e:Int):Stp→Int
 | .jam _ _=>41
 | .no e _=>e
 | _=>e
def pl (a:Int):Stp→Int
 | .jam _ q=>q
 | .no _ a=>a
 | _=>a
end Stp
def good8 (g:Int→Bool) (c:UInt8):Bool:=g (cls c.toNat)
def runN (g:Int→Bool) (l:List UInt8):Nat:=(l.takeWhile (good8 g)).length
def jamL:List UInt8→Bool
 | []=>false
 | c::_=>isVr (cls c.toNat)
def putS (k:Int) (n:Nat) (l:List UInt8) (p:Nat):Stp :=
 if jamL (l.drop n) then .jam ⟨k,⟨(l.take n).toArray⟩,p⟩ (p+n) else .tok ⟨k,⟨(l.take n).toArray⟩,p⟩ (p+n)
def wordS (k:Int) (g:Int→Bool) (l:List UInt8) (p:Nat):Stp:=if 32<runN g l then .no 5 p else putS k (runN g l) l p
def dg8 (c:UInt8):Bool:=isDig (cls c.toNat)
def datF:Nat→List UInt8→Bool
 | 0,_=>true
 | _+1,[]=>false
 | n+1,c::l=>(if n=5∨n=2 then c==45 else dg8 c)&&datF n l
def datedL (l:List UInt8):Bool:=datF 10 l
def numN (l:List UInt8):Nat:=match l.drop (runN isDig l) with
 | c::d::r=>if c==46&&dg8 d then runN isDig l+1+runN isDig (d::r) else runN isDig l
 | _=>runN isDig l
def numberS (l:List UInt8) (p:Nat):Stp:=if datedL l then putS 4 10 l p else putS 3 (numN l) l p
def inQ (c:UInt8):Bool:=!(c==34||c==10)
def quoteS (r:List UInt8) (p:Nat):Stp:=match r.drop (r.takeWhile inQ).length with
 | c::_=>if c==34 then .tok ⟨5,⟨(r.takeWhile inQ).toArray⟩,p⟩ (p+(r.takeWhile inQ).length+2) else .no 42 p
 | []=>.no 42 p
def inLine (c:UInt8):Bool:=!(c==10)
def remarkS (r:List UInt8) (p:Nat):Stp:=.rem ⟨(r.takeWhile inLine).toArray⟩ (p+1+(r.takeWhile inLine).length)
def marks8:List (List UInt8):=[[45,62],[61,62],[126,62],[33,61],[60,61],[62,61],[61,61],[60,62],[60],[62],[40],[41],[123],[125],[44],[46],[58],[61],[45],[43],[42]]
def markL (l:List UInt8) (p:Nat):List (List UInt8)→Stp
 | []=>.no 41 p
 | m::ms=>if m.isPrefixOf l then .tok ⟨6,⟨m.toArray⟩,p⟩ (p+m.length) else markL l p ms
def markS (l:List UInt8) (p:Nat):Stp:=markL l p marks8
def step:List UInt8→Nat→Stp
 | [],p=>.no 0 p
 | c::r,p =>
  if cls c.toNat=1 then .go (p+1)
  else if cls c.toNat=2 then wordS 1 isNm (c::r) p
  else if cls c.toNat=3 then wordS 2 isVr (c::r) p
  else if cls c.toNat=4 then numberS (c::r) p
  else if c==34 then quoteS r p
  else if c==35 then remarkS r p
  else markS (c::r) p
structure Lx where
 l:List S48
 e:Int
 at_:Int
def lexM:Nat→List UInt8→Nat→List S48→Lx
 | 0,_,p,l=>⟨l,0,p⟩
 | n+1,r,p,l=>if r=[] then ⟨l,0,p⟩ else match step r p with
  | .go q=>lexM n (r.drop (q-p)) q l
  | .rem _ q=>lexM n (r.drop (q-p)) q l
  | .tok t q=>lexM n (r.drop (q-p)) q (l++[t])
  | .jam _ q=>⟨[],41,q⟩
  | .no e a=>⟨[],e,a⟩
def lex (s:ByteArray):Lx:=if 65536<s.size then ⟨[],5,0⟩ else lexM s.size s.data.toList 0 []
theorem runN_le (g:Int→Bool) (l:List UInt8):runN g l≤l.length:=(List.takeWhile_sublist _).length_le
theorem runN_cons (g:Int→Bool) (c:UInt8) (l:List UInt8):runN g (c::l)=if g (cls c.toNat) then runN g l+1 else 0:=by
 unfold runN
 rw [List.takeWhile_cons]
 show (if good8 g c then _ else _:List UInt8).length=_
 unfold good8
 split <;> rfl
theorem numN_le (l:List UInt8):numN l≤l.length:=by
 unfold numN
 have h1:=runN_le isDig l
 split
 ·rename_i c d r h
  have h2:=runN_le isDig (d::r)
  have h3:=congrArg List.length h
  rw [List.length_drop] at h3
  simp only [List.length_cons] at h3 h2
  split <;> omega
 ·exact h1
theorem numN_pos {c:UInt8} {r:List UInt8} (h:isDig (cls c.toNat)=true):0<numN (c::r):=by
 have h1:0<runN isDig (c::r):=by rw [runN_cons,h];simp
 unfold numN
 split
 ·split <;> omega
 ·exact h1
theorem datF_len:∀ {n:Nat} {l:List UInt8},datF n l=true→n≤l.length
 | 0,_,_=>Nat.zero_le _
 | _+1,[],h=>by cases h
 | n+1,c::l,h=>by
  have h2:((if n=5∨n=2 then c==45 else dg8 c)&&datF n l)=true:=h
  rw [Bool.and_eq_true] at h2
  exact Nat.succ_le_succ (datF_len h2.2)
theorem datedL_len {l:List UInt8} (h:datedL l=true):10≤l.length:=datF_len h
theorem markL_len {l:List UInt8} {p:Nat}:∀ {ms:List (List UInt8)},(∀ m∈ms,m≠[])→(∃ m,m≠[]∧m.isPrefixOf l=true∧m∈ms∧markL l p ms=.tok ⟨6,⟨m.toArray⟩,p⟩ (p+m.length))∨markL l p ms=.no 41 p
 | [],_=>.inr rfl
 | m::ms,h=>by
  unfold markL
  cases hm:m.isPrefixOf l
  ·rcases markL_len (l:=l) (p:=p) (ms:=ms) (fun x hx=>h x (List.mem_cons_of_mem _ hx)) with ⟨x,a,b,c,d⟩ | e
   ·exact .inl ⟨x,a,b,List.mem_cons_of_mem _ c,by rw [if_neg (by simp)];exact d⟩
   ·exact .inr (by rw [if_neg (by simp)];exact e)
  ·exact .inl ⟨m,h m (List.mem_cons_self),hm,List.mem_cons_self,by rw [if_pos rfl]⟩
theorem prefix_len:∀ {m l:List UInt8},m.isPrefixOf l=true→m.length≤l.length
 | [],_,_=>Nat.zero_le _
 | _::_,[],h=>by cases h
 | a::m,b::l,h=>by
  have h2:(a==b&&m.isPrefixOf l)=true:=h
  rw [Bool.and_eq_true] at h2
  exact Nat.succ_le_succ (prefix_len h2.2)
def Fit (n p:Nat):Stp→Prop
 | .go q=>p<q∧q≤p+n
 | .rem r q=>p<q∧q≤p+n∧r.size≤n
 | .tok t q=>p<q∧q≤p+n∧t.f1.size≤n∧t.f2=p
 | .jam t q=>p<q∧q≤p+n∧t.f1.size≤n∧t.f2=p
 | .no e a=>e≠0∧a≤p+n
theorem size_take (l:List UInt8) (n:Nat):(⟨(l.take n).toArray⟩:ByteArray).size≤l.length:=by
 show (l.take n).toArray.size≤_
 rw [List.size_toArray,List.length_take];omega
theorem putS_fit {k:Int} {n:Nat} {l:List UInt8} {p:Nat} (h1:0<n) (h2:n≤l.length):Fit l.length p (putS k n l p):=by
 unfold putS
 have h3:=size_take l n
 split
 ·exact ⟨by omega,by omega,h3,rfl⟩
 ·exact ⟨by omega,by omega,h3,rfl⟩
theorem takeWhile_le (f:UInt8→Bool) (l:List UInt8):(l.takeWhile f).length≤l.length:=(List.takeWhile_sublist _).length_le
theorem step_cons (c:UInt8) (r:List UInt8) (p:Nat):step (c::r) p=if cls c.toNat=1 then .go (p+1)
  else if cls c.toNat=2 then wordS 1 isNm (c::r) p
  else if cls c.toNat=3 then wordS 2 isVr (c::r) p
  else if cls c.toNat=4 then numberS (c::r) p
  else if c==34 then quoteS r p
  else if c==35 then remarkS r p
  else markS (c::r) p:=rfl
theorem step_fit:∀ {l:List UInt8} {p:Nat},l≠[]→Fit l.length p (step l p)
 | [],_,h=>absurd rfl h
 | c::r,p,_=>by
  rw [step_cons]
  have hl:(c::r).length=r.length+1:=rfl
  have word:∀ (k:Int) (g:Int→Bool),g (cls c.toNat)=true→Fit (c::r).length p (wordS k g (c::r) p):=by
   intro k g hg
   unfold wordS
   split
   ·exact ⟨by decide,by omega⟩
   ·exact putS_fit (by rw [runN_cons,hg];simp) (runN_le _ _)
  split
  ·exact ⟨Nat.lt_succ_self p,by rw [hl];omega⟩
  split
  ·rename_i h;exact word 1 isNm (by rw [h];rfl)
  split
  ·rename_i h;exact word 2 isVr (by rw [h];rfl)
  split
  ·rename_i h
   unfold numberS
   split
   ·rename_i hd;exact putS_fit (by omega) (datedL_len hd)
   ·exact putS_fit (numN_pos (by rw [h];rfl)) (numN_le _)
  split
  ·unfold quoteS
   have h1:=takeWhile_le inQ r
   split
   ·rename_i x y hx
    have h2:=congrArg List.length hx
    rw [List.length_drop] at h2
    simp only [List.length_cons] at h2
    split
    ·refine ⟨by omega,by omega,?_,rfl⟩
     show (r.takeWhile inQ).toArray.size≤_
     rw [List.size_toArray];omega
    ·exact ⟨by decide,by omega⟩
   ·exact ⟨by decide,by omega⟩
  split
  ·unfold remarkS
   have h1:=takeWhile_le inLine r
   refine ⟨by omega,by omega,?_⟩
   show (r.takeWhile inLine).toArray.size≤_
   rw [List.size_toArray];omega
  ·unfold markS
   rcases markL_len (l:=c::r) (p:=p) (ms:=marks8) (by decide) with ⟨m,hm,hp,_,he⟩ | he
   ·rw [he]
    have h1:=prefix_len hp
    have h2:=List.length_pos_iff.2 hm
    refine ⟨by omega,by omega,?_,rfl⟩
    show m.toArray.size≤_
    rw [List.size_toArray];exact h1
   ·rw [he];exact ⟨by decide,by omega⟩
structure Sound (N:Nat) (X:Lx):Prop where
 n:X.l.length≤N
 z:∀ x∈X.l,x.f1.size≤N∧0≤x.f2∧x.f2≤N
 bad:X.e≠0→X.l=[]∧0≤X.at_∧X.at_≤N
 ok:X.e=0→X.at_=N
theorem lexM_sound (N:Nat):∀ (n:Nat) (r:List UInt8) (p:Nat) (l:List S48),p+r.length=N→r.length≤n→l.length≤p→(∀ x∈l,x.f1.size≤N∧0≤x.f2∧x.f2≤N)→Sound N (lexM n r p l)
 | 0,r,p,l,h1,h2,h3,h4=>⟨by show l.length≤N;omega,h4,fun e=>absurd rfl e,fun _=>by show (p:Int)=N;omega⟩
 | n+1,r,p,l,h1,h2,h3,h4=>by
  unfold lexM
  by_cases hr:r=[]
  ·rw [if_pos hr]
   subst hr
   exact ⟨by show l.length≤N;omega,h4,fun e=>absurd rfl e,fun _=>by show (p:Int)=N;simp only [List.length_nil] at h1;omega⟩
  ·rw [if_neg hr]
   have hf:=step_fit (p:=p) hr
   cases hs:step r p with
   | go q =>
    rw [hs] at hf
    have h5:=hf.1;have h6:=hf.2
    exact lexM_sound N n _ q l (by rw [List.length_drop];omega) (by rw [List.length_drop];omega) (by omega) h4
   | rem b q =>
    rw [hs] at hf
    have h5:=hf.1;have h6:=hf.2.1
    exact lexM_sound N n _ q l (by rw [List.length_drop];omega) (by rw [List.length_drop];omega) (by omega) h4
   | tok t q =>
    rw [hs] at hf
    have h5:=hf.1;have h6:=hf.2.1;have h7:=hf.2.2
    refine lexM_sound N n _ q _ (by rw [List.length_drop];omega) (by rw [List.length_drop];omega) (by rw [List.length_append,List.length_singleton];omega) (fun x hx=>?_)
    rcases List.mem_append.1 hx with hx | hx
    ·exact h4 x hx
    ·rw [List.mem_singleton.1 hx]
     have h8:=h7.1
     exact ⟨by omega,by rw [h7.2];omega,by rw [h7.2];omega⟩
   | jam t q =>
    rw [hs] at hf
    have h5:=hf.1;have h6:=hf.2.1
    show Sound N (⟨[],41,q⟩:Lx)
    exact ⟨Nat.zero_le _,fun _ h=>(by cases h),fun _=>⟨rfl,by show (0:Int)≤q;omega,by show (q:Int)≤N;omega⟩,fun h=>(by cases h)⟩
   | no e a =>
    rw [hs] at hf
    have h6:=hf.2
    show Sound N (⟨[],e,a⟩:Lx)
    exact ⟨Nat.zero_le _,fun _ h=>(by cases h),fun _=>⟨rfl,by show (0:Int)≤a;omega,by show (a:Int)≤N;omega⟩,fun h=>absurd h hf.1⟩
theorem lex_sound (s:ByteArray):Sound s.size (lex s):=by
 unfold lex
 by_cases h:65536<s.size
 ·rw [if_pos h]
  exact ⟨Nat.zero_le _,fun _ h=>(by cases h),fun _=>⟨rfl,by decide,by show (0:Int)≤s.size;omega⟩,fun h=>(by cases h)⟩
 ·rw [if_neg h]
  have hl:s.data.toList.length=s.size:=by rw [Array.length_toList];rfl
  exact lexM_sound _ _ _ _ _ (by omega) (by omega) (Nat.le_refl _) (fun _ h=>(by cases h))
theorem lex_big (s:ByteArray):(lex s).e=0→s.size≤65536:=by
 unfold lex
 by_cases h:65536<s.size
 ·rw [if_pos h];intro h;cases h
 ·intro _;omega
end Sx
namespace Sx
theorem runL_eq (g:Int→Bool):∀ (l:List UInt8) (i:Nat),runL g l i=i+runN g l
 | [],i=>rfl
 | c::l,i=>by
  rw [runL_cons,runN_cons,runL_eq g l (i+1)]
  split <;> omega
theorem extract_eq (s:ByteArray) (p q:Nat):s.extract p q=⟨((s.data.toList.drop p).take (q-p)).toArray⟩:=by
 apply ByteArray.ext
 show (s.extract p q).data=_
 rw [ByteArray.data_extract]
 apply Array.toList_inj.1
 rw [Array.toList_extract]
end Sx
open Sx
theorem info_tk:(Tryz.prog.info? 48).map (fun i=>(i.zero,i.size,i.bytes))=some (some (.agg #[.int .i64 0,.string ⟨#[]⟩,.int .i64 0]),3,32):=by kernel_rfl
theorem Sx.Sn.pushed {w0 w3:World} {sb:Nat} {s:ByteArray} {p:Nat} {l:List S48} {rm:List ByteArray} {er pl:Int} {tv rv v9:Value} {t:S48} (h:Sn w0 sb s p l rm er pl tv rv) (hs3:Kd.R k48 48 w3 (sb+1) (fun k=>sb<k) v9 (l++[t])) (hb3:Below (sb+1) w0 w3) (hg3:w0.grownBy w3 tv.ownBlock) (q:Nat) (hpq:p<q) (hq:q≤s.size) :
  Sn ((w3.setCell ⟨sb,2,none⟩ v9).setCell ⟨sb,1,none⟩ (.int .i64 q)) sb s q (l++[t]) rm er pl v9 rv∧Keep (sF sb) w0 ((w3.setCell ⟨sb,2,none⟩ v9).setCell ⟨sb,1,none⟩ (.int .i64 q)):=by
 have hbk:=(hb3.block sb (Nat.lt_succ_self _)).trans h.blk
 have rr3:Kd.R Kd.string 9 w3 (sb+1) (fun k=>sb<k) rv rm:=Kd.R_mono (Kd.R_step (Kd.R_apartR h.rr h.rt (by decide)) (fun i hi hlt=>hg3.block i hlt hi.2)) (fun k hk=>hk.1)
 have hf:∀ k,sb<k→k≠sb:=fun k hk=>Nat.ne_of_gt hk
 have hk3:Keep (sF sb) w0 w3:=⟨hb3.os,hb3.tape,hb3.output,hg3.size,fun i hi hn=>hb3.block i (by unfold sF at hn;omega)⟩
 refine ⟨⟨heap_setCell_same (heap_setCell_same hbk 2 _) 1 _,Kd.R_far (Kd.R_far hs3 (p:=⟨sb,2,none⟩) hf _) (p:=⟨sb,1,none⟩) hf _,Kd.R_far (Kd.R_far rr3 (p:=⟨sb,2,none⟩) hf _) (p:=⟨sb,1,none⟩) hf _,h.z,hq,?_,Nat.le_trans h.nr (Nat.le_of_lt hpq)⟩,(hk3.trans (keep_set _) (fun _ _ h=>h)).trans (keep_set _) (fun _ _ h=>h)⟩
 rw [List.length_append,List.length_singleton]
 have:=h.nt
 omega
def Sx.Dn (st:Stp) (sb:Nat) (s:ByteArray) (p:Nat) (l:List S48) (rm:List ByteArray) (er pl:Int) (w:World) (x:Ending) (w':World):Prop :=
 ∃ tv' rv',x=.returned (.bool st.ok)∧Sn w' sb s (st.q p) (st.l l) (st.rm rm) (st.er er) (st.pl pl) tv' rv'∧Keep (sF sb) w w'
def Sx.tl (s:ByteArray) (p:Nat):List UInt8:=s.data.toList.drop p
theorem Sx.tl_cons {s:ByteArray} {p:Nat} (h:p<s.size):tl s p=s[p]'h::tl s (p+1):=by
 unfold tl
 rw [List.drop_eq_getElem_cons (show p<s.data.toList.length from h)]
 rfl
theorem Sx.tl_nil {s:ByteArray} {p:Nat} (h:¬ p<s.size):tl s p=[]:=List.drop_eq_nil_of_le (by show s.size≤p;omega)
theorem Sx.tl_drop (s:ByteArray) (p n:Nat):(tl s p).drop n=tl s (p+n):=List.drop_drop
def Sx.jam (s:ByteArray) (q:Nat):Bool:=if h:q<s.size then isVr (cls (s[q]'h).toNat) else false
theorem Sx.jam_eq (s:ByteArray) (q:Nat):jamL (tl s q)=jam s q:=by
 unfold jam
 by_cases h:q<s.size
 ·rw [dif_pos h,tl_cons h];rfl
 ·rw [dif_neg h,tl_nil h];rfl
theorem Sx.put_eq (s:ByteArray) (k:Int) {p q:Nat} (h:p≤q):putS k (q-p) (tl s p) p=if jam s q then .jam ⟨k,s.extract p q,p⟩ q else .tok ⟨k,s.extract p q,p⟩ q:=by
 unfold putS
 rw [tl_drop,show p+(q-p)=q by omega,jam_eq,extract_eq]
 rfl
theorem put_calls (sb:Nat) (s:ByteArray) (p:Nat) (l:List S48) (rm:List ByteArray) (er pl:Int) (tv rv:Value) (k:Int) (q:Nat) (hpq:p<q) (hq:q≤s.size) (w:World) (h:Sn w sb s p l rm er pl tv rv) :
  Calls Tryz.prog 99 #[.pointer (some ⟨sb,0,none⟩),.int .i64 k,.int .i64 q] w (Dn (putS k (q-p) (tl s p) p) sb s p l rm er pl w):=by
 have HPE:=Lib.hid (put_eq s k (Nat.le_of_lt hpq))
 obtain ⟨st,hst⟩:∃ st,putS k (q-p) (tl s p) p=st:=⟨_,rfl⟩
 rw [hst] at HPE ⊢
 clear hst
 have e0:=Kd.R_slice h.rt
 obtain ⟨A0,c0,rfl⟩:=e0
 have HS:=Lib.hid h
 have HQ:=Lib.hid (And.intro hpq hq)
 have HZ:=Lib.hid h.z
 have HNT:=Lib.hid h.nt
 have hB:Below w.heap.size w w.drew:=(Below.refl _ w).drew
 have HD:=Lib.hid (h.below hB)
 have ytd:=blk_cell (v:=.slice A0 l.length c0) HD.out.blk 2 rfl
 have HLB:=Lib.hid (show sb+1≤w.drew.heap.size from h.lt)
 have h1:¬ ((q:Int)<(p:Int)):=by omega
 have h2:¬ ((s.size:Int)<(q:Int)):=by omega
 have h3:(0:Int)≤(p:Int):=by omega
 have h4:(p:Int)≤(q:Int):=by omega
 have h5:(q:Int)≤(s.size:Int):=by omega
 have h6:p≤q:=by omega
 have HKC:=Lib.hid (fun o=>show ((w.drew).alloc o).cell? ⟨sb,0,none⟩=some (.string s)∧((w.drew).alloc o).cell? ⟨sb,1,none⟩=some (.int .i64 p)∧((w.drew).alloc o).cell? ⟨sb,2,none⟩=some (.slice A0 l.length c0) from by
  have h7:=HD.out.below ((Below.refl _ w.drew).alloc (Nat.le_refl _) o)
  exact ⟨blk_cell (v:=.string s) h7.blk 0 rfl,blk_cell (v:=.int .i64 p) h7.blk 1 rfl,blk_cell (v:=.slice A0 l.length c0) h7.blk 2 rfl⟩)
 have yta:((w.alloc (.cells #[.int .i64 k,.string (s.extract p q),.int .i64 p] 48)).drew).cell? ⟨sb,2,none⟩=some (.slice A0 l.length c0):=(HKC.out (.cells #[.int .i64 k,.string (s.extract p q),.int .i64 p] 48)).2.2
 have HKD:=Lib.hid (show w.drew.cell? ⟨sb,0,none⟩=some (.string s)∧w.drew.cell? ⟨sb,1,none⟩=some (.int .i64 p) from ⟨blk_cell (v:=.string s) HD.out.blk 0 rfl,blk_cell (v:=.int .i64 p) HD.out.blk 1 rfl⟩)
 clear h hB hpq hq
 go_enter Tryz.func99,Tryz.ntmps99
 go_upto_region 1 with (fail)
 refine wp_region_held_drew (S:=fun w9=>w9.cell? ⟨sb,0,none⟩=some (.string s)∧w9.cell? ⟨sb,1,none⟩=some (.int .i64 p)) (by kernel_rfl) ?_ (fun hHeld=>?_)
 ·(try dsimp only);exact HKD.out
 refine wpAnyH_take (i:=0) (oi:=⟨some 7,_,_,_,_,_⟩) (v:=?_) rfl (by kernel_rfl) (by kernel_rfl) (by kernel_rfl) (fun _ _ _ h=>h) (Or.inl ⟨by rfl,?_⟩) (by assumption) ?_
 rotate_left
 ·intro w hSw;(try dsimp only at hSw);go_simp;try with_reducible rfl
 try simp only [Act.put,List.setIfInBounds_toArray,List.set_cons_zero,List.set_cons_succ]
 refine wpAnyH_take (i:=1) (oi:=⟨some 8,_,_,_,_,_⟩) (v:=?_) rfl (by kernel_rfl) (by kernel_rfl) (by kernel_rfl) (fun _ _ _ h=>h) (Or.inl ⟨by rfl,?_⟩) (by assumption) ?_
 rotate_left
 ·intro w hSw;(try dsimp only at hSw);go_simp;try with_reducible rfl
 try simp only [Act.put,List.setIfInBounds_toArray,List.set_cons_zero,List.set_cons_succ]
 refine wpAnyH_take (i:=2) (oi:=⟨some 9,_,_,_,_,_⟩) (v:=?_) rfl (by kernel_rfl) (by kernel_rfl) (by kernel_rfl) (fun _ _ _ h=>h) (Or.inl ⟨by rfl,?_⟩) (by assumption) ?_
 rotate_left
 ·intro w hSw;(try dsimp only at hSw);go_simp;try with_reducible rfl
 try simp only [Act.put,List.setIfInBounds_toArray,List.set_cons_zero,List.set_cons_succ]
 refine wpAnyH_take (i:=3) (oi:=⟨some 10,_,_,_,_,_⟩) (v:=?_) rfl (by kernel_rfl) (by kernel_rfl) (by kernel_rfl) (fun _ _ _ h=>h) (Or.inl ⟨by rfl,?_⟩) (by assumption) ?_
 rotate_left
 ·intro w hSw;(try dsimp only at hSw);go_simp;try with_reducible rfl
 try simp only [Act.put,List.setIfInBounds_toArray,List.set_cons_zero,List.set_cons_succ]
 refine wpAnyH_take (i:=5) (oi:=⟨some 12,_,_,_,_,_⟩) (v:=?_) rfl (by kernel_rfl) (by kernel_rfl) (by kernel_rfl) (fun _ _ _ h=>h) (Or.inl ⟨by rfl,?_⟩) (by assumption) ?_
 rotate_left
 ·intro w hSw;(try dsimp only at hSw);go_simp;try with_reducible rfl
 try simp only [Act.put,List.setIfInBounds_toArray,List.set_cons_zero,List.set_cons_succ]
 refine wpAnyH_take (i:=6) (oi:=⟨some 13,_,_,_,_,_⟩) (v:=?_) rfl (by kernel_rfl) (by kernel_rfl) (by kernel_rfl) (fun _ _ _ h=>h) (Or.inl ⟨by rfl,?_⟩) (by assumption) ?_
 rotate_left
 ·intro w hSw;(try dsimp only at hSw);go_simp;try with_reducible rfl
 try simp only [Act.put,List.setIfInBounds_toArray,List.set_cons_zero,List.set_cons_succ]
 refine wpAnyH_take (i:=7) (oi:=⟨some 14,_,_,_,_,_⟩) (v:=?_) rfl (by kernel_rfl) (by kernel_rfl) (by kernel_rfl) (fun _ _ _ h=>h) (Or.inl ⟨by rfl,?_⟩) (by assumption) ?_
 rotate_left
 ·intro w hSw;(try dsimp only at hSw);go_simp;try with_reducible rfl
 try simp only [Act.put,List.setIfInBounds_toArray,List.set_cons_zero,List.set_cons_succ]
 refine wpAnyH_take (i:=8) (oi:=⟨some 15,_,_,_,_,_⟩) (v:=?_) rfl (by kernel_rfl) (by kernel_rfl) (by kernel_rfl) (fun _ _ _ h=>h) (Or.inl ⟨by rfl,?_⟩) (by assumption) ?_
 rotate_left
 ·intro w hSw;(try dsimp only at hSw);go_simp;try with_reducible rfl
 try simp only [Act.put,List.setIfInBounds_toArray,List.set_cons_zero,List.set_cons_succ]
 refine wpAnyH_take (i:=9) (oi:=⟨some 16,_,_,_,_,_⟩) (v:=?_) rfl (by kernel_rfl) (by kernel_rfl) (by kernel_rfl) (fun _ _ _ h=>h) (Or.inl ⟨by rfl,?_⟩) (by assumption) ?_
 rotate_left
 ·intro w hSw;(try dsimp only at hSw);go_simp;try with_reducible rfl
 try simp only [Act.put,List.setIfInBounds_toArray,List.set_cons_zero,List.set_cons_succ]
 refine wpAnyH_take (i:=10) (oi:=⟨some 17,_,_,_,_,_⟩) (v:=?_) rfl (by kernel_rfl) (by kernel_rfl) (by kernel_rfl) (fun _ _ _ h=>h) (Or.inl ⟨by rfl,?_⟩) (by assumption) ?_
 rotate_left
 ·intro w hSw;(try dsimp only at hSw);go_simp;try with_reducible rfl
 try simp only [Act.put,List.setIfInBounds_toArray,List.set_cons_zero,List.set_cons_succ]
 refine wpAnyH_take (i:=11) (oi:=⟨some 18,_,_,_,_,_⟩) (v:=?_) rfl (by kernel_rfl) (by kernel_rfl) (by kernel_rfl) (fun _ _ _ h=>h) (Or.inl ⟨by rfl,?_⟩) (by assumption) ?_
 rotate_left
 ·intro w hSw;(try dsimp only at hSw);go_simp;try with_reducible rfl
 try simp only [Act.put,List.setIfInBounds_toArray,List.set_cons_zero,List.set_cons_succ]
 refine wpAnyH_take (i:=12) (oi:=⟨some 19,_,_,_,_,_⟩) (v:=?_) rfl (by kernel_rfl) (by kernel_rfl) (by kernel_rfl) (fun _ _ _ h=>h) (Or.inl ⟨by rfl,?_⟩) (by assumption) ?_
 rotate_left
 ·intro w hSw;(try dsimp only at hSw);go_simp;try with_reducible rfl
 try simp only [Act.put,List.setIfInBounds_toArray,List.set_cons_zero,List.set_cons_succ]
 refine wpAnyH_take (i:=13) (oi:=⟨some 20,_,_,_,_,_⟩) (v:=?_) rfl (by kernel_rfl) (by kernel_rfl) (by kernel_rfl) (fun _ _ _ h=>h) (Or.inl ⟨by rfl,?_⟩) (by assumption) ?_
 rotate_left
 ·intro w hSw;(try dsimp only at hSw);go_simp;try with_reducible rfl
 try simp only [Act.put,List.setIfInBounds_toArray,List.set_cons_zero,List.set_cons_succ]
 refine wpAnyH_take (i:=14) (oi:=⟨some 21,_,_,_,_,_⟩) (v:=?_) rfl (by kernel_rfl) (by kernel_rfl) (by kernel_rfl) (fun _ _ _ h=>h) (Or.inl ⟨by rfl,?_⟩) (by assumption) ?_
 rotate_left
 ·intro w hSw;(try dsimp only at hSw);go_simp;try with_reducible rfl
 try simp only [Act.put,List.setIfInBounds_toArray,List.set_cons_zero,List.set_cons_succ]
 refine wpAnyH_take (i:=15) (oi:=⟨some 22,_,_,_,_,_⟩) (v:=?_) rfl (by kernel_rfl) (by kernel_rfl) (by kernel_rfl) (fun _ _ _ h=>h) (Or.inl ⟨by rfl,?_⟩) (by assumption) ?_
 rotate_left
 ·intro w hSw;(try dsimp only at hSw);go_simp;try with_reducible rfl
 try simp only [Act.put,List.setIfInBounds_toArray,List.set_cons_zero,List.set_cons_succ]
 refine wpAnyH_take (i:=16) (oi:=⟨some 23,_,_,_,_,_⟩) (v:=?_) rfl (by kernel_rfl) (by kernel_rfl) (by kernel_rfl) (fun _ _ _ h=>h) (Or.inl ⟨by rfl,?_⟩) (by assumption) ?_
 rotate_left
 ·intro w hSw;(try dsimp only at hSw);go_simp;try with_reducible rfl
 try simp only [Act.put,List.setIfInBounds_toArray,List.set_cons_zero,List.set_cons_succ]
 refine wpAnyH_take (i:=17) (oi:=⟨some 24,_,_,_,_,_⟩) (v:=?_) rfl (by kernel_rfl) (by kernel_rfl) (by kernel_rfl) (fun _ _ _ h=>h) (Or.inl ⟨by rfl,?_⟩) (by assumption) ?_
 rotate_left
 ·intro w hSw;(try dsimp only at hSw);go_simp;try with_reducible rfl
 try simp only [Act.put,List.setIfInBounds_toArray,List.set_cons_zero,List.set_cons_succ]
 refine wpAnyH_take (i:=18) (oi:=⟨some 25,_,_,_,_,_⟩) (v:=?_) rfl (by kernel_rfl) (by kernel_rfl) (by kernel_rfl) (fun _ _ _ h=>h) (Or.inl ⟨by rfl,?_⟩) (by assumption) ?_
 rotate_left
 ·intro w hSw;(try dsimp only at hSw);go_simp;try with_reducible rfl
 try simp only [Act.put,List.setIfInBounds_toArray,List.set_cons_zero,List.set_cons_succ]
 refine wpAnyH_take (i:=19) (oi:=⟨some 26,_,_,_,_,_⟩) (v:=?_) rfl (by kernel_rfl) (by kernel_rfl) (by kernel_rfl) (fun _ _ _ h=>h) (Or.inl ⟨by rfl,?_⟩) (by assumption) ?_
 rotate_left
 ·intro w hSw;(try dsimp only at hSw);go_simp;try with_reducible rfl
 try simp only [Act.put,List.setIfInBounds_toArray,List.set_cons_zero,List.set_cons_succ]
 refine wpAnyH_take (i:=20) (oi:=⟨some 27,_,_,_,_,_⟩) (v:=?_) rfl (by kernel_rfl) (by kernel_rfl) (by kernel_rfl) (fun _ _ _ h=>h) (Or.inl ⟨by rfl,?_⟩) (by assumption) ?_
 rotate_left
 ·intro w hSw;(try dsimp only at hSw);go_simp;try with_reducible rfl
 try simp only [Act.put,List.setIfInBounds_toArray,List.set_cons_zero,List.set_cons_succ]
 refine wpAnyH_ready (rs:=[4,21]) (by kernel_rfl) (by simp) ?_
 refine AllReadyH.cons rfl (fun K hK=>?_) (AllReadyH.cons rfl (fun K hK=>?_) AllReadyH.nil)
 go_simp
 refine hK.out _ _ ?_ (fun hH2=>?_)
 ·(try dsimp only);exact HKD.out
 clear hK K hHeld
 have hHeld:=hH2
 clear hH2
 refine wpAnyH_ready (rs:=[21]) (by kernel_rfl) (by simp) ?_
 refine AllReadyH.cons rfl (fun K hK=>?_) AllReadyH.nil
 go_simp
 refine hK.out _ _ ?_ (fun hH2=>?_)
 ·(try dsimp only);exact ⟨(HKC.out _).1,(HKC.out _).2.1⟩
 clear hK K hHeld
 have hHeld:=hH2
 clear hH2
 refine wpAnyH_ready (rs:=[22]) (by kernel_rfl) (by simp) ?_
 refine AllReadyH.cons rfl (fun K hK=>?_) AllReadyH.nil
 refine Kd.R_append_step k48 (w0:=w.drew) (sb+1) (by rfl) (.tmp 11) (.tmp 28) 40 48 (.agg #[.int .i64 0,.string ⟨#[]⟩,.int .i64 0]) 32 rfl Tryz.underlying40 info_tk rfl (by decide) (by decide) (.slice A0 l.length c0) l (⟨k,s.extract p q,p⟩:S48) [.int .i64 k,.string (s.extract p q),.int .i64 p] (fun k=>sb<k) (fun _=>False) rfl rfl (k48_mkM _ _ _ ⟨k,s.extract p q,p⟩) (fun _ hk=>hk.elim) (fun k hk=>Nat.lt_of_lt_of_le HLB.out hk) HD.out.rt (Below.refl _ _) HLB.out (by have h1:=HZ.out;have h2:=HNT.out;have h3:=HQ.out;omega) ?_
 intro v3 w3 hs3 hb3 hg3 hat3
 obtain ⟨A9,c9,rfl⟩:=Kd.R_slice hs3
 rw [List.length_append,List.length_singleton] at hs3
 have hbk3:=(hb3.block sb (Nat.lt_succ_self _)).trans HD.out.blk
 have z0:=blk_cell (v:=.string s) hbk3 0 rfl
 have z1:=blk_cell (v:=.int .i64 p) hbk3 1 rfl
 have y3:=blk_cell (v:=.slice A0 l.length c0) hbk3 2 rfl
 have f3:=blk_free hbk3 2
 have HS3:=Lib.hid hs3
 have HB3:=Lib.hid hb3
 have HG3:=Lib.hid hg3
 have HBK3:=Lib.hid hbk3
 clear hs3 hb3 hg3 hat3 hbk3
 refine hK.out _ _ ?_ (fun hH2=>?_)
 ·(try dsimp only);exact ⟨z0,z1⟩
 clear hK K hHeld
 have hHeld:=hH2
 clear hH2
 refine wpAnyH_take (i:=23) (oi:=⟨some 30,_,_,_,_,_⟩) (v:=?_) rfl (by kernel_rfl) (by kernel_rfl) (by kernel_rfl) (fun _ _ _ h=>h) (Or.inl ⟨by rfl,?_⟩) (by assumption) ?_
 rotate_left
 ·intro w hSw;(try dsimp only at hSw);go_simp;try with_reducible rfl
 try simp only [Act.put,List.setIfInBounds_toArray,List.set_cons_zero,List.set_cons_succ]
 refine wpAnyH_take (i:=24) (oi:=⟨some 31,_,_,_,_,_⟩) (v:=?_) rfl (by kernel_rfl) (by kernel_rfl) (by kernel_rfl) (fun _ _ _ h=>h) (Or.inl ⟨by rfl,?_⟩) (by assumption) ?_
 rotate_left
 ·intro w hSw;(try dsimp only at hSw);go_simp;try with_reducible rfl
 try simp only [Act.put,List.setIfInBounds_toArray,List.set_cons_zero,List.set_cons_succ]
 refine wpAnyH_ready (rs:=[25]) (by kernel_rfl) (by simp) ?_
 refine AllReadyH.cons rfl (fun K hK=>?_) AllReadyH.nil
 go_simp
 refine hK.out _ _ ?_ (fun hH2=>?_)
 ·(try dsimp only);exact ⟨(World.cell?_setCell_other _ _ _ _ (by simp)).trans (blk_cell (v:=.string s) HBK3.out 0 rfl),(World.cell?_setCell_other _ _ _ _ (by simp)).trans (blk_cell (v:=.int .i64 p) HBK3.out 1 rfl)⟩
 clear hK K hHeld
 have hHeld:=hH2
 clear hH2
 refine wpAnyH_done (by kernel_rfl) ?_ _
 rotate_left
 go_simp
 refine hK.out _ _ ?_ (fun hH2=>?_)
 ·(try dsimp only);exact ⟨(HKC.out _).1,(HKC.out _).2.1⟩
 clear hK K hHeld
 have hHeld:=hH2
 clear hH2
 refine wpAnyH_ready (rs:=[4]) (by kernel_rfl) (by simp) ?_
 refine AllReadyH.cons rfl (fun K hK=>?_) AllReadyH.nil
 go_simp
 refine hK.out _ _ ?_ (fun hH2=>?_)
 ·(try dsimp only);exact ⟨(HKC.out _).1,(HKC.out _).2.1⟩
 clear hK K hHeld
 have hHeld:=hH2
 clear hH2
 refine wpAnyH_ready (rs:=[22]) (by kernel_rfl) (by simp) ?_
 refine AllReadyH.cons rfl (fun K hK=>?_) AllReadyH.nil
 refine Kd.R_append_step k48 (w0:=w.drew) (sb+1) (by rfl) (.tmp 11) (.tmp 28) 40 48 (.agg #[.int .i64 0,.string ⟨#[]⟩,.int .i64 0]) 32 rfl Tryz.underlying40 info_tk rfl (by decide) (by decide) (.slice A0 l.length c0) l (⟨k,s.extract p q,p⟩:S48) [.int .i64 k,.string (s.extract p q),.int .i64 p] (fun k=>sb<k) (fun _=>False) rfl rfl (k48_mkM _ _ _ ⟨k,s.extract p q,p⟩) (fun _ hk=>hk.elim) (fun k hk=>Nat.lt_of_lt_of_le HLB.out hk) HD.out.rt (Below.refl _ _) HLB.out (by have h1:=HZ.out;have h2:=HNT.out;have h3:=HQ.out;omega) ?_
 intro v3 w3 hs3 hb3 hg3 hat3
 obtain ⟨A9,c9,rfl⟩:=Kd.R_slice hs3
 rw [List.length_append,List.length_singleton] at hs3
 have hbk3:=(hb3.block sb (Nat.lt_succ_self _)).trans HD.out.blk
 have z0:=blk_cell (v:=.string s) hbk3 0 rfl
 have z1:=blk_cell (v:=.int .i64 p) hbk3 1 rfl
 have y3:=blk_cell (v:=.slice A0 l.length c0) hbk3 2 rfl
 have f3:=blk_free hbk3 2
 have HS3:=Lib.hid hs3
 have HB3:=Lib.hid hb3
 have HG3:=Lib.hid hg3
 have HBK3:=Lib.hid hbk3
 clear hs3 hb3 hg3 hat3 hbk3
 refine hK.out _ _ ?_ (fun hH2=>?_)
 ·(try dsimp only);exact ⟨z0,z1⟩
 clear hK K hHeld
 have hHeld:=hH2
 clear hH2
 refine wpAnyH_take (i:=23) (oi:=⟨some 30,_,_,_,_,_⟩) (v:=?_) rfl (by kernel_rfl) (by kernel_rfl) (by kernel_rfl) (fun _ _ _ h=>h) (Or.inl ⟨by rfl,?_⟩) (by assumption) ?_
 rotate_left
 ·intro w hSw;(try dsimp only at hSw);go_simp;try with_reducible rfl
 try simp only [Act.put,List.setIfInBounds_toArray,List.set_cons_zero,List.set_cons_succ]
 refine wpAnyH_take (i:=24) (oi:=⟨some 31,_,_,_,_,_⟩) (v:=?_) rfl (by kernel_rfl) (by kernel_rfl) (by kernel_rfl) (fun _ _ _ h=>h) (Or.inl ⟨by rfl,?_⟩) (by assumption) ?_
 rotate_left
 ·intro w hSw;(try dsimp only at hSw);go_simp;try with_reducible rfl
 try simp only [Act.put,List.setIfInBounds_toArray,List.set_cons_zero,List.set_cons_succ]
 refine wpAnyH_ready (rs:=[25]) (by kernel_rfl) (by simp) ?_
 refine AllReadyH.cons rfl (fun K hK=>?_) AllReadyH.nil
 go_simp
 refine hK.out _ _ ?_ (fun hH2=>?_)
 ·(try dsimp only);exact ⟨(World.cell?_setCell_other _ _ _ _ (by simp)).trans (blk_cell (v:=.string s) HBK3.out 0 rfl),(World.cell?_setCell_other _ _ _ _ (by simp)).trans (blk_cell (v:=.int .i64 p) HBK3.out 1 rfl)⟩
 clear hK K hHeld
 have hHeld:=hH2
 clear hH2
 refine wpAnyH_done (by kernel_rfl) ?_ _
 all_goals
  have HP:=Lib.hid (HD.out.pushed HS3.out HB3.out HG3.out q HQ.out.1 HQ.out.2)
  obtain ⟨X,hX⟩:∃ X,w3.setCell ⟨sb,2,none⟩ (.slice A9 (l.length+1) c9)=X:=⟨_,rfl⟩
  have y1:X.cell? ⟨sb,1,none⟩=some (.int .i64 p):=by rw [← hX];exact (World.cell?_setCell_other _ _ _ _ (by simp)).trans (blk_cell (v:=.int .i64 p) HBK3.out 1 rfl)
  have f1:X.frozen? ⟨sb,1,none⟩=false:=by rw [← hX,World.frozen?_setCell];exact blk_free HBK3.out 1
  rw [hX] at HP
  try rw [hX]
  clear hX ytd yta z0 z1 y3 f3 hHeld HS3 HB3 HG3 HBK3
  go_upto_region 3 with (fail)
  obtain ⟨Y,hY⟩:∃ Y,X.setCell ⟨sb,1,none⟩ (.int .i64 q)=Y:=⟨_,rfl⟩
  rw [hY] at HP
  try rw [hY]
  clear hY y1 f1
  have x0:=blk_cell (v:=.string s) HP.out.1.blk 0 rfl
  have hkw:Keep (sF sb) w Y:=(Keep.refl (sF sb) w).drew.trans HP.out.2 (fun _ _ h=>h)
  have HKW:=Lib.hid hkw
  clear hkw
  by_cases hqs:q<s.size
  ·have j1:decide ((q:Int)<(s.size:Int))=true:=decide_eq_true (by omega)
   have j2:decide (q<s.size)=true:=decide_eq_true hqs
   have j3:(q:Int)<(s.size:Int):=by omega
   have j4:(0:Int)≤(q:Int):=by omega
   have HJ:=Lib.hid (show jam s q=isVr (cls (s[q]'hqs).toNat) from dif_pos hqs)
   cases hv:isVr (cls (s[q]'hqs).toNat)
   ·have HV:=Lib.hid hv
    rw [hv] at HJ
    clear hv
    go_wp2_with (first | (go_at_call 75;refine (classOf_calls _ _).mono ?_;rintro e w6 ⟨rfl,rfl⟩) | (go_at_call 81;refine (inVar_calls _ _).mono ?_;rw [HV.out];rintro e w7 ⟨rfl,rfl⟩))
    go_ret
    rw [HPE.out,HJ.out]
    exact ⟨_,_,rfl,HP.out.1,HKW.out⟩
   ·have HV:=Lib.hid hv
    rw [hv] at HJ
    clear hv
    go_wp2_with (first | (go_at_call 75;refine (classOf_calls _ _).mono ?_;rintro e w6 ⟨rfl,rfl⟩) | (go_at_call 81;refine (inVar_calls _ _).mono ?_;rw [HV.out];rintro e w7 ⟨rfl,rfl⟩) | (go_at_call 51;refine (fail_calls sb s q _ rm er pl _ rv 41 q Y HP.out.1).mono ?_;rintro e w8 ⟨rfl,hs8,hk8⟩))
    go_ret
    rw [HPE.out,HJ.out]
    exact ⟨_,_,rfl,hs8,HKW.out.trans hk8 (fun _ _ h=>h)⟩
  ·have j1:decide ((q:Int)<(s.size:Int))=false:=decide_eq_false (by omega)
   have j2:decide (q<s.size)=false:=decide_eq_false hqs
   have HJ:=Lib.hid (show jam s q=false from dif_neg hqs)
   go_wp2_with fail
   go_ret
   rw [HPE.out,HJ.out]
   exact ⟨_,_,rfl,HP.out.1,HKW.out⟩
end Go.Proofs.YtcakgennlliejaaGreatDoor
