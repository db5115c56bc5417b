import Derived.Test.YtcakgennlliejaaGreatDoorSynK8
set_option maxHeartbeats 8000000
set_option maxRecDepth 100000
namespace Go.Proofs.YtcakgennlliejaaGreatDoor
open Go.Shelf Go.RowKit Go.Lib
open Go.Proofs.YtcakgennlliejaaGreatDoorW.PrintWords
open Go.Proofs.YtcakgennlliejaaGreatDoor.PSyntaxJoined
open Sx
set_option linter.unusedVariables false
set_option linter.unusedSimpArgs false
theorem Sx.Bx.inc {w0 X:World} {V:Env} {p0 q b:Nat} {t:TypeId} {cells:Array Value} (h:Bx w0 X V p0 q b t cells):b≠V.rb:=by
 have h1:=World.block_lt_of_cell? w0 _ h.h0.pos;have h2:=h.ge;simp only at h1;omega
theorem Sx.arrow_lt {V:Env} {p:Nat} (h:V.arrow p≠0):p<V.T.length:=by
 unfold Env.arrow Env.arrL Env.arrL Env.arrL Env.arrL at h
 split at h
 ·exact isT_lt (by assumption) (by decide)
 ·split at h
  ·exact isT_lt (by assumption) (by decide)
  ·split at h
   ·exact isT_lt (by assumption) (by decide)
   ·exact absurd rfl h
theorem premise_enters:∀ args w,(callFunc 94 args).run Tryz.prog w=.ok (.enter 94 args) w:=Go.Proofs.enters_of (f:=94) Tryz.func94 (by kernel_rfl) rfl
theorem rule_calls (V:Env) (cal:ByteArray→Int × Int)
  (hC:∀ s w,Calls Tryz.prog 108 #[.string s] w fun e w'=>e=.returned (.tuple #[.int .i64 (cal s).1,.int .i64 (cal s).2])∧Below w.heap.size w w')
  (hP:∀ p w,Rd w V p→Calls Tryz.prog 94 #[.pointer (some ⟨V.rb,0,none⟩)] w (Post V w (aggR k100 w.heap.size) (V.premise p)))
  (p:Nat) (w:World) (h:Rd w V p):Calls Tryz.prog 60 #[.pointer (some ⟨V.rb,0,none⟩)] w (Post V w (aggR k93 w.heap.size) (V.rule cal p)):=by
 have hmf:∀ (fn:Fn) (first cap:Array Value) (w:World),(Instr.makeFunc fn first cap).run Tryz.prog w=.ok (.func fn first cap) w:=fun _ _ _ _=>rfl
 have hC:=Lib.hid hC
 have hP:=Lib.hid hP
 have hF0:V.rule cal p=V.rule cal p:=rfl
 conv at hF0=>rhs;unfold Env.rule
 have HF0:=Lib.hid hF0
 have HA0:=Lib.hid (Bx.new h h (Keep.refl _ _) 93 #[(.string ⟨#[]⟩),(.string ⟨#[]⟩),(.int .i64 0),(.int .i64 0),(.slice none 0 0),(.int .i64 0),(.bool false),(.string ⟨#[]⟩),(.slice none 0 0),(.bool false),(.int .i64 0)])
 clear h hF0
 go_enter Tryz.func60,Tryz.ntmps60
 go_upto_region 1 with (fail)
 obtain ⟨X0,hX0⟩:∃ X0,w.alloc (Obj.cells #[(.string ⟨#[]⟩),(.string ⟨#[]⟩),(.int .i64 0),(.int .i64 0),(.slice none 0 0),(.int .i64 0),(.bool false),(.string ⟨#[]⟩),(.slice none 0 0),(.bool false),(.int .i64 0)] 93)=X0:=⟨_,rfl⟩
 try rw [hX0]
 rw [hX0] at HA0
 clear hX0
 have HK1:=Lib.hid (fun w1 h1=>name_calls V p w1 h1)
 have hF1:=HF0.out
 generalize hr1:V.name p=r1 at hF1 HK1
 cases r1 with
 | bad er a =>
  dsimp only [Res.bnd] at hF1
  have HF1:=Lib.hid hF1
  clear hF1 HF0 hr1
  go_wp2_with (first | (go_at_call 56;refine (HK1.out X0 HA0.out.rd).mono ?_;rintro e w2 ⟨rfl,hk2⟩))
  refine ⟨rfl,?_⟩
  rw [HF1.out]
  exact ⟨rfl,HA0.out.keep.trans hk2 (fun _ _ h=>h)⟩
 | ok n q1 =>
  dsimp only [Res.bnd] at hF1
  have HF1:=Lib.hid hF1
  clear hF1 HF0 hr1
  go_upto_region 2 with (first | (go_at_call 56;refine (HK1.out X0 HA0.out.rd).mono ?_;rintro e w2 ⟨x,rfl,rfl,hr2,hk2⟩;have HC1_0:=Lib.hid (HA0.out.call hr2 hk2)))
  have HD1_0:=Lib.hid (HC1_0.out.alloc (Obj.cells #[(.string n),(.string ⟨#[]⟩),(.int .i64 0),(.int .i64 0),(.slice none 0 0),(.int .i64 0),(.bool false),(.string ⟨#[]⟩),(.slice none 0 0),(.bool false),(.int .i64 0)] 93))
  have HD1_1:=Lib.hid (Bx.new HA0.out.h0 hr2 HC1_0.out.keep 93 #[(.string n),(.string ⟨#[]⟩),(.int .i64 0),(.int .i64 0),(.slice none 0 0),(.int .i64 0),(.bool false),(.string ⟨#[]⟩),(.slice none 0 0),(.bool false),(.int .i64 0)])
  obtain ⟨B,hB⟩:∃ B,w2.heap.size=B:=⟨_,rfl⟩
  have HNB:=Lib.hid (show w.heap.size≠B by
   rw [← hB]
   have h0:=World.block_lt_of_cell? _ _ (blk_cell (v:=(.string ⟨#[]⟩)) HC1_0.out.blk 0 rfl)
   simp only at h0;omega)
  obtain ⟨X1,hX⟩:∃ X,w2.alloc (Obj.cells #[(.string n),(.string ⟨#[]⟩),(.int .i64 0),(.int .i64 0),(.slice none 0 0),(.int .i64 0),(.bool false),(.string ⟨#[]⟩),(.slice none 0 0),(.bool false),(.int .i64 0)] 93)=X:=⟨_,rfl⟩
  rw [hX] at HD1_0
  rw [hX,hB] at HD1_1
  try rw [hX,hB]
  clear hX hr2 hk2 HK1 hB HA0 HC1_0 
  have HK2:=Lib.hid (fun w1 h1=>must_calls V q1 1 ⟨#[111,102]⟩ w1 h1 (by decide))
  have hF2:=HF1.out
  generalize hr2:V.must 1 ⟨#[111,102]⟩ q1=r2 at hF2 HK2
  cases r2 with
  | bad er a =>
   dsimp only [Res.bnd] at hF2
   have HF2:=Lib.hid hF2
   clear hF2 HF1 hr2
   go_wp2_with (first | (go_at_call 41;refine (HK2.out X1 HD1_0.out.rd).mono ?_;rintro e w2 ⟨rfl,hk2⟩))
   refine ⟨rfl,?_⟩
   rw [HF2.out]
   exact ⟨rfl,HD1_0.out.keep.trans hk2 (fun _ _ h=>h)⟩
  | ok _ q2 =>
   dsimp only [Res.bnd] at hF2
   have HF2:=Lib.hid hF2
   clear hF2 HF1 hr2
   go_upto_region 3 with (first | (go_at_call 41;refine (HK2.out X1 HD1_0.out.rd).mono ?_;rintro e X2 ⟨x,rfl,rfl,hr2,hk2⟩;have HC2_0:=Lib.hid (HD1_0.out.call hr2 hk2);have HC2_1:=Lib.hid (HD1_1.out.call hr2 hk2)))
   have HD2_0:=Lib.hid (show Bx w X2 V p q2 w.heap.size 93 #[(.string ⟨#[]⟩),(.string ⟨#[]⟩),(.int .i64 0),(.int .i64 0),(.slice none 0 0),(.int .i64 0),(.bool false),(.string ⟨#[]⟩),(.slice none 0 0),(.bool false),(.int .i64 0)] from HC2_0.out)
   have HD2_1:=Lib.hid (show Bx w X2 V p q2 B 93 #[(.string n),(.string ⟨#[]⟩),(.int .i64 0),(.int .i64 0),(.slice none 0 0),(.int .i64 0),(.bool false),(.string ⟨#[]⟩),(.slice none 0 0),(.bool false),(.int .i64 0)] from HC2_1.out)
   clear hr2 hk2 HK2 HD1_0 HD1_1 HC2_0 HC2_1 
   have HK3:=Lib.hid (fun w1 h1=>name_calls V q2 w1 h1)
   have hF3:=HF2.out
   generalize hr3:V.name q2=r3 at hF3 HK3
   cases r3 with
   | bad er a =>
    dsimp only [Res.bnd] at hF3
    have HF3:=Lib.hid hF3
    clear hF3 HF2 hr3
    go_wp2_with (first | (go_at_call 56;refine (HK3.out X2 HD2_0.out.rd).mono ?_;rintro e w2 ⟨rfl,hk2⟩))
    refine ⟨rfl,?_⟩
    rw [HF3.out]
    exact ⟨rfl,HD2_0.out.keep.trans hk2 (fun _ _ h=>h)⟩
   | ok s q3 =>
    dsimp only [Res.bnd] at hF3
    have HF3:=Lib.hid hF3
    clear hF3 HF2 hr3
    go_upto_region 4 with (first | (go_at_call 56;refine (HK3.out X2 HD2_0.out.rd).mono ?_;rintro e w2 ⟨x,rfl,rfl,hr2,hk2⟩;have HC3_0:=Lib.hid (HD2_0.out.call hr2 hk2);have HC3_1:=Lib.hid (HD2_1.out.call hr2 hk2);have y1:=blk_cell (v:=(.string ⟨#[]⟩)) HC3_1.out.blk 1 rfl;have f1:=blk_free HC3_1.out.blk 1))
    clear y1 f1
    have HD3_0:=Lib.hid (show Bx w (w2.setCell ⟨B,1,none⟩ (.string s)) V p q3 w.heap.size 93 #[(.string ⟨#[]⟩),(.string ⟨#[]⟩),(.int .i64 0),(.int .i64 0),(.slice none 0 0),(.int .i64 0),(.bool false),(.string ⟨#[]⟩),(.slice none 0 0),(.bool false),(.int .i64 0)] from HC3_0.out.far HC3_1.out.ge (by have:=HNB.out;omega) 1 (.string s))
    have HD3_1:=Lib.hid (show Bx w (w2.setCell ⟨B,1,none⟩ (.string s)) V p q3 B 93 #[(.string n),(.string s),(.int .i64 0),(.int .i64 0),(.slice none 0 0),(.int .i64 0),(.bool false),(.string ⟨#[]⟩),(.slice none 0 0),(.bool false),(.int .i64 0)] from HC3_1.out.set 1 (.string s))
    clear hr2 hk2 HK3 HD2_0 HD2_1 HC3_0 HC3_1 
    generalize (w2.setCell ⟨B,1,none⟩ (.string s))=X3 at *
    have HK4:=Lib.hid (fun w1 h1=>must_calls V q3 1 ⟨#[97,116]⟩ w1 h1 (by decide))
    have hF4:=HF3.out
    generalize hr4:V.must 1 ⟨#[97,116]⟩ q3=r4 at hF4 HK4
    cases r4 with
    | bad er a =>
     dsimp only [Res.bnd] at hF4
     have HF4:=Lib.hid hF4
     clear hF4 HF3 hr4
     go_wp2_with (first | (go_at_call 41;refine (HK4.out X3 HD3_0.out.rd).mono ?_;rintro e w2 ⟨rfl,hk2⟩))
     refine ⟨rfl,?_⟩
     rw [HF4.out]
     exact ⟨rfl,HD3_0.out.keep.trans hk2 (fun _ _ h=>h)⟩
    | ok _ q4 =>
     dsimp only [Res.bnd] at hF4
     have HF4:=Lib.hid hF4
     clear hF4 HF3 hr4
     go_upto_region 5 with (first | (go_at_call 41;refine (HK4.out X3 HD3_0.out.rd).mono ?_;rintro e X4 ⟨x,rfl,rfl,hr2,hk2⟩;have HC4_0:=Lib.hid (HD3_0.out.call hr2 hk2);have HC4_1:=Lib.hid (HD3_1.out.call hr2 hk2)))
     have HD4_0:=Lib.hid (show Bx w X4 V p q4 w.heap.size 93 #[(.string ⟨#[]⟩),(.string ⟨#[]⟩),(.int .i64 0),(.int .i64 0),(.slice none 0 0),(.int .i64 0),(.bool false),(.string ⟨#[]⟩),(.slice none 0 0),(.bool false),(.int .i64 0)] from HC4_0.out)
     have HD4_1:=Lib.hid (show Bx w X4 V p q4 B 93 #[(.string n),(.string s),(.int .i64 0),(.int .i64 0),(.slice none 0 0),(.int .i64 0),(.bool false),(.string ⟨#[]⟩),(.slice none 0 0),(.bool false),(.int .i64 0)] from HC4_1.out)
     clear hr2 hk2 HK4 HD3_0 HD3_1 HC4_0 HC4_1 
     have HK5:=Lib.hid (fun w1 h1=>day_calls V cal hC.out q4 w1 h1)
     have hF5:=HF4.out
     generalize hr5:V.day cal q4=r5 at hF5 HK5
     cases r5 with
     | bad er a =>
      dsimp only [Res.bnd] at hF5
      have HF5:=Lib.hid hF5
      clear hF5 HF4 hr5
      go_wp2_with (first | (go_at_call 91;refine (HK5.out X4 HD4_0.out.rd).mono ?_;rintro e w2 ⟨rfl,hk2⟩))
      refine ⟨rfl,?_⟩
      rw [HF5.out]
      exact ⟨rfl,HD4_0.out.keep.trans hk2 (fun _ _ h=>h)⟩
     | ok a q5 =>
      dsimp only [Res.bnd] at hF5
      have HF5:=Lib.hid hF5
      clear hF5 HF4 hr5
      go_upto_region 6 with (first | (go_at_call 91;refine (HK5.out X4 HD4_0.out.rd).mono ?_;rintro e w2 ⟨x,rfl,rfl,hr2,hk2⟩;have HC5_0:=Lib.hid (HD4_0.out.call hr2 hk2);have HC5_1:=Lib.hid (HD4_1.out.call hr2 hk2);have y2:=blk_cell (v:=(.int .i64 0)) HC5_1.out.blk 2 rfl;have f2:=blk_free HC5_1.out.blk 2))
      clear y2 f2
      have HD5_0:=Lib.hid (show Bx w (w2.setCell ⟨B,2,none⟩ (.int .i64 a)) V p q5 w.heap.size 93 #[(.string ⟨#[]⟩),(.string ⟨#[]⟩),(.int .i64 0),(.int .i64 0),(.slice none 0 0),(.int .i64 0),(.bool false),(.string ⟨#[]⟩),(.slice none 0 0),(.bool false),(.int .i64 0)] from HC5_0.out.far HC5_1.out.ge (by have:=HNB.out;omega) 2 (.int .i64 a))
      have HD5_1:=Lib.hid (show Bx w (w2.setCell ⟨B,2,none⟩ (.int .i64 a)) V p q5 B 93 #[(.string n),(.string s),(.int .i64 a),(.int .i64 0),(.slice none 0 0),(.int .i64 0),(.bool false),(.string ⟨#[]⟩),(.slice none 0 0),(.bool false),(.int .i64 0)] from HC5_1.out.set 2 (.int .i64 a))
      clear hr2 hk2 HK5 HD4_0 HD4_1 HC5_0 HC5_1 
      generalize (w2.setCell ⟨B,2,none⟩ (.int .i64 a))=X5 at *
      have HK6:=Lib.hid (fun w1 h1=>skip_calls V q5 1 ⟨#[117,110,116,105,108]⟩ w1 h1 (by decide))
      have hF6:=HF5.out
      generalize hr6:V.isT 1 ⟨#[117,110,116,105,108]⟩ q5=b6 at hF6 HK6
      clear HF5
      cases b6
      ·simp only [if_true,Bool.false_eq_true,if_false] at hF6
       try dsimp only [Res.bnd] at hF6
       have HF6:=Lib.hid hF6
       clear hF6 hr6
       go_upto_region 8 with (first | (go_at_call 38;refine (HK6.out X5 HD5_0.out.rd).mono ?_;rintro e X6 ⟨rfl,hr2,hk2⟩))
       simp only [if_true,Bool.false_eq_true,if_false] at hr2
       have HD7_0:=Lib.hid (show Bx w X6 V p q5 w.heap.size 93 #[(.string ⟨#[]⟩),(.string ⟨#[]⟩),(.int .i64 0),(.int .i64 0),(.slice none 0 0),(.int .i64 0),(.bool false),(.string ⟨#[]⟩),(.slice none 0 0),(.bool false),(.int .i64 0)] from HD5_0.out.call hr2 hk2)
       have HD7_1:=Lib.hid (show Bx w X6 V p q5 B 93 #[(.string n),(.string s),(.int .i64 a),(.int .i64 0),(.slice none 0 0),(.int .i64 0),(.bool false),(.string ⟨#[]⟩),(.slice none 0 0),(.bool false),(.int .i64 0)] from HD5_1.out.call hr2 hk2)
       clear HD5_0 HD5_1
       clear hr2 hk2 HK6
       have HK8:=Lib.hid (fun w1 h1=>must_calls V q5 6 ⟨#[58]⟩ w1 h1 (by decide))
       have hF8:=HF6.out
       generalize hr8:V.must 6 ⟨#[58]⟩ q5=r8 at hF8 HK8
       cases r8 with
       | bad er a =>
        dsimp only [Res.bnd] at hF8
        have HF8:=Lib.hid hF8
        clear hF8 HF6 hr8
        go_wp2_with (first | (go_at_call 41;refine (HK8.out X6 HD7_0.out.rd).mono ?_;rintro e w2 ⟨rfl,hk2⟩))
        refine ⟨rfl,?_⟩
        rw [HF8.out]
        exact ⟨rfl,HD7_0.out.keep.trans hk2 (fun _ _ h=>h)⟩
       | ok _ q7 =>
        dsimp only [Res.bnd] at hF8
        have HF8:=Lib.hid hF8
        clear hF8 HF6 hr8
        go_upto_region 9 with (first | (go_at_call 41;refine (HK8.out X6 HD7_0.out.rd).mono ?_;rintro e X8 ⟨x,rfl,rfl,hr2,hk2⟩;have HC8_0:=Lib.hid (HD7_0.out.call hr2 hk2);have HC8_1:=Lib.hid (HD7_1.out.call hr2 hk2)))
        have HD8_0:=Lib.hid (show Bx w X8 V p q7 w.heap.size 93 #[(.string ⟨#[]⟩),(.string ⟨#[]⟩),(.int .i64 0),(.int .i64 0),(.slice none 0 0),(.int .i64 0),(.bool false),(.string ⟨#[]⟩),(.slice none 0 0),(.bool false),(.int .i64 0)] from HC8_0.out)
        have HD8_1:=Lib.hid (show Bx w X8 V p q7 B 93 #[(.string n),(.string s),(.int .i64 a),(.int .i64 0),(.slice none 0 0),(.int .i64 0),(.bool false),(.string ⟨#[]⟩),(.slice none 0 0),(.bool false),(.int .i64 0)] from HC8_1.out)
        clear hr2 hk2 HK8 HD7_0 HD7_1 HC8_0 HC8_1 
        have hF9:=HF8.out
        unfold Env.ruleT at hF9
        have HK9:=Lib.hid (fun w1 h1=>arrow_calls V q7 w1 h1)
        by_cases hz:V.arrow q7=0
        ·rw [if_pos hz] at hF9
         rw [hz] at HK9
         clear hz
         try dsimp only [Res.bnd] at hF9
         have HF9:=Lib.hid hF9
         clear hF9
         go_upto_region 10 with (first | (go_at_call 92;refine (HK9.out X8 HD8_0.out.rd).mono ?_;rintro e X9 ⟨rfl,hb2⟩;have hr2:=HD8_0.out.rd.below hb2;have hk2:=Keep.of_below (F:=ours V) hb2;clear hb2;have HC9_0:=Lib.hid (HD8_0.out.call hr2 hk2);have HC9_1:=Lib.hid (HD8_1.out.call hr2 hk2)))
         have HD9_0:=Lib.hid (show Bx w X9 V p q7 w.heap.size 93 #[(.string ⟨#[]⟩),(.string ⟨#[]⟩),(.int .i64 0),(.int .i64 0),(.slice none 0 0),(.int .i64 0),(.bool false),(.string ⟨#[]⟩),(.slice none 0 0),(.bool false),(.int .i64 0)] from HC9_0.out)
         have HD9_1:=Lib.hid (show Bx w X9 V p q7 B 93 #[(.string n),(.string s),(.int .i64 a),(.int .i64 0),(.slice none 0 0),(.int .i64 0),(.bool false),(.string ⟨#[]⟩),(.slice none 0 0),(.bool false),(.int .i64 0)] from HC9_1.out)
         clear hr2 hk2 HK9 HD8_0 HD8_1 HC9_0 HC9_1 
         have HK10:=Lib.hid (fun w1 h1=>list_prem_calls V V.premise 94 premise_enters hP.out 0 16 (by decide) (by decide) q7 w1 h1)
         have hF10:=HF9.out
         generalize hr10:V.list V.premise 0 16 q7=r10 at hF10 HK10
         cases r10 with
         | bad er a =>
          dsimp only [Res.bnd] at hF10
          have HF10:=Lib.hid hF10
          clear hF10 HF9 hr10
          go_wp2_with (first | (go_at_call 93;refine (HK10.out X9 HD9_0.out.rd).mono ?_;rintro e w2 ⟨rfl,hk2⟩))
          refine ⟨rfl,?_⟩
          rw [HF10.out]
          exact ⟨rfl,HD9_0.out.keep.trans hk2 (fun _ _ h=>h)⟩
         | ok l q8 =>
          dsimp only [Res.bnd] at hF10
          have HF10:=Lib.hid hF10
          clear hF10 HF9 hr10
          go_upto_region 11 with (first | (go_at_call 93;refine (HK10.out X9 HD9_0.out.rd).mono ?_;rintro e w2 ⟨x,rfl,hx,hr2,hk2⟩;have HC10_0:=Lib.hid (HD9_0.out.call hr2 hk2);have HC10_1:=Lib.hid (HD9_1.out.call hr2 hk2);obtain ⟨A10,c10,rfl⟩:=Kd.R_slice hx;have y4:=blk_cell (v:=(.slice none 0 0)) HC10_1.out.blk 4 rfl;have f4:=blk_free HC10_1.out.blk 4))
          clear y4 f4
          obtain ⟨s10,hs10⟩:∃ s,X9.heap.size=s:=⟨_,rfl⟩
          rw [hs10] at hx
          have HS10:=Lib.hid (show w.heap.size<s10∧B<s10∧V.rb<s10 by
           have h0:=World.block_lt_of_cell? _ _ (blk_cell (v:=(.string ⟨#[]⟩)) HD9_0.out.blk 0 rfl)
           have h1:=World.block_lt_of_cell? _ _ (blk_cell (v:=(.string n)) HD9_1.out.blk 0 rfl)
           have h9:=World.block_lt_of_cell? _ _ HD9_0.out.rd.pos
           simp only at h0 h1 h9;omega)
          clear hs10
          have HXn10:=Lib.hid (show Kd.R k100 100 (w2.setCell ⟨B,4,none⟩ (.slice A10 l.length c10)) s10 (fun k=>s10≤k) (.slice A10 l.length c10) l from (Kd.R_far hx (p:=⟨B,4,none⟩) (fun k hk=>by have:=HS10.out;simp only;omega) (.slice A10 l.length c10)))
          clear hx
          have HD10_0:=Lib.hid (show Bx w (w2.setCell ⟨B,4,none⟩ (.slice A10 l.length c10)) V p q8 w.heap.size 93 #[(.string ⟨#[]⟩),(.string ⟨#[]⟩),(.int .i64 0),(.int .i64 0),(.slice none 0 0),(.int .i64 0),(.bool false),(.string ⟨#[]⟩),(.slice none 0 0),(.bool false),(.int .i64 0)] from HC10_0.out.far HC10_1.out.ge (by have:=HNB.out;omega) 4 (.slice A10 l.length c10))
          have HD10_1:=Lib.hid (show Bx w (w2.setCell ⟨B,4,none⟩ (.slice A10 l.length c10)) V p q8 B 93 #[(.string n),(.string s),(.int .i64 a),(.int .i64 0),(.slice A10 l.length c10),(.int .i64 0),(.bool false),(.string ⟨#[]⟩),(.slice none 0 0),(.bool false),(.int .i64 0)] from HC10_1.out.set 4 (.slice A10 l.length c10))
          clear hr2 hk2 HK10 HD9_0 HD9_1 HC10_0 HC10_1 
          have HX10:=HXn10
          clear HXn10
          generalize (w2.setCell ⟨B,4,none⟩ (.slice A10 l.length c10))=X10 at *
          have HK11:=Lib.hid (fun w1 h1=>arrow_calls V q8 w1 h1)
          have hF11:=HF10.out
          have HLT11:=Lib.hid (Sx.arrow_lt (V:=V) (p:=q8))
          generalize V.arrow q8=aw at *
          have HF11:=Lib.hid hF11
          clear hF11 HF10
          go_upto_region 12 with (first | (go_at_call 92;refine (HK11.out X10 HD10_0.out.rd).mono ?_;rintro e w2 ⟨rfl,hb2⟩;have hr2:=HD10_0.out.rd.below hb2;have hk2:=Keep.of_below (F:=ours V) hb2;clear hb2;have HC11_0:=Lib.hid (HD10_0.out.call hr2 hk2);have HC11_1:=Lib.hid (HD10_1.out.call hr2 hk2);have y5:=blk_cell (v:=(.int .i64 0)) HC11_1.out.blk 5 rfl;have f5:=blk_free HC11_1.out.blk 5))
          clear y5 f5
          have HXn10:=Lib.hid (show Kd.R k100 100 (w2.setCell ⟨B,5,none⟩ (.int .i64 aw)) s10 (fun k=>s10≤k) (.slice A10 l.length c10) l from (Kd.R_far (Kd.R_step HX10.out (fun i hi hlt=>hk2.block i hlt (fun e=>by have:=HS10.out;unfold ours at e;omega))) (p:=⟨B,5,none⟩) (fun k hk=>by have:=HS10.out;simp only;omega) (.int .i64 aw)))
          have HD11_0:=Lib.hid (show Bx w (w2.setCell ⟨B,5,none⟩ (.int .i64 aw)) V p q8 w.heap.size 93 #[(.string ⟨#[]⟩),(.string ⟨#[]⟩),(.int .i64 0),(.int .i64 0),(.slice none 0 0),(.int .i64 0),(.bool false),(.string ⟨#[]⟩),(.slice none 0 0),(.bool false),(.int .i64 0)] from HC11_0.out.far HC11_1.out.ge (by have:=HNB.out;omega) 5 (.int .i64 aw))
          have HD11_1:=Lib.hid (show Bx w (w2.setCell ⟨B,5,none⟩ (.int .i64 aw)) V p q8 B 93 #[(.string n),(.string s),(.int .i64 a),(.int .i64 0),(.slice A10 l.length c10),(.int .i64 aw),(.bool false),(.string ⟨#[]⟩),(.slice none 0 0),(.bool false),(.int .i64 0)] from HC11_1.out.set 5 (.int .i64 aw))
          clear hr2 hk2 HK11 HD10_0 HD10_1 HC11_0 HC11_1 HX10
          have HX10:=HXn10
          clear HXn10
          generalize (w2.setCell ⟨B,5,none⟩ (.int .i64 aw))=X11 at *
          have y5:=blk_cell (v:=(.int .i64 aw)) HD11_1.out.blk 5 rfl
          by_cases hz:aw=0
          ·have HFz:=Lib.hid (show V.rule cal p=V.stop 51 q8 by rw [HF11.out,if_pos hz])
           subst hz
           clear HF11 HLT11
           go_wp2_with (first | (go_at_call 40;refine (stop_calls V q8 51 X11 HD11_0.out.rd).mono ?_;rintro e w4 ⟨rfl,hb⟩))
           refine ⟨rfl,?_⟩
           rw [HFz.out]
           exact ⟨rfl,HD11_0.out.keep.trans (Keep.of_below hb) (fun _ _ h=>h)⟩
          ·have hFz:=HF11.out
           rw [if_neg hz] at hFz
           have HFz:=Lib.hid hFz
           have HQ:=Lib.hid (HLT11.out hz)
           have ez2:(aw==0)=false:=by simpa using hz
           clear hz hFz HF11 HLT11
           go_upto_region 14 with (fail)
           clear y5
           have HT12:=Lib.hid (show q8<V.T.length from HQ.out)
           have hp12:=HD11_0.out.rd.pos
           have hf12:=HD11_0.out.rd.f
           have wz12:IntKind.i64.wrap ((q8:Nat)+1:Int)=((q8+1:Nat):Int):=by have h1:=HD11_0.out.rd.n;have h2:=HT12.out;rw [IntWalk.i64_in _ (by omega)];omega
           go_upto_region 15 with (fail)
           have hs12:=HD11_0.out.rd.step (q8+1) HT12.out
           have hk12:Keep (ours V) X11 (X11.setCell ⟨V.rb,1,none⟩ (.int .i64 ((q8+1:Nat):Int))):=Keep.setCell (F:=ours V) (Keep.refl _ _) (p:=⟨V.rb,1,none⟩) (fun _=>rfl) _
           clear hp12 hf12 wz12
           obtain ⟨X12,hX12⟩:∃ X,X11.setCell ⟨V.rb,1,none⟩ (.int .i64 ((q8+1:Nat):Int))=X:=⟨_,rfl⟩
           rw [hX12] at hs12 hk12
           have hX12b:X11.setCell ⟨V.rb,1,none⟩ (.int .i64 ((q8:Int)+1))=X12:=hX12
           try rw [hX12]
           try rw [hX12b]
           clear hX12 hX12b
           have HD13_0:=Lib.hid (show Bx w X12 V p (q8+1) w.heap.size 93 #[(.string ⟨#[]⟩),(.string ⟨#[]⟩),(.int .i64 0),(.int .i64 0),(.slice none 0 0),(.int .i64 0),(.bool false),(.string ⟨#[]⟩),(.slice none 0 0),(.bool false),(.int .i64 0)] from HD11_0.out.call hs12 hk12)
           have HD13_1:=Lib.hid (show Bx w X12 V p (q8+1) B 93 #[(.string n),(.string s),(.int .i64 a),(.int .i64 0),(.slice A10 l.length c10),(.int .i64 aw),(.bool false),(.string ⟨#[]⟩),(.slice none 0 0),(.bool false),(.int .i64 0)] from HD11_1.out.call hs12 hk12)
           have HXn10:=Lib.hid (show Kd.R k100 100 X12 s10 (fun k=>s10≤k) (.slice A10 l.length c10) l from Kd.R_step HX10.out (fun i hi hlt=>(hk12).block i hlt (fun e=>by have:=HS10.out;unfold ours at e;omega)))
           clear HD11_0 HD11_1 HX10
           have HX10:=HXn10
           clear HXn10
           clear hs12 hk12
           have HK14:=Lib.hid (fun w1 h1=>literal_calls V (q8+1) w1 h1)
           have hF14:=HFz.out
           generalize hr14:V.literal (q8+1)=r14 at hF14 HK14
           cases r14 with
           | bad er a =>
            dsimp only [Res.bnd] at hF14
            have HF14:=Lib.hid hF14
            clear hF14 HFz hr14
            go_wp2_with (first | (go_at_call 95;refine (HK14.out X12 HD13_0.out.rd).mono ?_;rintro e w2 ⟨rfl,hk2⟩))
            refine ⟨rfl,?_⟩
            rw [HF14.out]
            exact ⟨rfl,HD13_0.out.keep.trans hk2 (fun _ _ h=>h)⟩
           | ok h q9 =>
            dsimp only [Res.bnd] at hF14
            have HF14:=Lib.hid hF14
            clear hF14 HFz hr14
            go_upto_region 16 with (first | (go_at_call 95;refine (HK14.out X12 HD13_0.out.rd).mono ?_;rintro e w2 ⟨x,rfl,⟨cs,rfl,hM⟩,hr2,hk2⟩;have HC14_0:=Lib.hid (HD13_0.out.call hr2 hk2);have HC14_1:=Lib.hid (HD13_1.out.call hr2 hk2);obtain ⟨vl,rfl,hx⟩:=k91_openM hM;clear hM;obtain ⟨A14,c14,rfl⟩:=Kd.R_slice hx;have y6:=blk_cell (v:=(.bool false)) HC14_1.out.blk 6 rfl;have f6:=blk_free HC14_1.out.blk 6;have y7:=blk_cell (v:=(.string ⟨#[]⟩)) HC14_1.out.blk 7 rfl;have f7:=blk_free HC14_1.out.blk 7;have y8:=blk_cell (v:=(.slice none 0 0)) HC14_1.out.blk 8 rfl;have f8:=blk_free HC14_1.out.blk 8;have y9:=blk_cell (v:=(.bool false)) HC14_1.out.blk 9 rfl;have f9:=blk_free HC14_1.out.blk 9;have y10:=blk_cell (v:=(.int .i64 0)) HC14_1.out.blk 10 rfl;have f10:=blk_free HC14_1.out.blk 10))
            clear y6 f6 y7 f7 y8 f8 y9 f9 y10 f10
            obtain ⟨s14,hs14⟩:∃ s,X12.heap.size=s:=⟨_,rfl⟩
            rw [hs14] at hx
            have HS14:=Lib.hid (show w.heap.size<s14∧B<s14∧V.rb<s14 by
             have h0:=World.block_lt_of_cell? _ _ (blk_cell (v:=(.string ⟨#[]⟩)) HD13_0.out.blk 0 rfl)
             have h1:=World.block_lt_of_cell? _ _ (blk_cell (v:=(.string n)) HD13_1.out.blk 0 rfl)
             have h9:=World.block_lt_of_cell? _ _ HD13_0.out.rd.pos
             simp only at h0 h1 h9;omega)
            clear hs14
            have HXn10:=Lib.hid (show Kd.R k100 100 (((((w2.setCell ⟨B,6,none⟩ (.bool h.f0)).setCell ⟨B,7,none⟩ (.string h.f1)).setCell ⟨B,8,none⟩ (.slice A14 h.f2.length c14)).setCell ⟨B,9,none⟩ (.bool h.f3)).setCell ⟨B,10,none⟩ (.int .i64 h.f4)) s10 (fun k=>s10≤k) (.slice A10 l.length c10) l from (Kd.R_far (Kd.R_far (Kd.R_far (Kd.R_far (Kd.R_far (Kd.R_step HX10.out (fun i hi hlt=>hk2.block i hlt (fun e=>by have:=HS10.out;unfold ours at e;omega))) (p:=⟨B,6,none⟩) (fun k hk=>by have:=HS10.out;simp only;omega) (.bool h.f0)) (p:=⟨B,7,none⟩) (fun k hk=>by have:=HS10.out;simp only;omega) (.string h.f1)) (p:=⟨B,8,none⟩) (fun k hk=>by have:=HS10.out;simp only;omega) (.slice A14 h.f2.length c14)) (p:=⟨B,9,none⟩) (fun k hk=>by have:=HS10.out;simp only;omega) (.bool h.f3)) (p:=⟨B,10,none⟩) (fun k hk=>by have:=HS10.out;simp only;omega) (.int .i64 h.f4)))
            have HXn14:=Lib.hid (show Kd.R Kd.string 9 (((((w2.setCell ⟨B,6,none⟩ (.bool h.f0)).setCell ⟨B,7,none⟩ (.string h.f1)).setCell ⟨B,8,none⟩ (.slice A14 h.f2.length c14)).setCell ⟨B,9,none⟩ (.bool h.f3)).setCell ⟨B,10,none⟩ (.int .i64 h.f4)) s14 (fun k=>s14≤k) (.slice A14 h.f2.length c14) h.f2 from (Kd.R_far (Kd.R_far (Kd.R_far (Kd.R_far (Kd.R_far hx (p:=⟨B,6,none⟩) (fun k hk=>by have:=HS14.out;simp only;omega) (.bool h.f0)) (p:=⟨B,7,none⟩) (fun k hk=>by have:=HS14.out;simp only;omega) (.string h.f1)) (p:=⟨B,8,none⟩) (fun k hk=>by have:=HS14.out;simp only;omega) (.slice A14 h.f2.length c14)) (p:=⟨B,9,none⟩) (fun k hk=>by have:=HS14.out;simp only;omega) (.bool h.f3)) (p:=⟨B,10,none⟩) (fun k hk=>by have:=HS14.out;simp only;omega) (.int .i64 h.f4)))
            clear hx
            have hD14_0_0:Bx w (w2.setCell ⟨B,6,none⟩ (.bool h.f0)) V p q9 w.heap.size 93 #[(.string ⟨#[]⟩),(.string ⟨#[]⟩),(.int .i64 0),(.int .i64 0),(.slice none 0 0),(.int .i64 0),(.bool false),(.string ⟨#[]⟩),(.slice none 0 0),(.bool false),(.int .i64 0)]:=HC14_0.out.far HC14_1.out.ge (by have:=HNB.out;omega) 6 (.bool h.f0)
            have hD14_0_1:Bx w ((w2.setCell ⟨B,6,none⟩ (.bool h.f0)).setCell ⟨B,7,none⟩ (.string h.f1)) V p q9 w.heap.size 93 #[(.string ⟨#[]⟩),(.string ⟨#[]⟩),(.int .i64 0),(.int .i64 0),(.slice none 0 0),(.int .i64 0),(.bool false),(.string ⟨#[]⟩),(.slice none 0 0),(.bool false),(.int .i64 0)]:=hD14_0_0.far HC14_1.out.ge (by have:=HNB.out;omega) 7 (.string h.f1)
            have hD14_0_2:Bx w (((w2.setCell ⟨B,6,none⟩ (.bool h.f0)).setCell ⟨B,7,none⟩ (.string h.f1)).setCell ⟨B,8,none⟩ (.slice A14 h.f2.length c14)) V p q9 w.heap.size 93 #[(.string ⟨#[]⟩),(.string ⟨#[]⟩),(.int .i64 0),(.int .i64 0),(.slice none 0 0),(.int .i64 0),(.bool false),(.string ⟨#[]⟩),(.slice none 0 0),(.bool false),(.int .i64 0)]:=hD14_0_1.far HC14_1.out.ge (by have:=HNB.out;omega) 8 (.slice A14 h.f2.length c14)
            have hD14_0_3:Bx w ((((w2.setCell ⟨B,6,none⟩ (.bool h.f0)).setCell ⟨B,7,none⟩ (.string h.f1)).setCell ⟨B,8,none⟩ (.slice A14 h.f2.length c14)).setCell ⟨B,9,none⟩ (.bool h.f3)) V p q9 w.heap.size 93 #[(.string ⟨#[]⟩),(.string ⟨#[]⟩),(.int .i64 0),(.int .i64 0),(.slice none 0 0),(.int .i64 0),(.bool false),(.string ⟨#[]⟩),(.slice none 0 0),(.bool false),(.int .i64 0)]:=hD14_0_2.far HC14_1.out.ge (by have:=HNB.out;omega) 9 (.bool h.f3)
            have HD14_0:=Lib.hid (show Bx w (((((w2.setCell ⟨B,6,none⟩ (.bool h.f0)).setCell ⟨B,7,none⟩ (.string h.f1)).setCell ⟨B,8,none⟩ (.slice A14 h.f2.length c14)).setCell ⟨B,9,none⟩ (.bool h.f3)).setCell ⟨B,10,none⟩ (.int .i64 h.f4)) V p q9 w.heap.size 93 #[(.string ⟨#[]⟩),(.string ⟨#[]⟩),(.int .i64 0),(.int .i64 0),(.slice none 0 0),(.int .i64 0),(.bool false),(.string ⟨#[]⟩),(.slice none 0 0),(.bool false),(.int .i64 0)] from hD14_0_3.far HC14_1.out.ge (by have:=HNB.out;omega) 10 (.int .i64 h.f4))
            clear hD14_0_0 hD14_0_1 hD14_0_2 hD14_0_3
            have hD14_1_0:Bx w (w2.setCell ⟨B,6,none⟩ (.bool h.f0)) V p q9 B 93 #[(.string n),(.string s),(.int .i64 a),(.int .i64 0),(.slice A10 l.length c10),(.int .i64 aw),(.bool h.f0),(.string ⟨#[]⟩),(.slice none 0 0),(.bool false),(.int .i64 0)]:=HC14_1.out.set 6 (.bool h.f0)
            have hD14_1_1:Bx w ((w2.setCell ⟨B,6,none⟩ (.bool h.f0)).setCell ⟨B,7,none⟩ (.string h.f1)) V p q9 B 93 #[(.string n),(.string s),(.int .i64 a),(.int .i64 0),(.slice A10 l.length c10),(.int .i64 aw),(.bool h.f0),(.string h.f1),(.slice none 0 0),(.bool false),(.int .i64 0)]:=hD14_1_0.set 7 (.string h.f1)
            have hD14_1_2:Bx w (((w2.setCell ⟨B,6,none⟩ (.bool h.f0)).setCell ⟨B,7,none⟩ (.string h.f1)).setCell ⟨B,8,none⟩ (.slice A14 h.f2.length c14)) V p q9 B 93 #[(.string n),(.string s),(.int .i64 a),(.int .i64 0),(.slice A10 l.length c10),(.int .i64 aw),(.bool h.f0),(.string h.f1),(.slice A14 h.f2.length c14),(.bool false),(.int .i64 0)]:=hD14_1_1.set 8 (.slice A14 h.f2.length c14)
            have hD14_1_3:Bx w ((((w2.setCell ⟨B,6,none⟩ (.bool h.f0)).setCell ⟨B,7,none⟩ (.string h.f1)).setCell ⟨B,8,none⟩ (.slice A14 h.f2.length c14)).setCell ⟨B,9,none⟩ (.bool h.f3)) V p q9 B 93 #[(.string n),(.string s),(.int .i64 a),(.int .i64 0),(.slice A10 l.length c10),(.int .i64 aw),(.bool h.f0),(.string h.f1),(.slice A14 h.f2.length c14),(.bool h.f3),(.int .i64 0)]:=hD14_1_2.set 9 (.bool h.f3)
            have HD14_1:=Lib.hid (show Bx w (((((w2.setCell ⟨B,6,none⟩ (.bool h.f0)).setCell ⟨B,7,none⟩ (.string h.f1)).setCell ⟨B,8,none⟩ (.slice A14 h.f2.length c14)).setCell ⟨B,9,none⟩ (.bool h.f3)).setCell ⟨B,10,none⟩ (.int .i64 h.f4)) V p q9 B 93 #[(.string n),(.string s),(.int .i64 a),(.int .i64 0),(.slice A10 l.length c10),(.int .i64 aw),(.bool h.f0),(.string h.f1),(.slice A14 h.f2.length c14),(.bool h.f3),(.int .i64 h.f4)] from hD14_1_3.set 10 (.int .i64 h.f4))
            clear hD14_1_0 hD14_1_1 hD14_1_2 hD14_1_3
            clear hr2 hk2 HK14 HD13_0 HD13_1 HC14_0 HC14_1 HX10
            have HX10:=HXn10
            clear HXn10
            have HX14:=HXn14
            clear HXn14
            generalize (((((w2.setCell ⟨B,6,none⟩ (.bool h.f0)).setCell ⟨B,7,none⟩ (.string h.f1)).setCell ⟨B,8,none⟩ (.slice A14 h.f2.length c14)).setCell ⟨B,9,none⟩ (.bool h.f3)).setCell ⟨B,10,none⟩ (.int .i64 h.f4))=X14 at *
            have y0:=blk_cell (v:=(.string n)) HD14_1.out.blk 0 rfl
            have y1:=blk_cell (v:=(.string s)) HD14_1.out.blk 1 rfl
            have y2:=blk_cell (v:=(.int .i64 a)) HD14_1.out.blk 2 rfl
            have y3:=blk_cell (v:=(.int .i64 0)) HD14_1.out.blk 3 rfl
            have y4:=blk_cell (v:=(.slice A10 l.length c10)) HD14_1.out.blk 4 rfl
            have y5:=blk_cell (v:=(.int .i64 aw)) HD14_1.out.blk 5 rfl
            have y6:=blk_cell (v:=(.bool h.f0)) HD14_1.out.blk 6 rfl
            have y7:=blk_cell (v:=(.string h.f1)) HD14_1.out.blk 7 rfl
            have y8:=blk_cell (v:=(.slice A14 h.f2.length c14)) HD14_1.out.blk 8 rfl
            have y9:=blk_cell (v:=(.bool h.f3)) HD14_1.out.blk 9 rfl
            have y10:=blk_cell (v:=(.int .i64 h.f4)) HD14_1.out.blk 10 rfl
            have z0:=blk_cell (v:=(.string ⟨#[]⟩)) HD14_0.out.blk 0 rfl
            have z1:=blk_cell (v:=(.string ⟨#[]⟩)) HD14_0.out.blk 1 rfl
            have z2:=blk_cell (v:=(.int .i64 0)) HD14_0.out.blk 2 rfl
            have z3:=blk_cell (v:=(.int .i64 0)) HD14_0.out.blk 3 rfl
            have z4:=blk_cell (v:=(.slice none 0 0)) HD14_0.out.blk 4 rfl
            have z5:=blk_cell (v:=(.int .i64 0)) HD14_0.out.blk 5 rfl
            have z6:=blk_cell (v:=(.bool false)) HD14_0.out.blk 6 rfl
            have z7:=blk_cell (v:=(.string ⟨#[]⟩)) HD14_0.out.blk 7 rfl
            have z8:=blk_cell (v:=(.slice none 0 0)) HD14_0.out.blk 8 rfl
            have z9:=blk_cell (v:=(.bool false)) HD14_0.out.blk 9 rfl
            have z10:=blk_cell (v:=(.int .i64 0)) HD14_0.out.blk 10 rfl
            have g0:=blk_free HD14_0.out.blk 0
            have g1:=blk_free HD14_0.out.blk 1
            have g2:=blk_free HD14_0.out.blk 2
            have g3:=blk_free HD14_0.out.blk 3
            have g4:=blk_free HD14_0.out.blk 4
            have g5:=blk_free HD14_0.out.blk 5
            have g6:=blk_free HD14_0.out.blk 6
            have g7:=blk_free HD14_0.out.blk 7
            have g8:=blk_free HD14_0.out.blk 8
            have g9:=blk_free HD14_0.out.blk 9
            have g10:=blk_free HD14_0.out.blk 10
            go_wp2_with fail
            have hE0:Bx w _ V p q9 w.heap.size 93 #[(.string n),(.string ⟨#[]⟩),(.int .i64 0),(.int .i64 0),(.slice none 0 0),(.int .i64 0),(.bool false),(.string ⟨#[]⟩),(.slice none 0 0),(.bool false),(.int .i64 0)]:=HD14_0.out.set 0 (.string n)
            have hE1:Bx w _ V p q9 w.heap.size 93 #[(.string n),(.string s),(.int .i64 0),(.int .i64 0),(.slice none 0 0),(.int .i64 0),(.bool false),(.string ⟨#[]⟩),(.slice none 0 0),(.bool false),(.int .i64 0)]:=hE0.set 1 (.string s)
            have hE2:Bx w _ V p q9 w.heap.size 93 #[(.string n),(.string s),(.int .i64 a),(.int .i64 0),(.slice none 0 0),(.int .i64 0),(.bool false),(.string ⟨#[]⟩),(.slice none 0 0),(.bool false),(.int .i64 0)]:=hE1.set 2 (.int .i64 a)
            have hE3:Bx w _ V p q9 w.heap.size 93 #[(.string n),(.string s),(.int .i64 a),(.int .i64 0),(.slice none 0 0),(.int .i64 0),(.bool false),(.string ⟨#[]⟩),(.slice none 0 0),(.bool false),(.int .i64 0)]:=hE2.set 3 (.int .i64 0)
            have hE4:Bx w _ V p q9 w.heap.size 93 #[(.string n),(.string s),(.int .i64 a),(.int .i64 0),(.slice A10 l.length c10),(.int .i64 0),(.bool false),(.string ⟨#[]⟩),(.slice none 0 0),(.bool false),(.int .i64 0)]:=hE3.set 4 (.slice A10 l.length c10)
            have hE5:Bx w _ V p q9 w.heap.size 93 #[(.string n),(.string s),(.int .i64 a),(.int .i64 0),(.slice A10 l.length c10),(.int .i64 aw),(.bool false),(.string ⟨#[]⟩),(.slice none 0 0),(.bool false),(.int .i64 0)]:=hE4.set 5 (.int .i64 aw)
            have hE6:Bx w _ V p q9 w.heap.size 93 #[(.string n),(.string s),(.int .i64 a),(.int .i64 0),(.slice A10 l.length c10),(.int .i64 aw),(.bool h.f0),(.string ⟨#[]⟩),(.slice none 0 0),(.bool false),(.int .i64 0)]:=hE5.set 6 (.bool h.f0)
            have hE7:Bx w _ V p q9 w.heap.size 93 #[(.string n),(.string s),(.int .i64 a),(.int .i64 0),(.slice A10 l.length c10),(.int .i64 aw),(.bool h.f0),(.string h.f1),(.slice none 0 0),(.bool false),(.int .i64 0)]:=hE6.set 7 (.string h.f1)
            have hE8:Bx w _ V p q9 w.heap.size 93 #[(.string n),(.string s),(.int .i64 a),(.int .i64 0),(.slice A10 l.length c10),(.int .i64 aw),(.bool h.f0),(.string h.f1),(.slice A14 h.f2.length c14),(.bool false),(.int .i64 0)]:=hE7.set 8 (.slice A14 h.f2.length c14)
            have hE9:Bx w _ V p q9 w.heap.size 93 #[(.string n),(.string s),(.int .i64 a),(.int .i64 0),(.slice A10 l.length c10),(.int .i64 aw),(.bool h.f0),(.string h.f1),(.slice A14 h.f2.length c14),(.bool h.f3),(.int .i64 0)]:=hE8.set 9 (.bool h.f3)
            have hE:Bx w _ V p q9 w.heap.size 93 #[(.string n),(.string s),(.int .i64 a),(.int .i64 0),(.slice A10 l.length c10),(.int .i64 aw),(.bool h.f0),(.string h.f1),(.slice A14 h.f2.length c14),(.bool h.f3),(.int .i64 h.f4)]:=hE9.set 10 (.int .i64 h.f4)
            refine bodyPost_ret (results_cell_row rfl _ _ w.heap.size 93 #[(.string n),(.string s),(.int .i64 a),(.int .i64 0),(.slice A10 l.length c10),(.int .i64 aw),(.bool h.f0),(.string h.f1),(.slice A14 h.f2.length c14),(.bool h.f3),(.int .i64 h.f4)] (0,0) _ rfl hE.blk Tryz.underlying93 rfl rfl) rfl ?_
            rw [HF14.out]
            have hy10:Kd.R k100 100 _ s10 (fun k=>s10≤k) (.slice A10 l.length c10) l:=(Kd.R_far (Kd.R_far (Kd.R_far (Kd.R_far (Kd.R_far (Kd.R_far (Kd.R_far (Kd.R_far (Kd.R_far (Kd.R_far (Kd.R_far HX10.out (p:=⟨w.heap.size,0,none⟩) (fun k hk=>by have:=HS10.out;simp only;omega) (.string n)) (p:=⟨w.heap.size,1,none⟩) (fun k hk=>by have:=HS10.out;simp only;omega) (.string s)) (p:=⟨w.heap.size,2,none⟩) (fun k hk=>by have:=HS10.out;simp only;omega) (.int .i64 a)) (p:=⟨w.heap.size,3,none⟩) (fun k hk=>by have:=HS10.out;simp only;omega) (.int .i64 0)) (p:=⟨w.heap.size,4,none⟩) (fun k hk=>by have:=HS10.out;simp only;omega) (.slice A10 l.length c10)) (p:=⟨w.heap.size,5,none⟩) (fun k hk=>by have:=HS10.out;simp only;omega) (.int .i64 aw)) (p:=⟨w.heap.size,6,none⟩) (fun k hk=>by have:=HS10.out;simp only;omega) (.bool h.f0)) (p:=⟨w.heap.size,7,none⟩) (fun k hk=>by have:=HS10.out;simp only;omega) (.string h.f1)) (p:=⟨w.heap.size,8,none⟩) (fun k hk=>by have:=HS10.out;simp only;omega) (.slice A14 h.f2.length c14)) (p:=⟨w.heap.size,9,none⟩) (fun k hk=>by have:=HS10.out;simp only;omega) (.bool h.f3)) (p:=⟨w.heap.size,10,none⟩) (fun k hk=>by have:=HS10.out;simp only;omega) (.int .i64 h.f4))
            have hz10:=Kd.R_lower (Kd.R_mono hy10 (ok':=fun k=>w.heap.size≤k) (fun k hk=>by have:=HS10.out;omega)) (base':=w.heap.size) (by have:=HS10.out;omega)
            have hy14:Kd.R Kd.string 9 _ s14 (fun k=>s14≤k) (.slice A14 h.f2.length c14) h.f2:=(Kd.R_far (Kd.R_far (Kd.R_far (Kd.R_far (Kd.R_far (Kd.R_far (Kd.R_far (Kd.R_far (Kd.R_far (Kd.R_far (Kd.R_far HX14.out (p:=⟨w.heap.size,0,none⟩) (fun k hk=>by have:=HS14.out;simp only;omega) (.string n)) (p:=⟨w.heap.size,1,none⟩) (fun k hk=>by have:=HS14.out;simp only;omega) (.string s)) (p:=⟨w.heap.size,2,none⟩) (fun k hk=>by have:=HS14.out;simp only;omega) (.int .i64 a)) (p:=⟨w.heap.size,3,none⟩) (fun k hk=>by have:=HS14.out;simp only;omega) (.int .i64 0)) (p:=⟨w.heap.size,4,none⟩) (fun k hk=>by have:=HS14.out;simp only;omega) (.slice A10 l.length c10)) (p:=⟨w.heap.size,5,none⟩) (fun k hk=>by have:=HS14.out;simp only;omega) (.int .i64 aw)) (p:=⟨w.heap.size,6,none⟩) (fun k hk=>by have:=HS14.out;simp only;omega) (.bool h.f0)) (p:=⟨w.heap.size,7,none⟩) (fun k hk=>by have:=HS14.out;simp only;omega) (.string h.f1)) (p:=⟨w.heap.size,8,none⟩) (fun k hk=>by have:=HS14.out;simp only;omega) (.slice A14 h.f2.length c14)) (p:=⟨w.heap.size,9,none⟩) (fun k hk=>by have:=HS14.out;simp only;omega) (.bool h.f3)) (p:=⟨w.heap.size,10,none⟩) (fun k hk=>by have:=HS14.out;simp only;omega) (.int .i64 h.f4))
            have hz14:=Kd.R_lower (Kd.R_mono hy14 (ok':=fun k=>w.heap.size≤k) (fun k hk=>by have:=HS14.out;omega)) (base':=w.heap.size) (by have:=HS14.out;omega)
            exact ⟨_,rfl,⟨_,rfl,k93_mkM _ _ _ (⟨n,s,a,0,l,aw,h⟩:S93) hz10 hz14⟩,hE.rd,hE.keep⟩
        ·rw [if_neg hz] at hF9
         have ez:(V.arrow q7==0)=false:=by simpa using hz
         clear hz
         try dsimp only [Res.bnd] at hF9
         have HF9:=Lib.hid hF9
         clear hF9
         go_upto_region 11 with (first | (go_at_call 92;refine (HK9.out X8 HD8_0.out.rd).mono ?_;rintro e X9 ⟨rfl,hb2⟩;have hr2:=HD8_0.out.rd.below hb2;have hk2:=Keep.of_below (F:=ours V) hb2;clear hb2;have HC9_0:=Lib.hid (HD8_0.out.call hr2 hk2);have HC9_1:=Lib.hid (HD8_1.out.call hr2 hk2)))
         have HD9_0:=Lib.hid (show Bx w X9 V p q7 w.heap.size 93 #[(.string ⟨#[]⟩),(.string ⟨#[]⟩),(.int .i64 0),(.int .i64 0),(.slice none 0 0),(.int .i64 0),(.bool false),(.string ⟨#[]⟩),(.slice none 0 0),(.bool false),(.int .i64 0)] from HC9_0.out)
         have HD9_1:=Lib.hid (show Bx w X9 V p q7 B 93 #[(.string n),(.string s),(.int .i64 a),(.int .i64 0),(.slice none 0 0),(.int .i64 0),(.bool false),(.string ⟨#[]⟩),(.slice none 0 0),(.bool false),(.int .i64 0)] from HC9_1.out)
         clear hr2 hk2 HK9 HD8_0 HD8_1 HC9_0 HC9_1 
         have HK15:=Lib.hid (fun w1 h1=>arrow_calls V q7 w1 h1)
         have hF15:=HF9.out
         have HLT15:=Lib.hid (Sx.arrow_lt (V:=V) (p:=q7))
         generalize V.arrow q7=aw at *
         have HF15:=Lib.hid hF15
         clear hF15 HF9
         go_upto_region 12 with (first | (go_at_call 92;refine (HK15.out X9 HD9_0.out.rd).mono ?_;rintro e w2 ⟨rfl,hb2⟩;have hr2:=HD9_0.out.rd.below hb2;have hk2:=Keep.of_below (F:=ours V) hb2;clear hb2;have HC15_0:=Lib.hid (HD9_0.out.call hr2 hk2);have HC15_1:=Lib.hid (HD9_1.out.call hr2 hk2);have y5:=blk_cell (v:=(.int .i64 0)) HC15_1.out.blk 5 rfl;have f5:=blk_free HC15_1.out.blk 5))
         clear y5 f5
         have HD15_0:=Lib.hid (show Bx w (w2.setCell ⟨B,5,none⟩ (.int .i64 aw)) V p q7 w.heap.size 93 #[(.string ⟨#[]⟩),(.string ⟨#[]⟩),(.int .i64 0),(.int .i64 0),(.slice none 0 0),(.int .i64 0),(.bool false),(.string ⟨#[]⟩),(.slice none 0 0),(.bool false),(.int .i64 0)] from HC15_0.out.far HC15_1.out.ge (by have:=HNB.out;omega) 5 (.int .i64 aw))
         have HD15_1:=Lib.hid (show Bx w (w2.setCell ⟨B,5,none⟩ (.int .i64 aw)) V p q7 B 93 #[(.string n),(.string s),(.int .i64 a),(.int .i64 0),(.slice none 0 0),(.int .i64 aw),(.bool false),(.string ⟨#[]⟩),(.slice none 0 0),(.bool false),(.int .i64 0)] from HC15_1.out.set 5 (.int .i64 aw))
         clear hr2 hk2 HK15 HD9_0 HD9_1 HC15_0 HC15_1 
         generalize (w2.setCell ⟨B,5,none⟩ (.int .i64 aw))=X15 at *
         have y5:=blk_cell (v:=(.int .i64 aw)) HD15_1.out.blk 5 rfl
         by_cases hz:aw=0
         ·have HFz:=Lib.hid (show V.rule cal p=V.stop 51 q7 by rw [HF15.out,if_pos hz])
          subst hz
          clear HF15 HLT15
          go_wp2_with (first | (go_at_call 40;refine (stop_calls V q7 51 X15 HD15_0.out.rd).mono ?_;rintro e w4 ⟨rfl,hb⟩))
          refine ⟨rfl,?_⟩
          rw [HFz.out]
          exact ⟨rfl,HD15_0.out.keep.trans (Keep.of_below hb) (fun _ _ h=>h)⟩
         ·have hFz:=HF15.out
          rw [if_neg hz] at hFz
          have HFz:=Lib.hid hFz
          have HQ:=Lib.hid (HLT15.out hz)
          have ez2:(aw==0)=false:=by simpa using hz
          clear hz hFz HF15 HLT15
          go_upto_region 14 with (fail)
          clear y5
          have HT16:=Lib.hid (show q7<V.T.length from HQ.out)
          have hp16:=HD15_0.out.rd.pos
          have hf16:=HD15_0.out.rd.f
          have wz16:IntKind.i64.wrap ((q7:Nat)+1:Int)=((q7+1:Nat):Int):=by have h1:=HD15_0.out.rd.n;have h2:=HT16.out;rw [IntWalk.i64_in _ (by omega)];omega
          go_upto_region 15 with (fail)
          have hs16:=HD15_0.out.rd.step (q7+1) HT16.out
          have hk16:Keep (ours V) X15 (X15.setCell ⟨V.rb,1,none⟩ (.int .i64 ((q7+1:Nat):Int))):=Keep.setCell (F:=ours V) (Keep.refl _ _) (p:=⟨V.rb,1,none⟩) (fun _=>rfl) _
          clear hp16 hf16 wz16
          obtain ⟨X16,hX16⟩:∃ X,X15.setCell ⟨V.rb,1,none⟩ (.int .i64 ((q7+1:Nat):Int))=X:=⟨_,rfl⟩
          rw [hX16] at hs16 hk16
          have hX16b:X15.setCell ⟨V.rb,1,none⟩ (.int .i64 ((q7:Int)+1))=X16:=hX16
          try rw [hX16]
          try rw [hX16b]
          clear hX16 hX16b
          have HD17_0:=Lib.hid (show Bx w X16 V p (q7+1) w.heap.size 93 #[(.string ⟨#[]⟩),(.string ⟨#[]⟩),(.int .i64 0),(.int .i64 0),(.slice none 0 0),(.int .i64 0),(.bool false),(.string ⟨#[]⟩),(.slice none 0 0),(.bool false),(.int .i64 0)] from HD15_0.out.call hs16 hk16)
          have HD17_1:=Lib.hid (show Bx w X16 V p (q7+1) B 93 #[(.string n),(.string s),(.int .i64 a),(.int .i64 0),(.slice none 0 0),(.int .i64 aw),(.bool false),(.string ⟨#[]⟩),(.slice none 0 0),(.bool false),(.int .i64 0)] from HD15_1.out.call hs16 hk16)
          clear HD15_0 HD15_1
          clear hs16 hk16
          have HK18:=Lib.hid (fun w1 h1=>literal_calls V (q7+1) w1 h1)
          have hF18:=HFz.out
          generalize hr18:V.literal (q7+1)=r18 at hF18 HK18
          cases r18 with
          | bad er a =>
           dsimp only [Res.bnd] at hF18
           have HF18:=Lib.hid hF18
           clear hF18 HFz hr18
           go_wp2_with (first | (go_at_call 95;refine (HK18.out X16 HD17_0.out.rd).mono ?_;rintro e w2 ⟨rfl,hk2⟩))
           refine ⟨rfl,?_⟩
           rw [HF18.out]
           exact ⟨rfl,HD17_0.out.keep.trans hk2 (fun _ _ h=>h)⟩
          | ok h q9 =>
           dsimp only [Res.bnd] at hF18
           have HF18:=Lib.hid hF18
           clear hF18 HFz hr18
           go_upto_region 16 with (first | (go_at_call 95;refine (HK18.out X16 HD17_0.out.rd).mono ?_;rintro e w2 ⟨x,rfl,⟨cs,rfl,hM⟩,hr2,hk2⟩;have HC18_0:=Lib.hid (HD17_0.out.call hr2 hk2);have HC18_1:=Lib.hid (HD17_1.out.call hr2 hk2);obtain ⟨vl,rfl,hx⟩:=k91_openM hM;clear hM;obtain ⟨A18,c18,rfl⟩:=Kd.R_slice hx;have y6:=blk_cell (v:=(.bool false)) HC18_1.out.blk 6 rfl;have f6:=blk_free HC18_1.out.blk 6;have y7:=blk_cell (v:=(.string ⟨#[]⟩)) HC18_1.out.blk 7 rfl;have f7:=blk_free HC18_1.out.blk 7;have y8:=blk_cell (v:=(.slice none 0 0)) HC18_1.out.blk 8 rfl;have f8:=blk_free HC18_1.out.blk 8;have y9:=blk_cell (v:=(.bool false)) HC18_1.out.blk 9 rfl;have f9:=blk_free HC18_1.out.blk 9;have y10:=blk_cell (v:=(.int .i64 0)) HC18_1.out.blk 10 rfl;have f10:=blk_free HC18_1.out.blk 10))
           clear y6 f6 y7 f7 y8 f8 y9 f9 y10 f10
           obtain ⟨s18,hs18⟩:∃ s,X16.heap.size=s:=⟨_,rfl⟩
           rw [hs18] at hx
           have HS18:=Lib.hid (show w.heap.size<s18∧B<s18∧V.rb<s18 by
            have h0:=World.block_lt_of_cell? _ _ (blk_cell (v:=(.string ⟨#[]⟩)) HD17_0.out.blk 0 rfl)
            have h1:=World.block_lt_of_cell? _ _ (blk_cell (v:=(.string n)) HD17_1.out.blk 0 rfl)
            have h9:=World.block_lt_of_cell? _ _ HD17_0.out.rd.pos
            simp only at h0 h1 h9;omega)
           clear hs18
           have HXn18:=Lib.hid (show Kd.R Kd.string 9 (((((w2.setCell ⟨B,6,none⟩ (.bool h.f0)).setCell ⟨B,7,none⟩ (.string h.f1)).setCell ⟨B,8,none⟩ (.slice A18 h.f2.length c18)).setCell ⟨B,9,none⟩ (.bool h.f3)).setCell ⟨B,10,none⟩ (.int .i64 h.f4)) s18 (fun k=>s18≤k) (.slice A18 h.f2.length c18) h.f2 from (Kd.R_far (Kd.R_far (Kd.R_far (Kd.R_far (Kd.R_far hx (p:=⟨B,6,none⟩) (fun k hk=>by have:=HS18.out;simp only;omega) (.bool h.f0)) (p:=⟨B,7,none⟩) (fun k hk=>by have:=HS18.out;simp only;omega) (.string h.f1)) (p:=⟨B,8,none⟩) (fun k hk=>by have:=HS18.out;simp only;omega) (.slice A18 h.f2.length c18)) (p:=⟨B,9,none⟩) (fun k hk=>by have:=HS18.out;simp only;omega) (.bool h.f3)) (p:=⟨B,10,none⟩) (fun k hk=>by have:=HS18.out;simp only;omega) (.int .i64 h.f4)))
           clear hx
           have hD18_0_0:Bx w (w2.setCell ⟨B,6,none⟩ (.bool h.f0)) V p q9 w.heap.size 93 #[(.string ⟨#[]⟩),(.string ⟨#[]⟩),(.int .i64 0),(.int .i64 0),(.slice none 0 0),(.int .i64 0),(.bool false),(.string ⟨#[]⟩),(.slice none 0 0),(.bool false),(.int .i64 0)]:=HC18_0.out.far HC18_1.out.ge (by have:=HNB.out;omega) 6 (.bool h.f0)
           have hD18_0_1:Bx w ((w2.setCell ⟨B,6,none⟩ (.bool h.f0)).setCell ⟨B,7,none⟩ (.string h.f1)) V p q9 w.heap.size 93 #[(.string ⟨#[]⟩),(.string ⟨#[]⟩),(.int .i64 0),(.int .i64 0),(.slice none 0 0),(.int .i64 0),(.bool false),(.string ⟨#[]⟩),(.slice none 0 0),(.bool false),(.int .i64 0)]:=hD18_0_0.far HC18_1.out.ge (by have:=HNB.out;omega) 7 (.string h.f1)
           have hD18_0_2:Bx w (((w2.setCell ⟨B,6,none⟩ (.bool h.f0)).setCell ⟨B,7,none⟩ (.string h.f1)).setCell ⟨B,8,none⟩ (.slice A18 h.f2.length c18)) V p q9 w.heap.size 93 #[(.string ⟨#[]⟩),(.string ⟨#[]⟩),(.int .i64 0),(.int .i64 0),(.slice none 0 0),(.int .i64 0),(.bool false),(.string ⟨#[]⟩),(.slice none 0 0),(.bool false),(.int .i64 0)]:=hD18_0_1.far HC18_1.out.ge (by have:=HNB.out;omega) 8 (.slice A18 h.f2.length c18)
           have hD18_0_3:Bx w ((((w2.setCell ⟨B,6,none⟩ (.bool h.f0)).setCell ⟨B,7,none⟩ (.string h.f1)).setCell ⟨B,8,none⟩ (.slice A18 h.f2.length c18)).setCell ⟨B,9,none⟩ (.bool h.f3)) V p q9 w.heap.size 93 #[(.string ⟨#[]⟩),(.string ⟨#[]⟩),(.int .i64 0),(.int .i64 0),(.slice none 0 0),(.int .i64 0),(.bool false),(.string ⟨#[]⟩),(.slice none 0 0),(.bool false),(.int .i64 0)]:=hD18_0_2.far HC18_1.out.ge (by have:=HNB.out;omega) 9 (.bool h.f3)
           have HD18_0:=Lib.hid (show Bx w (((((w2.setCell ⟨B,6,none⟩ (.bool h.f0)).setCell ⟨B,7,none⟩ (.string h.f1)).setCell ⟨B,8,none⟩ (.slice A18 h.f2.length c18)).setCell ⟨B,9,none⟩ (.bool h.f3)).setCell ⟨B,10,none⟩ (.int .i64 h.f4)) V p q9 w.heap.size 93 #[(.string ⟨#[]⟩),(.string ⟨#[]⟩),(.int .i64 0),(.int .i64 0),(.slice none 0 0),(.int .i64 0),(.bool false),(.string ⟨#[]⟩),(.slice none 0 0),(.bool false),(.int .i64 0)] from hD18_0_3.far HC18_1.out.ge (by have:=HNB.out;omega) 10 (.int .i64 h.f4))
           clear hD18_0_0 hD18_0_1 hD18_0_2 hD18_0_3
           have hD18_1_0:Bx w (w2.setCell ⟨B,6,none⟩ (.bool h.f0)) V p q9 B 93 #[(.string n),(.string s),(.int .i64 a),(.int .i64 0),(.slice none 0 0),(.int .i64 aw),(.bool h.f0),(.string ⟨#[]⟩),(.slice none 0 0),(.bool false),(.int .i64 0)]:=HC18_1.out.set 6 (.bool h.f0)
           have hD18_1_1:Bx w ((w2.setCell ⟨B,6,none⟩ (.bool h.f0)).setCell ⟨B,7,none⟩ (.string h.f1)) V p q9 B 93 #[(.string n),(.string s),(.int .i64 a),(.int .i64 0),(.slice none 0 0),(.int .i64 aw),(.bool h.f0),(.string h.f1),(.slice none 0 0),(.bool false),(.int .i64 0)]:=hD18_1_0.set 7 (.string h.f1)
           have hD18_1_2:Bx w (((w2.setCell ⟨B,6,none⟩ (.bool h.f0)).setCell ⟨B,7,none⟩ (.string h.f1)).setCell ⟨B,8,none⟩ (.slice A18 h.f2.length c18)) V p q9 B 93 #[(.string n),(.string s),(.int .i64 a),(.int .i64 0),(.slice none 0 0),(.int .i64 aw),(.bool h.f0),(.string h.f1),(.slice A18 h.f2.length c18),(.bool false),(.int .i64 0)]:=hD18_1_1.set 8 (.slice A18 h.f2.length c18)
           have hD18_1_3:Bx w ((((w2.setCell ⟨B,6,none⟩ (.bool h.f0)).setCell ⟨B,7,none⟩ (.string h.f1)).setCell ⟨B,8,none⟩ (.slice A18 h.f2.length c18)).setCell ⟨B,9,none⟩ (.bool h.f3)) V p q9 B 93 #[(.string n),(.string s),(.int .i64 a),(.int .i64 0),(.slice none 0 0),(.int .i64 aw),(.bool h.f0),(.string h.f1),(.slice A18 h.f2.length c18),(.bool h.f3),(.int .i64 0)]:=hD18_1_2.set 9 (.bool h.f3)
           have HD18_1:=Lib.hid (show Bx w (((((w2.setCell ⟨B,6,none⟩ (.bool h.f0)).setCell ⟨B,7,none⟩ (.string h.f1)).setCell ⟨B,8,none⟩ (.slice A18 h.f2.length c18)).setCell ⟨B,9,none⟩ (.bool h.f3)).setCell ⟨B,10,none⟩ (.int .i64 h.f4)) V p q9 B 93 #[(.string n),(.string s),(.int .i64 a),(.int .i64 0),(.slice none 0 0),(.int .i64 aw),(.bool h.f0),(.string h.f1),(.slice A18 h.f2.length c18),(.bool h.f3),(.int .i64 h.f4)] from hD18_1_3.set 10 (.int .i64 h.f4))
           clear hD18_1_0 hD18_1_1 hD18_1_2 hD18_1_3
           clear hr2 hk2 HK18 HD17_0 HD17_1 HC18_0 HC18_1 
           have HX18:=HXn18
           clear HXn18
           generalize (((((w2.setCell ⟨B,6,none⟩ (.bool h.f0)).setCell ⟨B,7,none⟩ (.string h.f1)).setCell ⟨B,8,none⟩ (.slice A18 h.f2.length c18)).setCell ⟨B,9,none⟩ (.bool h.f3)).setCell ⟨B,10,none⟩ (.int .i64 h.f4))=X18 at *
           have y0:=blk_cell (v:=(.string n)) HD18_1.out.blk 0 rfl
           have y1:=blk_cell (v:=(.string s)) HD18_1.out.blk 1 rfl
           have y2:=blk_cell (v:=(.int .i64 a)) HD18_1.out.blk 2 rfl
           have y3:=blk_cell (v:=(.int .i64 0)) HD18_1.out.blk 3 rfl
           have y4:=blk_cell (v:=(.slice none 0 0)) HD18_1.out.blk 4 rfl
           have y5:=blk_cell (v:=(.int .i64 aw)) HD18_1.out.blk 5 rfl
           have y6:=blk_cell (v:=(.bool h.f0)) HD18_1.out.blk 6 rfl
           have y7:=blk_cell (v:=(.string h.f1)) HD18_1.out.blk 7 rfl
           have y8:=blk_cell (v:=(.slice A18 h.f2.length c18)) HD18_1.out.blk 8 rfl
           have y9:=blk_cell (v:=(.bool h.f3)) HD18_1.out.blk 9 rfl
           have y10:=blk_cell (v:=(.int .i64 h.f4)) HD18_1.out.blk 10 rfl
           have z0:=blk_cell (v:=(.string ⟨#[]⟩)) HD18_0.out.blk 0 rfl
           have z1:=blk_cell (v:=(.string ⟨#[]⟩)) HD18_0.out.blk 1 rfl
           have z2:=blk_cell (v:=(.int .i64 0)) HD18_0.out.blk 2 rfl
           have z3:=blk_cell (v:=(.int .i64 0)) HD18_0.out.blk 3 rfl
           have z4:=blk_cell (v:=(.slice none 0 0)) HD18_0.out.blk 4 rfl
           have z5:=blk_cell (v:=(.int .i64 0)) HD18_0.out.blk 5 rfl
           have z6:=blk_cell (v:=(.bool false)) HD18_0.out.blk 6 rfl
           have z7:=blk_cell (v:=(.string ⟨#[]⟩)) HD18_0.out.blk 7 rfl
           have z8:=blk_cell (v:=(.slice none 0 0)) HD18_0.out.blk 8 rfl
           have z9:=blk_cell (v:=(.bool false)) HD18_0.out.blk 9 rfl
           have z10:=blk_cell (v:=(.int .i64 0)) HD18_0.out.blk 10 rfl
           have g0:=blk_free HD18_0.out.blk 0
           have g1:=blk_free HD18_0.out.blk 1
           have g2:=blk_free HD18_0.out.blk 2
           have g3:=blk_free HD18_0.out.blk 3
           have g4:=blk_free HD18_0.out.blk 4
           have g5:=blk_free HD18_0.out.blk 5
           have g6:=blk_free HD18_0.out.blk 6
           have g7:=blk_free HD18_0.out.blk 7
           have g8:=blk_free HD18_0.out.blk 8
           have g9:=blk_free HD18_0.out.blk 9
           have g10:=blk_free HD18_0.out.blk 10
           go_wp2_with fail
           have hE0:Bx w _ V p q9 w.heap.size 93 #[(.string n),(.string ⟨#[]⟩),(.int .i64 0),(.int .i64 0),(.slice none 0 0),(.int .i64 0),(.bool false),(.string ⟨#[]⟩),(.slice none 0 0),(.bool false),(.int .i64 0)]:=HD18_0.out.set 0 (.string n)
           have hE1:Bx w _ V p q9 w.heap.size 93 #[(.string n),(.string s),(.int .i64 0),(.int .i64 0),(.slice none 0 0),(.int .i64 0),(.bool false),(.string ⟨#[]⟩),(.slice none 0 0),(.bool false),(.int .i64 0)]:=hE0.set 1 (.string s)
           have hE2:Bx w _ V p q9 w.heap.size 93 #[(.string n),(.string s),(.int .i64 a),(.int .i64 0),(.slice none 0 0),(.int .i64 0),(.bool false),(.string ⟨#[]⟩),(.slice none 0 0),(.bool false),(.int .i64 0)]:=hE1.set 2 (.int .i64 a)
           have hE3:Bx w _ V p q9 w.heap.size 93 #[(.string n),(.string s),(.int .i64 a),(.int .i64 0),(.slice none 0 0),(.int .i64 0),(.bool false),(.string ⟨#[]⟩),(.slice none 0 0),(.bool false),(.int .i64 0)]:=hE2.set 3 (.int .i64 0)
           have hE4:Bx w _ V p q9 w.heap.size 93 #[(.string n),(.string s),(.int .i64 a),(.int .i64 0),(.slice none 0 0),(.int .i64 0),(.bool false),(.string ⟨#[]⟩),(.slice none 0 0),(.bool false),(.int .i64 0)]:=hE3.set 4 (.slice none 0 0)
           have hE5:Bx w _ V p q9 w.heap.size 93 #[(.string n),(.string s),(.int .i64 a),(.int .i64 0),(.slice none 0 0),(.int .i64 aw),(.bool false),(.string ⟨#[]⟩),(.slice none 0 0),(.bool false),(.int .i64 0)]:=hE4.set 5 (.int .i64 aw)
           have hE6:Bx w _ V p q9 w.heap.size 93 #[(.string n),(.string s),(.int .i64 a),(.int .i64 0),(.slice none 0 0),(.int .i64 aw),(.bool h.f0),(.string ⟨#[]⟩),(.slice none 0 0),(.bool false),(.int .i64 0)]:=hE5.set 6 (.bool h.f0)
           have hE7:Bx w _ V p q9 w.heap.size 93 #[(.string n),(.string s),(.int .i64 a),(.int .i64 0),(.slice none 0 0),(.int .i64 aw),(.bool h.f0),(.string h.f1),(.slice none 0 0),(.bool false),(.int .i64 0)]:=hE6.set 7 (.string h.f1)
           have hE8:Bx w _ V p q9 w.heap.size 93 #[(.string n),(.string s),(.int .i64 a),(.int .i64 0),(.slice none 0 0),(.int .i64 aw),(.bool h.f0),(.string h.f1),(.slice A18 h.f2.length c18),(.bool false),(.int .i64 0)]:=hE7.set 8 (.slice A18 h.f2.length c18)
           have hE9:Bx w _ V p q9 w.heap.size 93 #[(.string n),(.string s),(.int .i64 a),(.int .i64 0),(.slice none 0 0),(.int .i64 aw),(.bool h.f0),(.string h.f1),(.slice A18 h.f2.length c18),(.bool h.f3),(.int .i64 0)]:=hE8.set 9 (.bool h.f3)
           have hE:Bx w _ V p q9 w.heap.size 93 #[(.string n),(.string s),(.int .i64 a),(.int .i64 0),(.slice none 0 0),(.int .i64 aw),(.bool h.f0),(.string h.f1),(.slice A18 h.f2.length c18),(.bool h.f3),(.int .i64 h.f4)]:=hE9.set 10 (.int .i64 h.f4)
           refine bodyPost_ret (results_cell_row rfl _ _ w.heap.size 93 #[(.string n),(.string s),(.int .i64 a),(.int .i64 0),(.slice none 0 0),(.int .i64 aw),(.bool h.f0),(.string h.f1),(.slice A18 h.f2.length c18),(.bool h.f3),(.int .i64 h.f4)] (0,0) _ rfl hE.blk Tryz.underlying93 rfl rfl) rfl ?_
           rw [HF18.out]
           have hy18:Kd.R Kd.string 9 _ s18 (fun k=>s18≤k) (.slice A18 h.f2.length c18) h.f2:=(Kd.R_far (Kd.R_far (Kd.R_far (Kd.R_far (Kd.R_far (Kd.R_far (Kd.R_far (Kd.R_far (Kd.R_far (Kd.R_far (Kd.R_far HX18.out (p:=⟨w.heap.size,0,none⟩) (fun k hk=>by have:=HS18.out;simp only;omega) (.string n)) (p:=⟨w.heap.size,1,none⟩) (fun k hk=>by have:=HS18.out;simp only;omega) (.string s)) (p:=⟨w.heap.size,2,none⟩) (fun k hk=>by have:=HS18.out;simp only;omega) (.int .i64 a)) (p:=⟨w.heap.size,3,none⟩) (fun k hk=>by have:=HS18.out;simp only;omega) (.int .i64 0)) (p:=⟨w.heap.size,4,none⟩) (fun k hk=>by have:=HS18.out;simp only;omega) (.slice none 0 0)) (p:=⟨w.heap.size,5,none⟩) (fun k hk=>by have:=HS18.out;simp only;omega) (.int .i64 aw)) (p:=⟨w.heap.size,6,none⟩) (fun k hk=>by have:=HS18.out;simp only;omega) (.bool h.f0)) (p:=⟨w.heap.size,7,none⟩) (fun k hk=>by have:=HS18.out;simp only;omega) (.string h.f1)) (p:=⟨w.heap.size,8,none⟩) (fun k hk=>by have:=HS18.out;simp only;omega) (.slice A18 h.f2.length c18)) (p:=⟨w.heap.size,9,none⟩) (fun k hk=>by have:=HS18.out;simp only;omega) (.bool h.f3)) (p:=⟨w.heap.size,10,none⟩) (fun k hk=>by have:=HS18.out;simp only;omega) (.int .i64 h.f4))
           have hz18:=Kd.R_lower (Kd.R_mono hy18 (ok':=fun k=>w.heap.size≤k) (fun k hk=>by have:=HS18.out;omega)) (base':=w.heap.size) (by have:=HS18.out;omega)
           exact ⟨_,rfl,⟨_,rfl,k93_mkM _ _ _ (⟨n,s,a,0,[],aw,h⟩:S93) (Kd.R_nil _ _ _ _ _) hz18⟩,hE.rd,hE.keep⟩
      ·simp only [if_true,Bool.false_eq_true,if_false] at hF6
       try dsimp only [Res.bnd] at hF6
       have HF6:=Lib.hid hF6
       clear hF6 hr6
       go_upto_region 7 with (first | (go_at_call 38;refine (HK6.out X5 HD5_0.out.rd).mono ?_;rintro e X6 ⟨rfl,hr2,hk2⟩))
       simp only [if_true,Bool.false_eq_true,if_false] at hr2
       have HD19_0:=Lib.hid (show Bx w X6 V p (q5+1) w.heap.size 93 #[(.string ⟨#[]⟩),(.string ⟨#[]⟩),(.int .i64 0),(.int .i64 0),(.slice none 0 0),(.int .i64 0),(.bool false),(.string ⟨#[]⟩),(.slice none 0 0),(.bool false),(.int .i64 0)] from HD5_0.out.call hr2 hk2)
       have HD19_1:=Lib.hid (show Bx w X6 V p (q5+1) B 93 #[(.string n),(.string s),(.int .i64 a),(.int .i64 0),(.slice none 0 0),(.int .i64 0),(.bool false),(.string ⟨#[]⟩),(.slice none 0 0),(.bool false),(.int .i64 0)] from HD5_1.out.call hr2 hk2)
       clear HD5_0 HD5_1
       clear hr2 hk2 HK6
       have HK20:=Lib.hid (fun w1 h1=>day_calls V cal hC.out (q5+1) w1 h1)
       have hF20:=HF6.out
       generalize hr20:V.day cal (q5+1)=r20 at hF20 HK20
       cases r20 with
       | bad er a =>
        dsimp only [Res.bnd] at hF20
        have HF20:=Lib.hid hF20
        clear hF20 HF6 hr20
        go_wp2_with (first | (go_at_call 91;refine (HK20.out X6 HD19_0.out.rd).mono ?_;rintro e w2 ⟨rfl,hk2⟩))
        refine ⟨rfl,?_⟩
        rw [HF20.out]
        exact ⟨rfl,HD19_0.out.keep.trans hk2 (fun _ _ h=>h)⟩
       | ok u q6 =>
        dsimp only [Res.bnd] at hF20
        have HF20:=Lib.hid hF20
        clear hF20 HF6 hr20
        go_upto_region 8 with (first | (go_at_call 91;refine (HK20.out X6 HD19_0.out.rd).mono ?_;rintro e w2 ⟨x,rfl,rfl,hr2,hk2⟩;have HC20_0:=Lib.hid (HD19_0.out.call hr2 hk2);have HC20_1:=Lib.hid (HD19_1.out.call hr2 hk2);have y3:=blk_cell (v:=(.int .i64 0)) HC20_1.out.blk 3 rfl;have f3:=blk_free HC20_1.out.blk 3))
        clear y3 f3
        have HD20_0:=Lib.hid (show Bx w (w2.setCell ⟨B,3,none⟩ (.int .i64 u)) V p q6 w.heap.size 93 #[(.string ⟨#[]⟩),(.string ⟨#[]⟩),(.int .i64 0),(.int .i64 0),(.slice none 0 0),(.int .i64 0),(.bool false),(.string ⟨#[]⟩),(.slice none 0 0),(.bool false),(.int .i64 0)] from HC20_0.out.far HC20_1.out.ge (by have:=HNB.out;omega) 3 (.int .i64 u))
        have HD20_1:=Lib.hid (show Bx w (w2.setCell ⟨B,3,none⟩ (.int .i64 u)) V p q6 B 93 #[(.string n),(.string s),(.int .i64 a),(.int .i64 u),(.slice none 0 0),(.int .i64 0),(.bool false),(.string ⟨#[]⟩),(.slice none 0 0),(.bool false),(.int .i64 0)] from HC20_1.out.set 3 (.int .i64 u))
        clear hr2 hk2 HK20 HD19_0 HD19_1 HC20_0 HC20_1 
        generalize (w2.setCell ⟨B,3,none⟩ (.int .i64 u))=X20 at *
        have HK21:=Lib.hid (fun w1 h1=>must_calls V q6 6 ⟨#[58]⟩ w1 h1 (by decide))
        have hF21:=HF20.out
        generalize hr21:V.must 6 ⟨#[58]⟩ q6=r21 at hF21 HK21
        cases r21 with
        | bad er a =>
         dsimp only [Res.bnd] at hF21
         have HF21:=Lib.hid hF21
         clear hF21 HF20 hr21
         go_wp2_with (first | (go_at_call 41;refine (HK21.out X20 HD20_0.out.rd).mono ?_;rintro e w2 ⟨rfl,hk2⟩))
         refine ⟨rfl,?_⟩
         rw [HF21.out]
         exact ⟨rfl,HD20_0.out.keep.trans hk2 (fun _ _ h=>h)⟩
        | ok _ q7 =>
         dsimp only [Res.bnd] at hF21
         have HF21:=Lib.hid hF21
         clear hF21 HF20 hr21
         go_upto_region 9 with (first | (go_at_call 41;refine (HK21.out X20 HD20_0.out.rd).mono ?_;rintro e X21 ⟨x,rfl,rfl,hr2,hk2⟩;have HC21_0:=Lib.hid (HD20_0.out.call hr2 hk2);have HC21_1:=Lib.hid (HD20_1.out.call hr2 hk2)))
         have HD21_0:=Lib.hid (show Bx w X21 V p q7 w.heap.size 93 #[(.string ⟨#[]⟩),(.string ⟨#[]⟩),(.int .i64 0),(.int .i64 0),(.slice none 0 0),(.int .i64 0),(.bool false),(.string ⟨#[]⟩),(.slice none 0 0),(.bool false),(.int .i64 0)] from HC21_0.out)
         have HD21_1:=Lib.hid (show Bx w X21 V p q7 B 93 #[(.string n),(.string s),(.int .i64 a),(.int .i64 u),(.slice none 0 0),(.int .i64 0),(.bool false),(.string ⟨#[]⟩),(.slice none 0 0),(.bool false),(.int .i64 0)] from HC21_1.out)
         clear hr2 hk2 HK21 HD20_0 HD20_1 HC21_0 HC21_1 
         have hF22:=HF21.out
         unfold Env.ruleT at hF22
         have HK22:=Lib.hid (fun w1 h1=>arrow_calls V q7 w1 h1)
         by_cases hz:V.arrow q7=0
         ·rw [if_pos hz] at hF22
          rw [hz] at HK22
          clear hz
          try dsimp only [Res.bnd] at hF22
          have HF22:=Lib.hid hF22
          clear hF22
          go_upto_region 10 with (first | (go_at_call 92;refine (HK22.out X21 HD21_0.out.rd).mono ?_;rintro e X22 ⟨rfl,hb2⟩;have hr2:=HD21_0.out.rd.below hb2;have hk2:=Keep.of_below (F:=ours V) hb2;clear hb2;have HC22_0:=Lib.hid (HD21_0.out.call hr2 hk2);have HC22_1:=Lib.hid (HD21_1.out.call hr2 hk2)))
          have HD22_0:=Lib.hid (show Bx w X22 V p q7 w.heap.size 93 #[(.string ⟨#[]⟩),(.string ⟨#[]⟩),(.int .i64 0),(.int .i64 0),(.slice none 0 0),(.int .i64 0),(.bool false),(.string ⟨#[]⟩),(.slice none 0 0),(.bool false),(.int .i64 0)] from HC22_0.out)
          have HD22_1:=Lib.hid (show Bx w X22 V p q7 B 93 #[(.string n),(.string s),(.int .i64 a),(.int .i64 u),(.slice none 0 0),(.int .i64 0),(.bool false),(.string ⟨#[]⟩),(.slice none 0 0),(.bool false),(.int .i64 0)] from HC22_1.out)
          clear hr2 hk2 HK22 HD21_0 HD21_1 HC22_0 HC22_1 
          have HK23:=Lib.hid (fun w1 h1=>list_prem_calls V V.premise 94 premise_enters hP.out 0 16 (by decide) (by decide) q7 w1 h1)
          have hF23:=HF22.out
          generalize hr23:V.list V.premise 0 16 q7=r23 at hF23 HK23
          cases r23 with
          | bad er a =>
           dsimp only [Res.bnd] at hF23
           have HF23:=Lib.hid hF23
           clear hF23 HF22 hr23
           go_wp2_with (first | (go_at_call 93;refine (HK23.out X22 HD22_0.out.rd).mono ?_;rintro e w2 ⟨rfl,hk2⟩))
           refine ⟨rfl,?_⟩
           rw [HF23.out]
           exact ⟨rfl,HD22_0.out.keep.trans hk2 (fun _ _ h=>h)⟩
          | ok l q8 =>
           dsimp only [Res.bnd] at hF23
           have HF23:=Lib.hid hF23
           clear hF23 HF22 hr23
           go_upto_region 11 with (first | (go_at_call 93;refine (HK23.out X22 HD22_0.out.rd).mono ?_;rintro e w2 ⟨x,rfl,hx,hr2,hk2⟩;have HC23_0:=Lib.hid (HD22_0.out.call hr2 hk2);have HC23_1:=Lib.hid (HD22_1.out.call hr2 hk2);obtain ⟨A23,c23,rfl⟩:=Kd.R_slice hx;have y4:=blk_cell (v:=(.slice none 0 0)) HC23_1.out.blk 4 rfl;have f4:=blk_free HC23_1.out.blk 4))
           clear y4 f4
           obtain ⟨s23,hs23⟩:∃ s,X22.heap.size=s:=⟨_,rfl⟩
           rw [hs23] at hx
           have HS23:=Lib.hid (show w.heap.size<s23∧B<s23∧V.rb<s23 by
            have h0:=World.block_lt_of_cell? _ _ (blk_cell (v:=(.string ⟨#[]⟩)) HD22_0.out.blk 0 rfl)
            have h1:=World.block_lt_of_cell? _ _ (blk_cell (v:=(.string n)) HD22_1.out.blk 0 rfl)
            have h9:=World.block_lt_of_cell? _ _ HD22_0.out.rd.pos
            simp only at h0 h1 h9;omega)
           clear hs23
           have HXn23:=Lib.hid (show Kd.R k100 100 (w2.setCell ⟨B,4,none⟩ (.slice A23 l.length c23)) s23 (fun k=>s23≤k) (.slice A23 l.length c23) l from (Kd.R_far hx (p:=⟨B,4,none⟩) (fun k hk=>by have:=HS23.out;simp only;omega) (.slice A23 l.length c23)))
           clear hx
           have HD23_0:=Lib.hid (show Bx w (w2.setCell ⟨B,4,none⟩ (.slice A23 l.length c23)) V p q8 w.heap.size 93 #[(.string ⟨#[]⟩),(.string ⟨#[]⟩),(.int .i64 0),(.int .i64 0),(.slice none 0 0),(.int .i64 0),(.bool false),(.string ⟨#[]⟩),(.slice none 0 0),(.bool false),(.int .i64 0)] from HC23_0.out.far HC23_1.out.ge (by have:=HNB.out;omega) 4 (.slice A23 l.length c23))
           have HD23_1:=Lib.hid (show Bx w (w2.setCell ⟨B,4,none⟩ (.slice A23 l.length c23)) V p q8 B 93 #[(.string n),(.string s),(.int .i64 a),(.int .i64 u),(.slice A23 l.length c23),(.int .i64 0),(.bool false),(.string ⟨#[]⟩),(.slice none 0 0),(.bool false),(.int .i64 0)] from HC23_1.out.set 4 (.slice A23 l.length c23))
           clear hr2 hk2 HK23 HD22_0 HD22_1 HC23_0 HC23_1 
           have HX23:=HXn23
           clear HXn23
           generalize (w2.setCell ⟨B,4,none⟩ (.slice A23 l.length c23))=X23 at *
           have HK24:=Lib.hid (fun w1 h1=>arrow_calls V q8 w1 h1)
           have hF24:=HF23.out
           have HLT24:=Lib.hid (Sx.arrow_lt (V:=V) (p:=q8))
           generalize V.arrow q8=aw at *
           have HF24:=Lib.hid hF24
           clear hF24 HF23
           go_upto_region 12 with (first | (go_at_call 92;refine (HK24.out X23 HD23_0.out.rd).mono ?_;rintro e w2 ⟨rfl,hb2⟩;have hr2:=HD23_0.out.rd.below hb2;have hk2:=Keep.of_below (F:=ours V) hb2;clear hb2;have HC24_0:=Lib.hid (HD23_0.out.call hr2 hk2);have HC24_1:=Lib.hid (HD23_1.out.call hr2 hk2);have y5:=blk_cell (v:=(.int .i64 0)) HC24_1.out.blk 5 rfl;have f5:=blk_free HC24_1.out.blk 5))
           clear y5 f5
           have HXn23:=Lib.hid (show Kd.R k100 100 (w2.setCell ⟨B,5,none⟩ (.int .i64 aw)) s23 (fun k=>s23≤k) (.slice A23 l.length c23) l from (Kd.R_far (Kd.R_step HX23.out (fun i hi hlt=>hk2.block i hlt (fun e=>by have:=HS23.out;unfold ours at e;omega))) (p:=⟨B,5,none⟩) (fun k hk=>by have:=HS23.out;simp only;omega) (.int .i64 aw)))
           have HD24_0:=Lib.hid (show Bx w (w2.setCell ⟨B,5,none⟩ (.int .i64 aw)) V p q8 w.heap.size 93 #[(.string ⟨#[]⟩),(.string ⟨#[]⟩),(.int .i64 0),(.int .i64 0),(.slice none 0 0),(.int .i64 0),(.bool false),(.string ⟨#[]⟩),(.slice none 0 0),(.bool false),(.int .i64 0)] from HC24_0.out.far HC24_1.out.ge (by have:=HNB.out;omega) 5 (.int .i64 aw))
           have HD24_1:=Lib.hid (show Bx w (w2.setCell ⟨B,5,none⟩ (.int .i64 aw)) V p q8 B 93 #[(.string n),(.string s),(.int .i64 a),(.int .i64 u),(.slice A23 l.length c23),(.int .i64 aw),(.bool false),(.string ⟨#[]⟩),(.slice none 0 0),(.bool false),(.int .i64 0)] from HC24_1.out.set 5 (.int .i64 aw))
           clear hr2 hk2 HK24 HD23_0 HD23_1 HC24_0 HC24_1 HX23
           have HX23:=HXn23
           clear HXn23
           generalize (w2.setCell ⟨B,5,none⟩ (.int .i64 aw))=X24 at *
           have y5:=blk_cell (v:=(.int .i64 aw)) HD24_1.out.blk 5 rfl
           by_cases hz:aw=0
           ·have HFz:=Lib.hid (show V.rule cal p=V.stop 51 q8 by rw [HF24.out,if_pos hz])
            subst hz
            clear HF24 HLT24
            go_wp2_with (first | (go_at_call 40;refine (stop_calls V q8 51 X24 HD24_0.out.rd).mono ?_;rintro e w4 ⟨rfl,hb⟩))
            refine ⟨rfl,?_⟩
            rw [HFz.out]
            exact ⟨rfl,HD24_0.out.keep.trans (Keep.of_below hb) (fun _ _ h=>h)⟩
           ·have hFz:=HF24.out
            rw [if_neg hz] at hFz
            have HFz:=Lib.hid hFz
            have HQ:=Lib.hid (HLT24.out hz)
            have ez2:(aw==0)=false:=by simpa using hz
            clear hz hFz HF24 HLT24
            go_upto_region 14 with (fail)
            clear y5
            have HT25:=Lib.hid (show q8<V.T.length from HQ.out)
            have hp25:=HD24_0.out.rd.pos
            have hf25:=HD24_0.out.rd.f
            have wz25:IntKind.i64.wrap ((q8:Nat)+1:Int)=((q8+1:Nat):Int):=by have h1:=HD24_0.out.rd.n;have h2:=HT25.out;rw [IntWalk.i64_in _ (by omega)];omega
            go_upto_region 15 with (fail)
            have hs25:=HD24_0.out.rd.step (q8+1) HT25.out
            have hk25:Keep (ours V) X24 (X24.setCell ⟨V.rb,1,none⟩ (.int .i64 ((q8+1:Nat):Int))):=Keep.setCell (F:=ours V) (Keep.refl _ _) (p:=⟨V.rb,1,none⟩) (fun _=>rfl) _
            clear hp25 hf25 wz25
            obtain ⟨X25,hX25⟩:∃ X,X24.setCell ⟨V.rb,1,none⟩ (.int .i64 ((q8+1:Nat):Int))=X:=⟨_,rfl⟩
            rw [hX25] at hs25 hk25
            have hX25b:X24.setCell ⟨V.rb,1,none⟩ (.int .i64 ((q8:Int)+1))=X25:=hX25
            try rw [hX25]
            try rw [hX25b]
            clear hX25 hX25b
            have HD26_0:=Lib.hid (show Bx w X25 V p (q8+1) w.heap.size 93 #[(.string ⟨#[]⟩),(.string ⟨#[]⟩),(.int .i64 0),(.int .i64 0),(.slice none 0 0),(.int .i64 0),(.bool false),(.string ⟨#[]⟩),(.slice none 0 0),(.bool false),(.int .i64 0)] from HD24_0.out.call hs25 hk25)
            have HD26_1:=Lib.hid (show Bx w X25 V p (q8+1) B 93 #[(.string n),(.string s),(.int .i64 a),(.int .i64 u),(.slice A23 l.length c23),(.int .i64 aw),(.bool false),(.string ⟨#[]⟩),(.slice none 0 0),(.bool false),(.int .i64 0)] from HD24_1.out.call hs25 hk25)
            have HXn23:=Lib.hid (show Kd.R k100 100 X25 s23 (fun k=>s23≤k) (.slice A23 l.length c23) l from Kd.R_step HX23.out (fun i hi hlt=>(hk25).block i hlt (fun e=>by have:=HS23.out;unfold ours at e;omega)))
            clear HD24_0 HD24_1 HX23
            have HX23:=HXn23
            clear HXn23
            clear hs25 hk25
            have HK27:=Lib.hid (fun w1 h1=>literal_calls V (q8+1) w1 h1)
            have hF27:=HFz.out
            generalize hr27:V.literal (q8+1)=r27 at hF27 HK27
            cases r27 with
            | bad er a =>
             dsimp only [Res.bnd] at hF27
             have HF27:=Lib.hid hF27
             clear hF27 HFz hr27
             go_wp2_with (first | (go_at_call 95;refine (HK27.out X25 HD26_0.out.rd).mono ?_;rintro e w2 ⟨rfl,hk2⟩))
             refine ⟨rfl,?_⟩
             rw [HF27.out]
             exact ⟨rfl,HD26_0.out.keep.trans hk2 (fun _ _ h=>h)⟩
            | ok h q9 =>
             dsimp only [Res.bnd] at hF27
             have HF27:=Lib.hid hF27
             clear hF27 HFz hr27
             go_upto_region 16 with (first | (go_at_call 95;refine (HK27.out X25 HD26_0.out.rd).mono ?_;rintro e w2 ⟨x,rfl,⟨cs,rfl,hM⟩,hr2,hk2⟩;have HC27_0:=Lib.hid (HD26_0.out.call hr2 hk2);have HC27_1:=Lib.hid (HD26_1.out.call hr2 hk2);obtain ⟨vl,rfl,hx⟩:=k91_openM hM;clear hM;obtain ⟨A27,c27,rfl⟩:=Kd.R_slice hx;have y6:=blk_cell (v:=(.bool false)) HC27_1.out.blk 6 rfl;have f6:=blk_free HC27_1.out.blk 6;have y7:=blk_cell (v:=(.string ⟨#[]⟩)) HC27_1.out.blk 7 rfl;have f7:=blk_free HC27_1.out.blk 7;have y8:=blk_cell (v:=(.slice none 0 0)) HC27_1.out.blk 8 rfl;have f8:=blk_free HC27_1.out.blk 8;have y9:=blk_cell (v:=(.bool false)) HC27_1.out.blk 9 rfl;have f9:=blk_free HC27_1.out.blk 9;have y10:=blk_cell (v:=(.int .i64 0)) HC27_1.out.blk 10 rfl;have f10:=blk_free HC27_1.out.blk 10))
             clear y6 f6 y7 f7 y8 f8 y9 f9 y10 f10
             obtain ⟨s27,hs27⟩:∃ s,X25.heap.size=s:=⟨_,rfl⟩
             rw [hs27] at hx
             have HS27:=Lib.hid (show w.heap.size<s27∧B<s27∧V.rb<s27 by
              have h0:=World.block_lt_of_cell? _ _ (blk_cell (v:=(.string ⟨#[]⟩)) HD26_0.out.blk 0 rfl)
              have h1:=World.block_lt_of_cell? _ _ (blk_cell (v:=(.string n)) HD26_1.out.blk 0 rfl)
              have h9:=World.block_lt_of_cell? _ _ HD26_0.out.rd.pos
              simp only at h0 h1 h9;omega)
             clear hs27
             have HXn23:=Lib.hid (show Kd.R k100 100 (((((w2.setCell ⟨B,6,none⟩ (.bool h.f0)).setCell ⟨B,7,none⟩ (.string h.f1)).setCell ⟨B,8,none⟩ (.slice A27 h.f2.length c27)).setCell ⟨B,9,none⟩ (.bool h.f3)).setCell ⟨B,10,none⟩ (.int .i64 h.f4)) s23 (fun k=>s23≤k) (.slice A23 l.length c23) l from (Kd.R_far (Kd.R_far (Kd.R_far (Kd.R_far (Kd.R_far (Kd.R_step HX23.out (fun i hi hlt=>hk2.block i hlt (fun e=>by have:=HS23.out;unfold ours at e;omega))) (p:=⟨B,6,none⟩) (fun k hk=>by have:=HS23.out;simp only;omega) (.bool h.f0)) (p:=⟨B,7,none⟩) (fun k hk=>by have:=HS23.out;simp only;omega) (.string h.f1)) (p:=⟨B,8,none⟩) (fun k hk=>by have:=HS23.out;simp only;omega) (.slice A27 h.f2.length c27)) (p:=⟨B,9,none⟩) (fun k hk=>by have:=HS23.out;simp only;omega) (.bool h.f3)) (p:=⟨B,10,none⟩) (fun k hk=>by have:=HS23.out;simp only;omega) (.int .i64 h.f4)))
             have HXn27:=Lib.hid (show Kd.R Kd.string 9 (((((w2.setCell ⟨B,6,none⟩ (.bool h.f0)).setCell ⟨B,7,none⟩ (.string h.f1)).setCell ⟨B,8,none⟩ (.slice A27 h.f2.length c27)).setCell ⟨B,9,none⟩ (.bool h.f3)).setCell ⟨B,10,none⟩ (.int .i64 h.f4)) s27 (fun k=>s27≤k) (.slice A27 h.f2.length c27) h.f2 from (Kd.R_far (Kd.R_far (Kd.R_far (Kd.R_far (Kd.R_far hx (p:=⟨B,6,none⟩) (fun k hk=>by have:=HS27.out;simp only;omega) (.bool h.f0)) (p:=⟨B,7,none⟩) (fun k hk=>by have:=HS27.out;simp only;omega) (.string h.f1)) (p:=⟨B,8,none⟩) (fun k hk=>by have:=HS27.out;simp only;omega) (.slice A27 h.f2.length c27)) (p:=⟨B,9,none⟩) (fun k hk=>by have:=HS27.out;simp only;omega) (.bool h.f3)) (p:=⟨B,10,none⟩) (fun k hk=>by have:=HS27.out;simp only;omega) (.int .i64 h.f4)))
             clear hx
             have hD27_0_0:Bx w (w2.setCell ⟨B,6,none⟩ (.bool h.f0)) V p q9 w.heap.size 93 #[(.string ⟨#[]⟩),(.string ⟨#[]⟩),(.int .i64 0),(.int .i64 0),(.slice none 0 0),(.int .i64 0),(.bool false),(.string ⟨#[]⟩),(.slice none 0 0),(.bool false),(.int .i64 0)]:=HC27_0.out.far HC27_1.out.ge (by have:=HNB.out;omega) 6 (.bool h.f0)
             have hD27_0_1:Bx w ((w2.setCell ⟨B,6,none⟩ (.bool h.f0)).setCell ⟨B,7,none⟩ (.string h.f1)) V p q9 w.heap.size 93 #[(.string ⟨#[]⟩),(.string ⟨#[]⟩),(.int .i64 0),(.int .i64 0),(.slice none 0 0),(.int .i64 0),(.bool false),(.string ⟨#[]⟩),(.slice none 0 0),(.bool false),(.int .i64 0)]:=hD27_0_0.far HC27_1.out.ge (by have:=HNB.out;omega) 7 (.string h.f1)
             have hD27_0_2:Bx w (((w2.setCell ⟨B,6,none⟩ (.bool h.f0)).setCell ⟨B,7,none⟩ (.string h.f1)).setCell ⟨B,8,none⟩ (.slice A27 h.f2.length c27)) V p q9 w.heap.size 93 #[(.string ⟨#[]⟩),(.string ⟨#[]⟩),(.int .i64 0),(.int .i64 0),(.slice none 0 0),(.int .i64 0),(.bool false),(.string ⟨#[]⟩),(.slice none 0 0),(.bool false),(.int .i64 0)]:=hD27_0_1.far HC27_1.out.ge (by have:=HNB.out;omega) 8 (.slice A27 h.f2.length c27)
             have hD27_0_3:Bx w ((((w2.setCell ⟨B,6,none⟩ (.bool h.f0)).setCell ⟨B,7,none⟩ (.string h.f1)).setCell ⟨B,8,none⟩ (.slice A27 h.f2.length c27)).setCell ⟨B,9,none⟩ (.bool h.f3)) V p q9 w.heap.size 93 #[(.string ⟨#[]⟩),(.string ⟨#[]⟩),(.int .i64 0),(.int .i64 0),(.slice none 0 0),(.int .i64 0),(.bool false),(.string ⟨#[]⟩),(.slice none 0 0),(.bool false),(.int .i64 0)]:=hD27_0_2.far HC27_1.out.ge (by have:=HNB.out;omega) 9 (.bool h.f3)
             have HD27_0:=Lib.hid (show Bx w (((((w2.setCell ⟨B,6,none⟩ (.bool h.f0)).setCell ⟨B,7,none⟩ (.string h.f1)).setCell ⟨B,8,none⟩ (.slice A27 h.f2.length c27)).setCell ⟨B,9,none⟩ (.bool h.f3)).setCell ⟨B,10,none⟩ (.int .i64 h.f4)) V p q9 w.heap.size 93 #[(.string ⟨#[]⟩),(.string ⟨#[]⟩),(.int .i64 0),(.int .i64 0),(.slice none 0 0),(.int .i64 0),(.bool false),(.string ⟨#[]⟩),(.slice none 0 0),(.bool false),(.int .i64 0)] from hD27_0_3.far HC27_1.out.ge (by have:=HNB.out;omega) 10 (.int .i64 h.f4))
             clear hD27_0_0 hD27_0_1 hD27_0_2 hD27_0_3
             have hD27_1_0:Bx w (w2.setCell ⟨B,6,none⟩ (.bool h.f0)) V p q9 B 93 #[(.string n),(.string s),(.int .i64 a),(.int .i64 u),(.slice A23 l.length c23),(.int .i64 aw),(.bool h.f0),(.string ⟨#[]⟩),(.slice none 0 0),(.bool false),(.int .i64 0)]:=HC27_1.out.set 6 (.bool h.f0)
             have hD27_1_1:Bx w ((w2.setCell ⟨B,6,none⟩ (.bool h.f0)).setCell ⟨B,7,none⟩ (.string h.f1)) V p q9 B 93 #[(.string n),(.string s),(.int .i64 a),(.int .i64 u),(.slice A23 l.length c23),(.int .i64 aw),(.bool h.f0),(.string h.f1),(.slice none 0 0),(.bool false),(.int .i64 0)]:=hD27_1_0.set 7 (.string h.f1)
             have hD27_1_2:Bx w (((w2.setCell ⟨B,6,none⟩ (.bool h.f0)).setCell ⟨B,7,none⟩ (.string h.f1)).setCell ⟨B,8,none⟩ (.slice A27 h.f2.length c27)) V p q9 B 93 #[(.string n),(.string s),(.int .i64 a),(.int .i64 u),(.slice A23 l.length c23),(.int .i64 aw),(.bool h.f0),(.string h.f1),(.slice A27 h.f2.length c27),(.bool false),(.int .i64 0)]:=hD27_1_1.set 8 (.slice A27 h.f2.length c27)
             have hD27_1_3:Bx w ((((w2.setCell ⟨B,6,none⟩ (.bool h.f0)).setCell ⟨B,7,none⟩ (.string h.f1)).setCell ⟨B,8,none⟩ (.slice A27 h.f2.length c27)).setCell ⟨B,9,none⟩ (.bool h.f3)) V p q9 B 93 #[(.string n),(.string s),(.int .i64 a),(.int .i64 u),(.slice A23 l.length c23),(.int .i64 aw),(.bool h.f0),(.string h.f1),(.slice A27 h.f2.length c27),(.bool h.f3),(.int .i64 0)]:=hD27_1_2.set 9 (.bool h.f3)
             have HD27_1:=Lib.hid (show Bx w (((((w2.setCell ⟨B,6,none⟩ (.bool h.f0)).setCell ⟨B,7,none⟩ (.string h.f1)).setCell ⟨B,8,none⟩ (.slice A27 h.f2.length c27)).setCell ⟨B,9,none⟩ (.bool h.f3)).setCell ⟨B,10,none⟩ (.int .i64 h.f4)) V p q9 B 93 #[(.string n),(.string s),(.int .i64 a),(.int .i64 u),(.slice A23 l.length c23),(.int .i64 aw),(.bool h.f0),(.string h.f1),(.slice A27 h.f2.length c27),(.bool h.f3),(.int .i64 h.f4)] from hD27_1_3.set 10 (.int .i64 h.f4))
             clear hD27_1_0 hD27_1_1 hD27_1_2 hD27_1_3
             clear hr2 hk2 HK27 HD26_0 HD26_1 HC27_0 HC27_1 HX23
             have HX23:=HXn23
             clear HXn23
             have HX27:=HXn27
             clear HXn27
             generalize (((((w2.setCell ⟨B,6,none⟩ (.bool h.f0)).setCell ⟨B,7,none⟩ (.string h.f1)).setCell ⟨B,8,none⟩ (.slice A27 h.f2.length c27)).setCell ⟨B,9,none⟩ (.bool h.f3)).setCell ⟨B,10,none⟩ (.int .i64 h.f4))=X27 at *
             have y0:=blk_cell (v:=(.string n)) HD27_1.out.blk 0 rfl
             have y1:=blk_cell (v:=(.string s)) HD27_1.out.blk 1 rfl
             have y2:=blk_cell (v:=(.int .i64 a)) HD27_1.out.blk 2 rfl
             have y3:=blk_cell (v:=(.int .i64 u)) HD27_1.out.blk 3 rfl
             have y4:=blk_cell (v:=(.slice A23 l.length c23)) HD27_1.out.blk 4 rfl
             have y5:=blk_cell (v:=(.int .i64 aw)) HD27_1.out.blk 5 rfl
             have y6:=blk_cell (v:=(.bool h.f0)) HD27_1.out.blk 6 rfl
             have y7:=blk_cell (v:=(.string h.f1)) HD27_1.out.blk 7 rfl
             have y8:=blk_cell (v:=(.slice A27 h.f2.length c27)) HD27_1.out.blk 8 rfl
             have y9:=blk_cell (v:=(.bool h.f3)) HD27_1.out.blk 9 rfl
             have y10:=blk_cell (v:=(.int .i64 h.f4)) HD27_1.out.blk 10 rfl
             have z0:=blk_cell (v:=(.string ⟨#[]⟩)) HD27_0.out.blk 0 rfl
             have z1:=blk_cell (v:=(.string ⟨#[]⟩)) HD27_0.out.blk 1 rfl
             have z2:=blk_cell (v:=(.int .i64 0)) HD27_0.out.blk 2 rfl
             have z3:=blk_cell (v:=(.int .i64 0)) HD27_0.out.blk 3 rfl
             have z4:=blk_cell (v:=(.slice none 0 0)) HD27_0.out.blk 4 rfl
             have z5:=blk_cell (v:=(.int .i64 0)) HD27_0.out.blk 5 rfl
             have z6:=blk_cell (v:=(.bool false)) HD27_0.out.blk 6 rfl
             have z7:=blk_cell (v:=(.string ⟨#[]⟩)) HD27_0.out.blk 7 rfl
             have z8:=blk_cell (v:=(.slice none 0 0)) HD27_0.out.blk 8 rfl
             have z9:=blk_cell (v:=(.bool false)) HD27_0.out.blk 9 rfl
             have z10:=blk_cell (v:=(.int .i64 0)) HD27_0.out.blk 10 rfl
             have g0:=blk_free HD27_0.out.blk 0
             have g1:=blk_free HD27_0.out.blk 1
             have g2:=blk_free HD27_0.out.blk 2
             have g3:=blk_free HD27_0.out.blk 3
             have g4:=blk_free HD27_0.out.blk 4
             have g5:=blk_free HD27_0.out.blk 5
             have g6:=blk_free HD27_0.out.blk 6
             have g7:=blk_free HD27_0.out.blk 7
             have g8:=blk_free HD27_0.out.blk 8
             have g9:=blk_free HD27_0.out.blk 9
             have g10:=blk_free HD27_0.out.blk 10
             go_wp2_with fail
             have hE0:Bx w _ V p q9 w.heap.size 93 #[(.string n),(.string ⟨#[]⟩),(.int .i64 0),(.int .i64 0),(.slice none 0 0),(.int .i64 0),(.bool false),(.string ⟨#[]⟩),(.slice none 0 0),(.bool false),(.int .i64 0)]:=HD27_0.out.set 0 (.string n)
             have hE1:Bx w _ V p q9 w.heap.size 93 #[(.string n),(.string s),(.int .i64 0),(.int .i64 0),(.slice none 0 0),(.int .i64 0),(.bool false),(.string ⟨#[]⟩),(.slice none 0 0),(.bool false),(.int .i64 0)]:=hE0.set 1 (.string s)
             have hE2:Bx w _ V p q9 w.heap.size 93 #[(.string n),(.string s),(.int .i64 a),(.int .i64 0),(.slice none 0 0),(.int .i64 0),(.bool false),(.string ⟨#[]⟩),(.slice none 0 0),(.bool false),(.int .i64 0)]:=hE1.set 2 (.int .i64 a)
             have hE3:Bx w _ V p q9 w.heap.size 93 #[(.string n),(.string s),(.int .i64 a),(.int .i64 u),(.slice none 0 0),(.int .i64 0),(.bool false),(.string ⟨#[]⟩),(.slice none 0 0),(.bool false),(.int .i64 0)]:=hE2.set 3 (.int .i64 u)
             have hE4:Bx w _ V p q9 w.heap.size 93 #[(.string n),(.string s),(.int .i64 a),(.int .i64 u),(.slice A23 l.length c23),(.int .i64 0),(.bool false),(.string ⟨#[]⟩),(.slice none 0 0),(.bool false),(.int .i64 0)]:=hE3.set 4 (.slice A23 l.length c23)
             have hE5:Bx w _ V p q9 w.heap.size 93 #[(.string n),(.string s),(.int .i64 a),(.int .i64 u),(.slice A23 l.length c23),(.int .i64 aw),(.bool false),(.string ⟨#[]⟩),(.slice none 0 0),(.bool false),(.int .i64 0)]:=hE4.set 5 (.int .i64 aw)
             have hE6:Bx w _ V p q9 w.heap.size 93 #[(.string n),(.string s),(.int .i64 a),(.int .i64 u),(.slice A23 l.length c23),(.int .i64 aw),(.bool h.f0),(.string ⟨#[]⟩),(.slice none 0 0),(.bool false),(.int .i64 0)]:=hE5.set 6 (.bool h.f0)
             have hE7:Bx w _ V p q9 w.heap.size 93 #[(.string n),(.string s),(.int .i64 a),(.int .i64 u),(.slice A23 l.length c23),(.int .i64 aw),(.bool h.f0),(.string h.f1),(.slice none 0 0),(.bool false),(.int .i64 0)]:=hE6.set 7 (.string h.f1)
             have hE8:Bx w _ V p q9 w.heap.size 93 #[(.string n),(.string s),(.int .i64 a),(.int .i64 u),(.slice A23 l.length c23),(.int .i64 aw),(.bool h.f0),(.string h.f1),(.slice A27 h.f2.length c27),(.bool false),(.int .i64 0)]:=hE7.set 8 (.slice A27 h.f2.length c27)
             have hE9:Bx w _ V p q9 w.heap.size 93 #[(.string n),(.string s),(.int .i64 a),(.int .i64 u),(.slice A23 l.length c23),(.int .i64 aw),(.bool h.f0),(.string h.f1),(.slice A27 h.f2.length c27),(.bool h.f3),(.int .i64 0)]:=hE8.set 9 (.bool h.f3)
             have hE:Bx w _ V p q9 w.heap.size 93 #[(.string n),(.string s),(.int .i64 a),(.int .i64 u),(.slice A23 l.length c23),(.int .i64 aw),(.bool h.f0),(.string h.f1),(.slice A27 h.f2.length c27),(.bool h.f3),(.int .i64 h.f4)]:=hE9.set 10 (.int .i64 h.f4)
             refine bodyPost_ret (results_cell_row rfl _ _ w.heap.size 93 #[(.string n),(.string s),(.int .i64 a),(.int .i64 u),(.slice A23 l.length c23),(.int .i64 aw),(.bool h.f0),(.string h.f1),(.slice A27 h.f2.length c27),(.bool h.f3),(.int .i64 h.f4)] (0,0) _ rfl hE.blk Tryz.underlying93 rfl rfl) rfl ?_
             rw [HF27.out]
             have hy23:Kd.R k100 100 _ s23 (fun k=>s23≤k) (.slice A23 l.length c23) l:=(Kd.R_far (Kd.R_far (Kd.R_far (Kd.R_far (Kd.R_far (Kd.R_far (Kd.R_far (Kd.R_far (Kd.R_far (Kd.R_far (Kd.R_far HX23.out (p:=⟨w.heap.size,0,none⟩) (fun k hk=>by have:=HS23.out;simp only;omega) (.string n)) (p:=⟨w.heap.size,1,none⟩) (fun k hk=>by have:=HS23.out;simp only;omega) (.string s)) (p:=⟨w.heap.size,2,none⟩) (fun k hk=>by have:=HS23.out;simp only;omega) (.int .i64 a)) (p:=⟨w.heap.size,3,none⟩) (fun k hk=>by have:=HS23.out;simp only;omega) (.int .i64 u)) (p:=⟨w.heap.size,4,none⟩) (fun k hk=>by have:=HS23.out;simp only;omega) (.slice A23 l.length c23)) (p:=⟨w.heap.size,5,none⟩) (fun k hk=>by have:=HS23.out;simp only;omega) (.int .i64 aw)) (p:=⟨w.heap.size,6,none⟩) (fun k hk=>by have:=HS23.out;simp only;omega) (.bool h.f0)) (p:=⟨w.heap.size,7,none⟩) (fun k hk=>by have:=HS23.out;simp only;omega) (.string h.f1)) (p:=⟨w.heap.size,8,none⟩) (fun k hk=>by have:=HS23.out;simp only;omega) (.slice A27 h.f2.length c27)) (p:=⟨w.heap.size,9,none⟩) (fun k hk=>by have:=HS23.out;simp only;omega) (.bool h.f3)) (p:=⟨w.heap.size,10,none⟩) (fun k hk=>by have:=HS23.out;simp only;omega) (.int .i64 h.f4))
             have hz23:=Kd.R_lower (Kd.R_mono hy23 (ok':=fun k=>w.heap.size≤k) (fun k hk=>by have:=HS23.out;omega)) (base':=w.heap.size) (by have:=HS23.out;omega)
             have hy27:Kd.R Kd.string 9 _ s27 (fun k=>s27≤k) (.slice A27 h.f2.length c27) h.f2:=(Kd.R_far (Kd.R_far (Kd.R_far (Kd.R_far (Kd.R_far (Kd.R_far (Kd.R_far (Kd.R_far (Kd.R_far (Kd.R_far (Kd.R_far HX27.out (p:=⟨w.heap.size,0,none⟩) (fun k hk=>by have:=HS27.out;simp only;omega) (.string n)) (p:=⟨w.heap.size,1,none⟩) (fun k hk=>by have:=HS27.out;simp only;omega) (.string s)) (p:=⟨w.heap.size,2,none⟩) (fun k hk=>by have:=HS27.out;simp only;omega) (.int .i64 a)) (p:=⟨w.heap.size,3,none⟩) (fun k hk=>by have:=HS27.out;simp only;omega) (.int .i64 u)) (p:=⟨w.heap.size,4,none⟩) (fun k hk=>by have:=HS27.out;simp only;omega) (.slice A23 l.length c23)) (p:=⟨w.heap.size,5,none⟩) (fun k hk=>by have:=HS27.out;simp only;omega) (.int .i64 aw)) (p:=⟨w.heap.size,6,none⟩) (fun k hk=>by have:=HS27.out;simp only;omega) (.bool h.f0)) (p:=⟨w.heap.size,7,none⟩) (fun k hk=>by have:=HS27.out;simp only;omega) (.string h.f1)) (p:=⟨w.heap.size,8,none⟩) (fun k hk=>by have:=HS27.out;simp only;omega) (.slice A27 h.f2.length c27)) (p:=⟨w.heap.size,9,none⟩) (fun k hk=>by have:=HS27.out;simp only;omega) (.bool h.f3)) (p:=⟨w.heap.size,10,none⟩) (fun k hk=>by have:=HS27.out;simp only;omega) (.int .i64 h.f4))
             have hz27:=Kd.R_lower (Kd.R_mono hy27 (ok':=fun k=>w.heap.size≤k) (fun k hk=>by have:=HS27.out;omega)) (base':=w.heap.size) (by have:=HS27.out;omega)
             exact ⟨_,rfl,⟨_,rfl,k93_mkM _ _ _ (⟨n,s,a,u,l,aw,h⟩:S93) hz23 hz27⟩,hE.rd,hE.keep⟩
         ·rw [if_neg hz] at hF22
          have ez:(V.arrow q7==0)=false:=by simpa using hz
          clear hz
          try dsimp only [Res.bnd] at hF22
          have HF22:=Lib.hid hF22
          clear hF22
          go_upto_region 11 with (first | (go_at_call 92;refine (HK22.out X21 HD21_0.out.rd).mono ?_;rintro e X22 ⟨rfl,hb2⟩;have hr2:=HD21_0.out.rd.below hb2;have hk2:=Keep.of_below (F:=ours V) hb2;clear hb2;have HC22_0:=Lib.hid (HD21_0.out.call hr2 hk2);have HC22_1:=Lib.hid (HD21_1.out.call hr2 hk2)))
          have HD22_0:=Lib.hid (show Bx w X22 V p q7 w.heap.size 93 #[(.string ⟨#[]⟩),(.string ⟨#[]⟩),(.int .i64 0),(.int .i64 0),(.slice none 0 0),(.int .i64 0),(.bool false),(.string ⟨#[]⟩),(.slice none 0 0),(.bool false),(.int .i64 0)] from HC22_0.out)
          have HD22_1:=Lib.hid (show Bx w X22 V p q7 B 93 #[(.string n),(.string s),(.int .i64 a),(.int .i64 u),(.slice none 0 0),(.int .i64 0),(.bool false),(.string ⟨#[]⟩),(.slice none 0 0),(.bool false),(.int .i64 0)] from HC22_1.out)
          clear hr2 hk2 HK22 HD21_0 HD21_1 HC22_0 HC22_1 
          have HK28:=Lib.hid (fun w1 h1=>arrow_calls V q7 w1 h1)
          have hF28:=HF22.out
          have HLT28:=Lib.hid (Sx.arrow_lt (V:=V) (p:=q7))
          generalize V.arrow q7=aw at *
          have HF28:=Lib.hid hF28
          clear hF28 HF22
          go_upto_region 12 with (first | (go_at_call 92;refine (HK28.out X22 HD22_0.out.rd).mono ?_;rintro e w2 ⟨rfl,hb2⟩;have hr2:=HD22_0.out.rd.below hb2;have hk2:=Keep.of_below (F:=ours V) hb2;clear hb2;have HC28_0:=Lib.hid (HD22_0.out.call hr2 hk2);have HC28_1:=Lib.hid (HD22_1.out.call hr2 hk2);have y5:=blk_cell (v:=(.int .i64 0)) HC28_1.out.blk 5 rfl;have f5:=blk_free HC28_1.out.blk 5))
          clear y5 f5
          have HD28_0:=Lib.hid (show Bx w (w2.setCell ⟨B,5,none⟩ (.int .i64 aw)) V p q7 w.heap.size 93 #[(.string ⟨#[]⟩),(.string ⟨#[]⟩),(.int .i64 0),(.int .i64 0),(.slice none 0 0),(.int .i64 0),(.bool false),(.string ⟨#[]⟩),(.slice none 0 0),(.bool false),(.int .i64 0)] from HC28_0.out.far HC28_1.out.ge (by have:=HNB.out;omega) 5 (.int .i64 aw))
          have HD28_1:=Lib.hid (show Bx w (w2.setCell ⟨B,5,none⟩ (.int .i64 aw)) V p q7 B 93 #[(.string n),(.string s),(.int .i64 a),(.int .i64 u),(.slice none 0 0),(.int .i64 aw),(.bool false),(.string ⟨#[]⟩),(.slice none 0 0),(.bool false),(.int .i64 0)] from HC28_1.out.set 5 (.int .i64 aw))
          clear hr2 hk2 HK28 HD22_0 HD22_1 HC28_0 HC28_1 
          generalize (w2.setCell ⟨B,5,none⟩ (.int .i64 aw))=X28 at *
          have y5:=blk_cell (v:=(.int .i64 aw)) HD28_1.out.blk 5 rfl
          by_cases hz:aw=0
          ·have HFz:=Lib.hid (show V.rule cal p=V.stop 51 q7 by rw [HF28.out,if_pos hz])
           subst hz
           clear HF28 HLT28
           go_wp2_with (first | (go_at_call 40;refine (stop_calls V q7 51 X28 HD28_0.out.rd).mono ?_;rintro e w4 ⟨rfl,hb⟩))
           refine ⟨rfl,?_⟩
           rw [HFz.out]
           exact ⟨rfl,HD28_0.out.keep.trans (Keep.of_below hb) (fun _ _ h=>h)⟩
          ·have hFz:=HF28.out
           rw [if_neg hz] at hFz
           have HFz:=Lib.hid hFz
           have HQ:=Lib.hid (HLT28.out hz)
           have ez2:(aw==0)=false:=by simpa using hz
           clear hz hFz HF28 HLT28
           go_upto_region 14 with (fail)
           clear y5
           have HT29:=Lib.hid (show q7<V.T.length from HQ.out)
           have hp29:=HD28_0.out.rd.pos
           have hf29:=HD28_0.out.rd.f
           have wz29:IntKind.i64.wrap ((q7:Nat)+1:Int)=((q7+1:Nat):Int):=by have h1:=HD28_0.out.rd.n;have h2:=HT29.out;rw [IntWalk.i64_in _ (by omega)];omega
           go_upto_region 15 with (fail)
           have hs29:=HD28_0.out.rd.step (q7+1) HT29.out
           have hk29:Keep (ours V) X28 (X28.setCell ⟨V.rb,1,none⟩ (.int .i64 ((q7+1:Nat):Int))):=Keep.setCell (F:=ours V) (Keep.refl _ _) (p:=⟨V.rb,1,none⟩) (fun _=>rfl) _
           clear hp29 hf29 wz29
           obtain ⟨X29,hX29⟩:∃ X,X28.setCell ⟨V.rb,1,none⟩ (.int .i64 ((q7+1:Nat):Int))=X:=⟨_,rfl⟩
           rw [hX29] at hs29 hk29
           have hX29b:X28.setCell ⟨V.rb,1,none⟩ (.int .i64 ((q7:Int)+1))=X29:=hX29
           try rw [hX29]
           try rw [hX29b]
           clear hX29 hX29b
           have HD30_0:=Lib.hid (show Bx w X29 V p (q7+1) w.heap.size 93 #[(.string ⟨#[]⟩),(.string ⟨#[]⟩),(.int .i64 0),(.int .i64 0),(.slice none 0 0),(.int .i64 0),(.bool false),(.string ⟨#[]⟩),(.slice none 0 0),(.bool false),(.int .i64 0)] from HD28_0.out.call hs29 hk29)
           have HD30_1:=Lib.hid (show Bx w X29 V p (q7+1) B 93 #[(.string n),(.string s),(.int .i64 a),(.int .i64 u),(.slice none 0 0),(.int .i64 aw),(.bool false),(.string ⟨#[]⟩),(.slice none 0 0),(.bool false),(.int .i64 0)] from HD28_1.out.call hs29 hk29)
           clear HD28_0 HD28_1
           clear hs29 hk29
           have HK31:=Lib.hid (fun w1 h1=>literal_calls V (q7+1) w1 h1)
           have hF31:=HFz.out
           generalize hr31:V.literal (q7+1)=r31 at hF31 HK31
           cases r31 with
           | bad er a =>
            dsimp only [Res.bnd] at hF31
            have HF31:=Lib.hid hF31
            clear hF31 HFz hr31
            go_wp2_with (first | (go_at_call 95;refine (HK31.out X29 HD30_0.out.rd).mono ?_;rintro e w2 ⟨rfl,hk2⟩))
            refine ⟨rfl,?_⟩
            rw [HF31.out]
            exact ⟨rfl,HD30_0.out.keep.trans hk2 (fun _ _ h=>h)⟩
           | ok h q9 =>
            dsimp only [Res.bnd] at hF31
            have HF31:=Lib.hid hF31
            clear hF31 HFz hr31
            go_upto_region 16 with (first | (go_at_call 95;refine (HK31.out X29 HD30_0.out.rd).mono ?_;rintro e w2 ⟨x,rfl,⟨cs,rfl,hM⟩,hr2,hk2⟩;have HC31_0:=Lib.hid (HD30_0.out.call hr2 hk2);have HC31_1:=Lib.hid (HD30_1.out.call hr2 hk2);obtain ⟨vl,rfl,hx⟩:=k91_openM hM;clear hM;obtain ⟨A31,c31,rfl⟩:=Kd.R_slice hx;have y6:=blk_cell (v:=(.bool false)) HC31_1.out.blk 6 rfl;have f6:=blk_free HC31_1.out.blk 6;have y7:=blk_cell (v:=(.string ⟨#[]⟩)) HC31_1.out.blk 7 rfl;have f7:=blk_free HC31_1.out.blk 7;have y8:=blk_cell (v:=(.slice none 0 0)) HC31_1.out.blk 8 rfl;have f8:=blk_free HC31_1.out.blk 8;have y9:=blk_cell (v:=(.bool false)) HC31_1.out.blk 9 rfl;have f9:=blk_free HC31_1.out.blk 9;have y10:=blk_cell (v:=(.int .i64 0)) HC31_1.out.blk 10 rfl;have f10:=blk_free HC31_1.out.blk 10))
            clear y6 f6 y7 f7 y8 f8 y9 f9 y10 f10
            obtain ⟨s31,hs31⟩:∃ s,X29.heap.size=s:=⟨_,rfl⟩
            rw [hs31] at hx
            have HS31:=Lib.hid (show w.heap.size<s31∧B<s31∧V.rb<s31 by
             have h0:=World.block_lt_of_cell? _ _ (blk_cell (v:=(.string ⟨#[]⟩)) HD30_0.out.blk 0 rfl)
             have h1:=World.block_lt_of_cell? _ _ (blk_cell (v:=(.string n)) HD30_1.out.blk 0 rfl)
             have h9:=World.block_lt_of_cell? _ _ HD30_0.out.rd.pos
             simp only at h0 h1 h9;omega)
            clear hs31
            have HXn31:=Lib.hid (show Kd.R Kd.string 9 (((((w2.setCell ⟨B,6,none⟩ (.bool h.f0)).setCell ⟨B,7,none⟩ (.string h.f1)).setCell ⟨B,8,none⟩ (.slice A31 h.f2.length c31)).setCell ⟨B,9,none⟩ (.bool h.f3)).setCell ⟨B,10,none⟩ (.int .i64 h.f4)) s31 (fun k=>s31≤k) (.slice A31 h.f2.length c31) h.f2 from (Kd.R_far (Kd.R_far (Kd.R_far (Kd.R_far (Kd.R_far hx (p:=⟨B,6,none⟩) (fun k hk=>by have:=HS31.out;simp only;omega) (.bool h.f0)) (p:=⟨B,7,none⟩) (fun k hk=>by have:=HS31.out;simp only;omega) (.string h.f1)) (p:=⟨B,8,none⟩) (fun k hk=>by have:=HS31.out;simp only;omega) (.slice A31 h.f2.length c31)) (p:=⟨B,9,none⟩) (fun k hk=>by have:=HS31.out;simp only;omega) (.bool h.f3)) (p:=⟨B,10,none⟩) (fun k hk=>by have:=HS31.out;simp only;omega) (.int .i64 h.f4)))
            clear hx
            have hD31_0_0:Bx w (w2.setCell ⟨B,6,none⟩ (.bool h.f0)) V p q9 w.heap.size 93 #[(.string ⟨#[]⟩),(.string ⟨#[]⟩),(.int .i64 0),(.int .i64 0),(.slice none 0 0),(.int .i64 0),(.bool false),(.string ⟨#[]⟩),(.slice none 0 0),(.bool false),(.int .i64 0)]:=HC31_0.out.far HC31_1.out.ge (by have:=HNB.out;omega) 6 (.bool h.f0)
            have hD31_0_1:Bx w ((w2.setCell ⟨B,6,none⟩ (.bool h.f0)).setCell ⟨B,7,none⟩ (.string h.f1)) V p q9 w.heap.size 93 #[(.string ⟨#[]⟩),(.string ⟨#[]⟩),(.int .i64 0),(.int .i64 0),(.slice none 0 0),(.int .i64 0),(.bool false),(.string ⟨#[]⟩),(.slice none 0 0),(.bool false),(.int .i64 0)]:=hD31_0_0.far HC31_1.out.ge (by have:=HNB.out;omega) 7 (.string h.f1)
            have hD31_0_2:Bx w (((w2.setCell ⟨B,6,none⟩ (.bool h.f0)).setCell ⟨B,7,none⟩ (.string h.f1)).setCell ⟨B,8,none⟩ (.slice A31 h.f2.length c31)) V p q9 w.heap.size 93 #[(.string ⟨#[]⟩),(.string ⟨#[]⟩),(.int .i64 0),(.int .i64 0),(.slice none 0 0),(.int .i64 0),(.bool false),(.string ⟨#[]⟩),(.slice none 0 0),(.bool false),(.int .i64 0)]:=hD31_0_1.far HC31_1.out.ge (by have:=HNB.out;omega) 8 (.slice A31 h.f2.length c31)
            have hD31_0_3:Bx w ((((w2.setCell ⟨B,6,none⟩ (.bool h.f0)).setCell ⟨B,7,none⟩ (.string h.f1)).setCell ⟨B,8,none⟩ (.slice A31 h.f2.length c31)).setCell ⟨B,9,none⟩ (.bool h.f3)) V p q9 w.heap.size 93 #[(.string ⟨#[]⟩),(.string ⟨#[]⟩),(.int .i64 0),(.int .i64 0),(.slice none 0 0),(.int .i64 0),(.bool false),(.string ⟨#[]⟩),(.slice none 0 0),(.bool false),(.int .i64 0)]:=hD31_0_2.far HC31_1.out.ge (by have:=HNB.out;omega) 9 (.bool h.f3)
            have HD31_0:=Lib.hid (show Bx w (((((w2.setCell ⟨B,6,none⟩ (.bool h.f0)).setCell ⟨B,7,none⟩ (.string h.f1)).setCell ⟨B,8,none⟩ (.slice A31 h.f2.length c31)).setCell ⟨B,9,none⟩ (.bool h.f3)).setCell ⟨B,10,none⟩ (.int .i64 h.f4)) V p q9 w.heap.size 93 #[(.string ⟨#[]⟩),(.string ⟨#[]⟩),(.int .i64 0),(.int .i64 0),(.slice none 0 0),(.int .i64 0),(.bool false),(.string ⟨#[]⟩),(.slice none 0 0),(.bool false),(.int .i64 0)] from hD31_0_3.far HC31_1.out.ge (by have:=HNB.out;omega) 10 (.int .i64 h.f4))
            clear hD31_0_0 hD31_0_1 hD31_0_2 hD31_0_3
            have hD31_1_0:Bx w (w2.setCell ⟨B,6,none⟩ (.bool h.f0)) V p q9 B 93 #[(.string n),(.string s),(.int .i64 a),(.int .i64 u),(.slice none 0 0),(.int .i64 aw),(.bool h.f0),(.string ⟨#[]⟩),(.slice none 0 0),(.bool false),(.int .i64 0)]:=HC31_1.out.set 6 (.bool h.f0)
            have hD31_1_1:Bx w ((w2.setCell ⟨B,6,none⟩ (.bool h.f0)).setCell ⟨B,7,none⟩ (.string h.f1)) V p q9 B 93 #[(.string n),(.string s),(.int .i64 a),(.int .i64 u),(.slice none 0 0),(.int .i64 aw),(.bool h.f0),(.string h.f1),(.slice none 0 0),(.bool false),(.int .i64 0)]:=hD31_1_0.set 7 (.string h.f1)
            have hD31_1_2:Bx w (((w2.setCell ⟨B,6,none⟩ (.bool h.f0)).setCell ⟨B,7,none⟩ (.string h.f1)).setCell ⟨B,8,none⟩ (.slice A31 h.f2.length c31)) V p q9 B 93 #[(.string n),(.string s),(.int .i64 a),(.int .i64 u),(.slice none 0 0),(.int .i64 aw),(.bool h.f0),(.string h.f1),(.slice A31 h.f2.length c31),(.bool false),(.int .i64 0)]:=hD31_1_1.set 8 (.slice A31 h.f2.length c31)
            have hD31_1_3:Bx w ((((w2.setCell ⟨B,6,none⟩ (.bool h.f0)).setCell ⟨B,7,none⟩ (.string h.f1)).setCell ⟨B,8,none⟩ (.slice A31 h.f2.length c31)).setCell ⟨B,9,none⟩ (.bool h.f3)) V p q9 B 93 #[(.string n),(.string s),(.int .i64 a),(.int .i64 u),(.slice none 0 0),(.int .i64 aw),(.bool h.f0),(.string h.f1),(.slice A31 h.f2.length c31),(.bool h.f3),(.int .i64 0)]:=hD31_1_2.set 9 (.bool h.f3)
            have HD31_1:=Lib.hid (show Bx w (((((w2.setCell ⟨B,6,none⟩ (.bool h.f0)).setCell ⟨B,7,none⟩ (.string h.f1)).setCell ⟨B,8,none⟩ (.slice A31 h.f2.length c31)).setCell ⟨B,9,none⟩ (.bool h.f3)).setCell ⟨B,10,none⟩ (.int .i64 h.f4)) V p q9 B 93 #[(.string n),(.string s),(.int .i64 a),(.int .i64 u),(.slice none 0 0),(.int .i64 aw),(.bool h.f0),(.string h.f1),(.slice A31 h.f2.length c31),(.bool h.f3),(.int .i64 h.f4)] from hD31_1_3.set 10 (.int .i64 h.f4))
            clear hD31_1_0 hD31_1_1 hD31_1_2 hD31_1_3
            clear hr2 hk2 HK31 HD30_0 HD30_1 HC31_0 HC31_1 
            have HX31:=HXn31
            clear HXn31
            generalize (((((w2.setCell ⟨B,6,none⟩ (.bool h.f0)).setCell ⟨B,7,none⟩ (.string h.f1)).setCell ⟨B,8,none⟩ (.slice A31 h.f2.length c31)).setCell ⟨B,9,none⟩ (.bool h.f3)).setCell ⟨B,10,none⟩ (.int .i64 h.f4))=X31 at *
            have y0:=blk_cell (v:=(.string n)) HD31_1.out.blk 0 rfl
            have y1:=blk_cell (v:=(.string s)) HD31_1.out.blk 1 rfl
            have y2:=blk_cell (v:=(.int .i64 a)) HD31_1.out.blk 2 rfl
            have y3:=blk_cell (v:=(.int .i64 u)) HD31_1.out.blk 3 rfl
            have y4:=blk_cell (v:=(.slice none 0 0)) HD31_1.out.blk 4 rfl
            have y5:=blk_cell (v:=(.int .i64 aw)) HD31_1.out.blk 5 rfl
            have y6:=blk_cell (v:=(.bool h.f0)) HD31_1.out.blk 6 rfl
            have y7:=blk_cell (v:=(.string h.f1)) HD31_1.out.blk 7 rfl
            have y8:=blk_cell (v:=(.slice A31 h.f2.length c31)) HD31_1.out.blk 8 rfl
            have y9:=blk_cell (v:=(.bool h.f3)) HD31_1.out.blk 9 rfl
            have y10:=blk_cell (v:=(.int .i64 h.f4)) HD31_1.out.blk 10 rfl
            have z0:=blk_cell (v:=(.string ⟨#[]⟩)) HD31_0.out.blk 0 rfl
            have z1:=blk_cell (v:=(.string ⟨#[]⟩)) HD31_0.out.blk 1 rfl
            have z2:=blk_cell (v:=(.int .i64 0)) HD31_0.out.blk 2 rfl
            have z3:=blk_cell (v:=(.int .i64 0)) HD31_0.out.blk 3 rfl
            have z4:=blk_cell (v:=(.slice none 0 0)) HD31_0.out.blk 4 rfl
            have z5:=blk_cell (v:=(.int .i64 0)) HD31_0.out.blk 5 rfl
            have z6:=blk_cell (v:=(.bool false)) HD31_0.out.blk 6 rfl
            have z7:=blk_cell (v:=(.string ⟨#[]⟩)) HD31_0.out.blk 7 rfl
            have z8:=blk_cell (v:=(.slice none 0 0)) HD31_0.out.blk 8 rfl
            have z9:=blk_cell (v:=(.bool false)) HD31_0.out.blk 9 rfl
            have z10:=blk_cell (v:=(.int .i64 0)) HD31_0.out.blk 10 rfl
            have g0:=blk_free HD31_0.out.blk 0
            have g1:=blk_free HD31_0.out.blk 1
            have g2:=blk_free HD31_0.out.blk 2
            have g3:=blk_free HD31_0.out.blk 3
            have g4:=blk_free HD31_0.out.blk 4
            have g5:=blk_free HD31_0.out.blk 5
            have g6:=blk_free HD31_0.out.blk 6
            have g7:=blk_free HD31_0.out.blk 7
            have g8:=blk_free HD31_0.out.blk 8
            have g9:=blk_free HD31_0.out.blk 9
            have g10:=blk_free HD31_0.out.blk 10
            go_wp2_with fail
            have hE0:Bx w _ V p q9 w.heap.size 93 #[(.string n),(.string ⟨#[]⟩),(.int .i64 0),(.int .i64 0),(.slice none 0 0),(.int .i64 0),(.bool false),(.string ⟨#[]⟩),(.slice none 0 0),(.bool false),(.int .i64 0)]:=HD31_0.out.set 0 (.string n)
            have hE1:Bx w _ V p q9 w.heap.size 93 #[(.string n),(.string s),(.int .i64 0),(.int .i64 0),(.slice none 0 0),(.int .i64 0),(.bool false),(.string ⟨#[]⟩),(.slice none 0 0),(.bool false),(.int .i64 0)]:=hE0.set 1 (.string s)
            have hE2:Bx w _ V p q9 w.heap.size 93 #[(.string n),(.string s),(.int .i64 a),(.int .i64 0),(.slice none 0 0),(.int .i64 0),(.bool false),(.string ⟨#[]⟩),(.slice none 0 0),(.bool false),(.int .i64 0)]:=hE1.set 2 (.int .i64 a)
            have hE3:Bx w _ V p q9 w.heap.size 93 #[(.string n),(.string s),(.int .i64 a),(.int .i64 u),(.slice none 0 0),(.int .i64 0),(.bool false),(.string ⟨#[]⟩),(.slice none 0 0),(.bool false),(.int .i64 0)]:=hE2.set 3 (.int .i64 u)
            have hE4:Bx w _ V p q9 w.heap.size 93 #[(.string n),(.string s),(.int .i64 a),(.int .i64 u),(.slice none 0 0),(.int .i64 0),(.bool false),(.string ⟨#[]⟩),(.slice none 0 0),(.bool false),(.int .i64 0)]:=hE3.set 4 (.slice none 0 0)
            have hE5:Bx w _ V p q9 w.heap.size 93 #[(.string n),(.string s),(.int .i64 a),(.int .i64 u),(.slice none 0 0),(.int .i64 aw),(.bool false),(.string ⟨#[]⟩),(.slice none 0 0),(.bool false),(.int .i64 0)]:=hE4.set 5 (.int .i64 aw)
            have hE6:Bx w _ V p q9 w.heap.size 93 #[(.string n),(.string s),(.int .i64 a),(.int .i64 u),(.slice none 0 0),(.int .i64 aw),(.bool h.f0),(.string ⟨#[]⟩),(.slice none 0 0),(.bool false),(.int .i64 0)]:=hE5.set 6 (.bool h.f0)
            have hE7:Bx w _ V p q9 w.heap.size 93 #[(.string n),(.string s),(.int .i64 a),(.int .i64 u),(.slice none 0 0),(.int .i64 aw),(.bool h.f0),(.string h.f1),(.slice none 0 0),(.bool false),(.int .i64 0)]:=hE6.set 7 (.string h.f1)
            have hE8:Bx w _ V p q9 w.heap.size 93 #[(.string n),(.string s),(.int .i64 a),(.int .i64 u),(.slice none 0 0),(.int .i64 aw),(.bool h.f0),(.string h.f1),(.slice A31 h.f2.length c31),(.bool false),(.int .i64 0)]:=hE7.set 8 (.slice A31 h.f2.length c31)
            have hE9:Bx w _ V p q9 w.heap.size 93 #[(.string n),(.string s),(.int .i64 a),(.int .i64 u),(.slice none 0 0),(.int .i64 aw),(.bool h.f0),(.string h.f1),(.slice A31 h.f2.length c31),(.bool h.f3),(.int .i64 0)]:=hE8.set 9 (.bool h.f3)
            have hE:Bx w _ V p q9 w.heap.size 93 #[(.string n),(.string s),(.int .i64 a),(.int .i64 u),(.slice none 0 0),(.int .i64 aw),(.bool h.f0),(.string h.f1),(.slice A31 h.f2.length c31),(.bool h.f3),(.int .i64 h.f4)]:=hE9.set 10 (.int .i64 h.f4)
            refine bodyPost_ret (results_cell_row rfl _ _ w.heap.size 93 #[(.string n),(.string s),(.int .i64 a),(.int .i64 u),(.slice none 0 0),(.int .i64 aw),(.bool h.f0),(.string h.f1),(.slice A31 h.f2.length c31),(.bool h.f3),(.int .i64 h.f4)] (0,0) _ rfl hE.blk Tryz.underlying93 rfl rfl) rfl ?_
            rw [HF31.out]
            have hy31:Kd.R Kd.string 9 _ s31 (fun k=>s31≤k) (.slice A31 h.f2.length c31) h.f2:=(Kd.R_far (Kd.R_far (Kd.R_far (Kd.R_far (Kd.R_far (Kd.R_far (Kd.R_far (Kd.R_far (Kd.R_far (Kd.R_far (Kd.R_far HX31.out (p:=⟨w.heap.size,0,none⟩) (fun k hk=>by have:=HS31.out;simp only;omega) (.string n)) (p:=⟨w.heap.size,1,none⟩) (fun k hk=>by have:=HS31.out;simp only;omega) (.string s)) (p:=⟨w.heap.size,2,none⟩) (fun k hk=>by have:=HS31.out;simp only;omega) (.int .i64 a)) (p:=⟨w.heap.size,3,none⟩) (fun k hk=>by have:=HS31.out;simp only;omega) (.int .i64 u)) (p:=⟨w.heap.size,4,none⟩) (fun k hk=>by have:=HS31.out;simp only;omega) (.slice none 0 0)) (p:=⟨w.heap.size,5,none⟩) (fun k hk=>by have:=HS31.out;simp only;omega) (.int .i64 aw)) (p:=⟨w.heap.size,6,none⟩) (fun k hk=>by have:=HS31.out;simp only;omega) (.bool h.f0)) (p:=⟨w.heap.size,7,none⟩) (fun k hk=>by have:=HS31.out;simp only;omega) (.string h.f1)) (p:=⟨w.heap.size,8,none⟩) (fun k hk=>by have:=HS31.out;simp only;omega) (.slice A31 h.f2.length c31)) (p:=⟨w.heap.size,9,none⟩) (fun k hk=>by have:=HS31.out;simp only;omega) (.bool h.f3)) (p:=⟨w.heap.size,10,none⟩) (fun k hk=>by have:=HS31.out;simp only;omega) (.int .i64 h.f4))
            have hz31:=Kd.R_lower (Kd.R_mono hy31 (ok':=fun k=>w.heap.size≤k) (fun k hk=>by have:=HS31.out;omega)) (base':=w.heap.size) (by have:=HS31.out;omega)
            exact ⟨_,rfl,⟨_,rfl,k93_mkM _ _ _ (⟨n,s,a,u,[],aw,h⟩:S93) (Kd.R_nil _ _ _ _ _) hz31⟩,hE.rd,hE.keep⟩
end Go.Proofs.YtcakgennlliejaaGreatDoor
