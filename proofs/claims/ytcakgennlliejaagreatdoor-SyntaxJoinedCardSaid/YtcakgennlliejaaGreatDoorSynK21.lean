import Derived.Deep.RegionHeldLaw
import Derived.Test.YtcakgennlliejaaGreatDoorSynK20
set_option maxHeartbeats 8000000
set_option maxRecDepth 100000
namespace Go.Proofs.YtcakgennlliejaaGreatDoor
open Go.Shelf Go.RowKit Go.Lib
open Go.Proofs.YtcakgennlliejaaGreatDoorW.PrintWords
open Go.Proofs.YtcakgennlliejaaGreatDoor.PSyntaxJoined
open Sx
set_option linter.unusedVariables false
set_option linter.unusedSimpArgs false
theorem same_strings (l:List ByteArray) (A0 A1:Option Addr) (c0 c1:Nat) (w:World) (h0:Kd.C Kd.string w A0 l.length l) (h1:Kd.C Kd.string w A1 l.length l) (hl:l.length≤4294967296) :
  Calls Tryz.prog 20 #[.slice A0 l.length c0,.slice A1 l.length c1] w fun e w'=>e=.returned (.bool true)∧Below w.heap.size w w':=by
 obtain ⟨n,hn⟩:∃ n,l.length=n:=⟨_,rfl⟩
 have H0:=Lib.hid (fun i (hi:i<l.length)=>show ∃ a,A0=some a∧w.cell? (a.add i)=some (.string (rdOf ByteArray.empty l i)) from Kd.at_string h0 (i:Int) (Int.natCast_nonneg i) (by omega))
 have H1:=Lib.hid (fun i (hi:i<l.length)=>show ∃ a,A1=some a∧w.cell? (a.add i)=some (.string (rdOf ByteArray.empty l i)) from Kd.at_string h1 (i:Int) (Int.natCast_nonneg i) (by omega))
 rw [hn] at H0 H1 hl ⊢
 have HL:=Lib.hid hl
 clear h0 h1 hl hn
 go_enter Tryz.func20,Tryz.ntmps20
 go_wp2_with fail
 go_loopw [5] (fun u5 wr=>∃ i:Nat,u5=.int .i64 i∧i≤n∧Below w.heap.size w wr) (fun u5 _=>n-(RowKit.intOf u5).toNat)
 case atStart=>exact ⟨0,rfl,Nat.zero_le _,Below.refl _ _⟩
 case round =>
  obtain ⟨i,rfl,hi,hb⟩:=hrel
  have HB:=Lib.hid hb
  by_cases hlt:i<n
  ·obtain ⟨a0,rfl,y0⟩:=H0.out i hlt
   obtain ⟨a1,rfl,y1⟩:=H1.out i hlt
   have z0:=keep_cell y0 hb
   have z1:=keep_cell y1 hb
   clear y0 y1 hb
   have HLT:=Lib.hid hlt
   have x0:(0:Int)≤(i:Int):=by omega
   have x1:(i:Int)<(n:Int):=by omega
   have x5:(i:Int)≤4294967296:=by have:=HL.out;omega
   have x2:decide ((i:Int)<(n:Int))=true:=decide_eq_true x1
   have x3:decide (i<n)=true:=decide_eq_true hlt
   clear hlt hi
   go_upto_region 6 with (fail)
   generalize rdOf ByteArray.empty l i=sx at z0 z1
   go_quiet (fail)
   go_wp2_with fail
   go_roundw
   case rel=>exact ⟨i+1,rfl,HLT.out,below_drewn HB.out _⟩
   case measure=>(have h9:=HLT.out;simp [RowKit.intOf];omega)
  ·have HLE:=Lib.hid (show i=n by omega)
   have x2:decide ((i:Int)<(n:Int))=false:=decide_eq_false (by omega)
   have x3:decide (i<n)=false:=decide_eq_false hlt
   clear hb hlt hi
   go_wp2_with fail
   go_ret
   exact ⟨rfl,HB.out⟩
theorem same_members (l:List S54) (A0 A1:Option Addr) (c0 c1:Nat) (w:World) (h0:Kd.C k54 w A0 l.length l) (h1:Kd.C k54 w A1 l.length l) (hl:l.length≤4294967296) :
  Calls Tryz.prog 21 #[.slice A0 l.length c0,.slice A1 l.length c1] w fun e w'=>e=.returned (.bool true)∧Below w.heap.size w w':=by
 obtain ⟨n,hn⟩:∃ n,l.length=n:=⟨_,rfl⟩
 have HC0:=Lib.hid h0
 have HC1:=Lib.hid h1
 have HN:=Lib.hid hn
 rw [hn] at hl ⊢
 have HL:=Lib.hid hl
 clear h0 h1 hl hn
 go_enter Tryz.func21,Tryz.ntmps21
 go_wp2_with fail
 go_loopw [5] (fun u5 wr=>∃ i:Nat,u5=.int .i64 i∧i≤n∧Below w.heap.size w wr) (fun u5 _=>n-(RowKit.intOf u5).toNat)
 case atStart=>exact ⟨0,rfl,Nat.zero_le _,Below.refl _ _⟩
 case round =>
  obtain ⟨i,rfl,hi,hb⟩:=hrel
  have HB:=Lib.hid hb
  by_cases hlt:i<n
  ·have hil:(i:Int)<(l.length:Int):=by have:=HN.out;omega
   obtain ⟨a0,ea0,t0,t1⟩:=at_T54 HC0.out (i:Int) (Int.natCast_nonneg i) hil
   obtain ⟨a1,ea1,u0,u1⟩:=at_T54 HC1.out (i:Int) (Int.natCast_nonneg i) hil
   subst ea0
   subst ea1
   simp only [Int.toNat_natCast] at t0 t1 u0 u1
   generalize rd_T54 l (i:Int)=x at t0 t1 u0 u1
   have y0:=keep_cell t0 hb
   have z0:=keep_cell u0 hb
   have y1:=keep_cell t1 hb
   have z1:=keep_cell u1 hb
   clear t0 t1 u0 u1 hb hil
   have HLT:=Lib.hid hlt
   have x0:(0:Int)≤(i:Int):=by omega
   have x1:(i:Int)<(n:Int):=by omega
   have x5:(i:Int)≤4294967296:=by have:=HL.out;omega
   have x2:decide ((i:Int)<(n:Int))=true:=decide_eq_true x1
   have x3:decide (i<n)=true:=decide_eq_true hlt
   clear hlt hi
   go_upto_region 6 with (fail)
   go_quiet (fail)
   go_wp2_with fail
   go_roundw
   case rel=>exact ⟨i+1,rfl,HLT.out,below_drewn HB.out _⟩
   case measure=>(have h9:=HLT.out;simp [RowKit.intOf];omega)
  ·have x2:decide ((i:Int)<(n:Int))=false:=decide_eq_false (by omega)
   have x3:decide (i<n)=false:=decide_eq_false hlt
   clear hb hlt hi
   go_wp2_with fail
   go_ret
   exact ⟨rfl,HB.out⟩
theorem same_sources (l:List S117) (A0 A1:Option Addr) (c0 c1:Nat) (w:World) (h0:Kd.C k117 w A0 l.length l) (h1:Kd.C k117 w A1 l.length l) (hl:l.length≤4294967296) :
  Calls Tryz.prog 24 #[.slice A0 l.length c0,.slice A1 l.length c1] w fun e w'=>e=.returned (.bool true)∧Below w.heap.size w w':=by
 obtain ⟨n,hn⟩:∃ n,l.length=n:=⟨_,rfl⟩
 have HC0:=Lib.hid h0
 have HC1:=Lib.hid h1
 have HN:=Lib.hid hn
 rw [hn] at hl ⊢
 have HL:=Lib.hid hl
 clear h0 h1 hl hn
 go_enter Tryz.func24,Tryz.ntmps24
 go_wp2_with fail
 go_loopw [5] (fun u5 wr=>∃ i:Nat,u5=.int .i64 i∧i≤n∧Below w.heap.size w wr) (fun u5 _=>n-(RowKit.intOf u5).toNat)
 case atStart=>exact ⟨0,rfl,Nat.zero_le _,Below.refl _ _⟩
 case round =>
  obtain ⟨i,rfl,hi,hb⟩:=hrel
  have HB:=Lib.hid hb
  by_cases hlt:i<n
  ·have hil:(i:Int)<(l.length:Int):=by have:=HN.out;omega
   obtain ⟨a0,ea0,t0,t1⟩:=at_T117 HC0.out (i:Int) (Int.natCast_nonneg i) hil
   obtain ⟨a1,ea1,u0,u1⟩:=at_T117 HC1.out (i:Int) (Int.natCast_nonneg i) hil
   subst ea0
   subst ea1
   simp only [Int.toNat_natCast] at t0 t1 u0 u1
   generalize rd_T117 l (i:Int)=x at t0 t1 u0 u1
   have y0:=keep_cell t0 hb
   have z0:=keep_cell u0 hb
   have y1:=keep_cell t1 hb
   have z1:=keep_cell u1 hb
   clear t0 t1 u0 u1 hb hil
   have HLT:=Lib.hid hlt
   have x0:(0:Int)≤(i:Int):=by omega
   have x1:(i:Int)<(n:Int):=by omega
   have x5:(i:Int)≤4294967296:=by have:=HL.out;omega
   have x2:decide ((i:Int)<(n:Int))=true:=decide_eq_true x1
   have x3:decide (i<n)=true:=decide_eq_true hlt
   clear hlt hi
   go_upto_region 6 with (fail)
   go_quiet (fail)
   go_wp2_with fail
   go_roundw
   case rel=>exact ⟨i+1,rfl,HLT.out,below_drewn HB.out _⟩
   case measure=>(have h9:=HLT.out;simp [RowKit.intOf];omega)
  ·have x2:decide ((i:Int)<(n:Int))=false:=decide_eq_false (by omega)
   have x3:decide (i<n)=false:=decide_eq_false hlt
   clear hb hlt hi
   go_wp2_with fail
   go_ret
   exact ⟨rfl,HB.out⟩
theorem same_excepts (l:List S120) (A0 A1:Option Addr) (c0 c1:Nat) (w:World) (h0:Kd.C k120 w A0 l.length l) (h1:Kd.C k120 w A1 l.length l) (hl:l.length≤4294967296) :
  Calls Tryz.prog 26 #[.slice A0 l.length c0,.slice A1 l.length c1] w fun e w'=>e=.returned (.bool true)∧Below w.heap.size w w':=by
 obtain ⟨n,hn⟩:∃ n,l.length=n:=⟨_,rfl⟩
 have HC0:=Lib.hid h0
 have HC1:=Lib.hid h1
 have HN:=Lib.hid hn
 rw [hn] at hl ⊢
 have HL:=Lib.hid hl
 clear h0 h1 hl hn
 go_enter Tryz.func26,Tryz.ntmps26
 go_wp2_with fail
 go_loopw [5] (fun u5 wr=>∃ i:Nat,u5=.int .i64 i∧i≤n∧Below w.heap.size w wr) (fun u5 _=>n-(RowKit.intOf u5).toNat)
 case atStart=>exact ⟨0,rfl,Nat.zero_le _,Below.refl _ _⟩
 case round =>
  obtain ⟨i,rfl,hi,hb⟩:=hrel
  have HB:=Lib.hid hb
  by_cases hlt:i<n
  ·have hil:(i:Int)<(l.length:Int):=by have:=HN.out;omega
   obtain ⟨a0,ea0,t0,t1⟩:=at_T120 HC0.out (i:Int) (Int.natCast_nonneg i) hil
   obtain ⟨a1,ea1,u0,u1⟩:=at_T120 HC1.out (i:Int) (Int.natCast_nonneg i) hil
   subst ea0
   subst ea1
   simp only [Int.toNat_natCast] at t0 t1 u0 u1
   generalize rd_T120 l (i:Int)=x at t0 t1 u0 u1
   have y0:=keep_cell t0 hb
   have z0:=keep_cell u0 hb
   have y1:=keep_cell t1 hb
   have z1:=keep_cell u1 hb
   clear t0 t1 u0 u1 hb hil
   have HLT:=Lib.hid hlt
   have x0:(0:Int)≤(i:Int):=by omega
   have x1:(i:Int)<(n:Int):=by omega
   have x5:(i:Int)≤4294967296:=by have:=HL.out;omega
   have x2:decide ((i:Int)<(n:Int))=true:=decide_eq_true x1
   have x3:decide (i<n)=true:=decide_eq_true hlt
   clear hlt hi
   go_upto_region 6 with (fail)
   go_quiet (fail)
   go_wp2_with fail
   go_roundw
   case rel=>exact ⟨i+1,rfl,HLT.out,below_drewn HB.out _⟩
   case measure=>(have h9:=HLT.out;simp [RowKit.intOf];omega)
  ·have x2:decide ((i:Int)<(n:Int))=false:=decide_eq_false (by omega)
   have x3:decide (i<n)=false:=decide_eq_false hlt
   clear hb hlt hi
   go_wp2_with fail
   go_ret
   exact ⟨rfl,HB.out⟩
theorem same_money (l:List Int) (A0 A1:Option Addr) (c0 c1:Nat) (w:World) (h0:Kd.C (Kd.int .i64) w A0 l.length l) (h1:Kd.C (Kd.int .i64) w A1 l.length l) (hl:l.length≤4294967296) :
  Calls Tryz.prog 62 #[.slice A0 l.length c0,.slice A1 l.length c1] w fun e w'=>e=.returned (.bool true)∧Below w.heap.size w w':=by
 obtain ⟨n,hn⟩:∃ n,l.length=n:=⟨_,rfl⟩
 have HC0:=Lib.hid h0
 have HC1:=Lib.hid h1
 have HN:=Lib.hid hn
 rw [hn] at hl ⊢
 have HL:=Lib.hid hl
 clear h0 h1 hl hn
 go_enter Tryz.func62,Tryz.ntmps62
 go_wp2_with fail
 go_loopw [5] (fun u5 wr=>∃ i:Nat,u5=.int .i64 i∧i≤n∧Below w.heap.size w wr) (fun u5 _=>n-(RowKit.intOf u5).toNat)
 case atStart=>exact ⟨0,rfl,Nat.zero_le _,Below.refl _ _⟩
 case round =>
  obtain ⟨i,rfl,hi,hb⟩:=hrel
  have HB:=Lib.hid hb
  by_cases hlt:i<n
  ·have hil:(i:Int)<(l.length:Int):=by have:=HN.out;omega
   obtain ⟨a0,ea0,t0⟩:=Kd.at_int HC0.out (i:Int) (Int.natCast_nonneg i) hil
   obtain ⟨a1,ea1,u0⟩:=Kd.at_int HC1.out (i:Int) (Int.natCast_nonneg i) hil
   subst ea0
   subst ea1
   simp only [Int.toNat_natCast] at t0 u0
   generalize (rdOf 0) l (i:Int)=x at t0 u0
   have y0:=keep_cell t0 hb
   have z0:=keep_cell u0 hb
   clear t0 u0 hb hil
   have HLT:=Lib.hid hlt
   have x0:(0:Int)≤(i:Int):=by omega
   have x1:(i:Int)<(n:Int):=by omega
   have x5:(i:Int)≤4294967296:=by have:=HL.out;omega
   have x2:decide ((i:Int)<(n:Int))=true:=decide_eq_true x1
   have x3:decide (i<n)=true:=decide_eq_true hlt
   clear hlt hi
   go_upto_region 6 with (fail)
   go_quiet (fail)
   go_wp2_with fail
   go_roundw
   case rel=>exact ⟨i+1,rfl,HLT.out,below_drewn HB.out _⟩
   case measure=>(have h9:=HLT.out;simp [RowKit.intOf];omega)
  ·have x2:decide ((i:Int)<(n:Int))=false:=decide_eq_false (by omega)
   have x3:decide (i<n)=false:=decide_eq_false hlt
   clear hb hlt hi
   go_wp2_with fail
   go_ret
   exact ⟨rfl,HB.out⟩
namespace Sx
def sm {α:Type} (l:List α):Prop:=l.length≤4294967296
def smPred (x:S85):Prop:=sm x.f2∧sm x.f3
def smLit (x:S91):Prop:=sm x.f2
def smTerm (x:S102):Prop:=sm x.f2
def smTerms (l:List S102):Prop:=sm l∧∀ x∈l,smTerm x
def smGuard (x:S98):Prop:=smTerms x.f0∧smTerms x.f2
def smPrem (x:S100):Prop:=smLit x.f1∧smGuard x.f2
def smPrems (l:List S100):Prop:=sm l∧∀ x∈l,smPrem x
def smRule (x:S93):Prop:=smPrems x.f4∧smLit x.f6
def smTotal (x:S104):Prop:=sm x.f2
def smPreds (l:List S85):Prop:=sm l∧∀ x∈l,smPred x
def smClasses (l:List (List ByteArray)):Prop:=sm l∧∀ x∈l,sm x
def smRules (l:List S93):Prop:=sm l∧∀ x∈l,smRule x
def smTotals (l:List S104):Prop:=sm l∧∀ x∈l,smTotal x
def smStt (s:Stt):Prop:=sm s.kinds∧sm s.members∧smPreds s.preds∧smClasses s.classes∧sm s.sources∧smRules s.rules∧sm s.excepts∧smTotals s.totals
end Sx
theorem same_pred (x:S85) (A2 B2:Option Addr) (c2 d2:Nat) (A3 B3:Option Addr) (c3 d3:Nat) (w:World) (g2:Kd.C Kd.string w A2 x.f2.length x.f2) (k2:Kd.C Kd.string w B2 x.f2.length x.f2) (g3:Kd.C (Kd.int .i64) w A3 x.f3.length x.f3) (k3:Kd.C (Kd.int .i64) w B3 x.f3.length x.f3) (hs:smPred x) :
  Calls Tryz.prog 43 #[.agg #[.string x.f0,.int .i64 x.f1,.slice A2 x.f2.length c2,.slice A3 x.f3.length c3],.agg #[.string x.f0,.int .i64 x.f1,.slice B2 x.f2.length d2,.slice B3 x.f3.length d3]] w fun e w'=>e=.returned (.bool true)∧Below w.heap.size w w':=by
 have HSM:=Lib.hid hs
 obtain ⟨X,hX⟩:∃ X,(w.alloc (.cells #[.string x.f0,.int .i64 x.f1,.slice A2 x.f2.length c2,.slice A3 x.f3.length c3] 85)).alloc (.cells #[.string x.f0,.int .i64 x.f1,.slice B2 x.f2.length d2,.slice B3 x.f3.length d3] 85)=X:=⟨_,rfl⟩
 obtain ⟨b0,hb0⟩:∃ b,w.heap.size=b:=⟨_,rfl⟩
 obtain ⟨b1,hb1⟩:∃ b,b0+1=b:=⟨_,rfl⟩
 have HBX:=Lib.hid (show Below w.heap.size w X by rw [← hX];exact ((Below.refl _ w).alloc (Nat.le_refl _) _).alloc (by rw [World.size_alloc];omega) _)
 have h1:X.heap[b1]?=some (.cells #[.string x.f0,.int .i64 x.f1,.slice B2 x.f2.length d2,.slice B3 x.f3.length d3] 85 (0,0)):=by
  rw [← hX,← hb1,← hb0]
  have h:=heap_alloc_new (w.alloc (.cells #[.string x.f0,.int .i64 x.f1,.slice A2 x.f2.length c2,.slice A3 x.f3.length c3] 85)) (.cells #[.string x.f0,.int .i64 x.f1,.slice B2 x.f2.length d2,.slice B3 x.f3.length d3] 85)
  rw [World.size_alloc] at h
  exact h
 have h0:X.heap[b0]?=some (.cells #[.string x.f0,.int .i64 x.f1,.slice A2 x.f2.length c2,.slice A3 x.f3.length c3] 85 (0,0)):=by
  rw [← hX,← hb0]
  exact (((Below.refl _ _).alloc (Nat.le_refl _) _).block _ (by simp only [World.size_alloc];omega)).trans (heap_alloc_new w _)
 have HCE:=Lib.hid (fun W (hW:Below X.heap.size X W)=>(⟨(hW.block b0 (blk_lt h0)).trans h0,(hW.block b1 (blk_lt h1)).trans h1⟩:W.heap[b0]?=some (.cells #[.string x.f0,.int .i64 x.f1,.slice A2 x.f2.length c2,.slice A3 x.f3.length c3] 85 (0,0))∧W.heap[b1]?=some (.cells #[.string x.f0,.int .i64 x.f1,.slice B2 x.f2.length d2,.slice B3 x.f3.length d3] 85 (0,0))))
 have G2:=Lib.hid (Kd.C_below g2 HBX.out)
 have K2:=Lib.hid (Kd.C_below k2 HBX.out)
 have G3:=Lib.hid (Kd.C_below g3 HBX.out)
 have K3:=Lib.hid (Kd.C_below k3 HBX.out)
 have HB0:=Lib.hid (Below.refl X.heap.size X)
 have y0_0:=blk_cell (v:=.string x.f0) (HCE.out X HB0.out).1 0 rfl
 have z0_0:=blk_cell (v:=.string x.f0) (HCE.out X HB0.out).2 0 rfl
 have y0_1:=blk_cell (v:=.int .i64 x.f1) (HCE.out X HB0.out).1 1 rfl
 have z0_1:=blk_cell (v:=.int .i64 x.f1) (HCE.out X HB0.out).2 1 rfl
 have y0_2:=blk_cell (v:=.slice A2 x.f2.length c2) (HCE.out X HB0.out).1 2 rfl
 have z0_2:=blk_cell (v:=.slice B2 x.f2.length d2) (HCE.out X HB0.out).2 2 rfl
 have y0_3:=blk_cell (v:=.slice A3 x.f3.length c3) (HCE.out X HB0.out).1 3 rfl
 have z0_3:=blk_cell (v:=.slice B3 x.f3.length d3) (HCE.out X HB0.out).2 3 rfl
 have HX:=Lib.hid hX
 have HN0:=Lib.hid hb0
 have HN1:=Lib.hid hb1
 have HM0:=Lib.hid (show x.f2.length≤4294967296 from hs.1)
 have HM1:=Lib.hid (show x.f3.length≤4294967296 from hs.2)
 clear g2 k2 g3 k3 hs hX hb0 hb1 h0 h1
 go_enter Tryz.func43,Tryz.ntmps43
 go_upto_region 1 with (fail)
 try rw [HX.out]
 try rw [HN0.out]
 try rw [HN1.out]
 go_wp2_with (first | (go_at_call 20;((with_reducible refine (same_strings x.f2 A2 B2 c2 d2 _ (Kd.C_below G2.out HB0.out) (Kd.C_below K2.out HB0.out) HM0.out).mono ?_);rintro e w1 ⟨rfl,hb1⟩;have HB1:=Lib.hid (HB0.out.trans (hb1.mono HB0.out.size));have y1_0:=blk_cell (v:=.string x.f0) (HCE.out _ HB1.out).1 0 rfl;have z1_0:=blk_cell (v:=.string x.f0) (HCE.out _ HB1.out).2 0 rfl;have y1_1:=blk_cell (v:=.int .i64 x.f1) (HCE.out _ HB1.out).1 1 rfl;have z1_1:=blk_cell (v:=.int .i64 x.f1) (HCE.out _ HB1.out).2 1 rfl;have y1_2:=blk_cell (v:=.slice A2 x.f2.length c2) (HCE.out _ HB1.out).1 2 rfl;have z1_2:=blk_cell (v:=.slice B2 x.f2.length d2) (HCE.out _ HB1.out).2 2 rfl;have y1_3:=blk_cell (v:=.slice A3 x.f3.length c3) (HCE.out _ HB1.out).1 3 rfl;have z1_3:=blk_cell (v:=.slice B3 x.f3.length d3) (HCE.out _ HB1.out).2 3 rfl;clear hb1)) | (go_at_call 62;((with_reducible refine (same_money x.f3 A3 B3 c3 d3 _ (Kd.C_below G3.out HB1.out) (Kd.C_below K3.out HB1.out) HM1.out).mono ?_);rintro e w2 ⟨rfl,hb2⟩;have HB2:=Lib.hid (HB1.out.trans (hb2.mono HB1.out.size));have y2_0:=blk_cell (v:=.string x.f0) (HCE.out _ HB2.out).1 0 rfl;have z2_0:=blk_cell (v:=.string x.f0) (HCE.out _ HB2.out).2 0 rfl;have y2_1:=blk_cell (v:=.int .i64 x.f1) (HCE.out _ HB2.out).1 1 rfl;have z2_1:=blk_cell (v:=.int .i64 x.f1) (HCE.out _ HB2.out).2 1 rfl;have y2_2:=blk_cell (v:=.slice A2 x.f2.length c2) (HCE.out _ HB2.out).1 2 rfl;have z2_2:=blk_cell (v:=.slice B2 x.f2.length d2) (HCE.out _ HB2.out).2 2 rfl;have y2_3:=blk_cell (v:=.slice A3 x.f3.length c3) (HCE.out _ HB2.out).1 3 rfl;have z2_3:=blk_cell (v:=.slice B3 x.f3.length d3) (HCE.out _ HB2.out).2 3 rfl;clear hb2)))
 go_ret
 exact ⟨by simp,HBX.out.trans (HB2.out.mono HBX.out.size)⟩
theorem same_lit (x:S91) (A2 B2:Option Addr) (c2 d2:Nat) (w:World) (g2:Kd.C Kd.string w A2 x.f2.length x.f2) (k2:Kd.C Kd.string w B2 x.f2.length x.f2) (hs:smLit x) :
  Calls Tryz.prog 64 #[.agg #[.bool x.f0,.string x.f1,.slice A2 x.f2.length c2,.bool x.f3,.int .i64 x.f4],.agg #[.bool x.f0,.string x.f1,.slice B2 x.f2.length d2,.bool x.f3,.int .i64 x.f4]] w fun e w'=>e=.returned (.bool true)∧Below w.heap.size w w':=by
 have HSM:=Lib.hid hs
 obtain ⟨X,hX⟩:∃ X,(w.alloc (.cells #[.bool x.f0,.string x.f1,.slice A2 x.f2.length c2,.bool x.f3,.int .i64 x.f4] 91)).alloc (.cells #[.bool x.f0,.string x.f1,.slice B2 x.f2.length d2,.bool x.f3,.int .i64 x.f4] 91)=X:=⟨_,rfl⟩
 obtain ⟨b0,hb0⟩:∃ b,w.heap.size=b:=⟨_,rfl⟩
 obtain ⟨b1,hb1⟩:∃ b,b0+1=b:=⟨_,rfl⟩
 have HBX:=Lib.hid (show Below w.heap.size w X by rw [← hX];exact ((Below.refl _ w).alloc (Nat.le_refl _) _).alloc (by rw [World.size_alloc];omega) _)
 have h1:X.heap[b1]?=some (.cells #[.bool x.f0,.string x.f1,.slice B2 x.f2.length d2,.bool x.f3,.int .i64 x.f4] 91 (0,0)):=by
  rw [← hX,← hb1,← hb0]
  have h:=heap_alloc_new (w.alloc (.cells #[.bool x.f0,.string x.f1,.slice A2 x.f2.length c2,.bool x.f3,.int .i64 x.f4] 91)) (.cells #[.bool x.f0,.string x.f1,.slice B2 x.f2.length d2,.bool x.f3,.int .i64 x.f4] 91)
  rw [World.size_alloc] at h
  exact h
 have h0:X.heap[b0]?=some (.cells #[.bool x.f0,.string x.f1,.slice A2 x.f2.length c2,.bool x.f3,.int .i64 x.f4] 91 (0,0)):=by
  rw [← hX,← hb0]
  exact (((Below.refl _ _).alloc (Nat.le_refl _) _).block _ (by simp only [World.size_alloc];omega)).trans (heap_alloc_new w _)
 have HCE:=Lib.hid (fun W (hW:Below X.heap.size X W)=>(⟨(hW.block b0 (blk_lt h0)).trans h0,(hW.block b1 (blk_lt h1)).trans h1⟩:W.heap[b0]?=some (.cells #[.bool x.f0,.string x.f1,.slice A2 x.f2.length c2,.bool x.f3,.int .i64 x.f4] 91 (0,0))∧W.heap[b1]?=some (.cells #[.bool x.f0,.string x.f1,.slice B2 x.f2.length d2,.bool x.f3,.int .i64 x.f4] 91 (0,0))))
 have G2:=Lib.hid (Kd.C_below g2 HBX.out)
 have K2:=Lib.hid (Kd.C_below k2 HBX.out)
 have HB0:=Lib.hid (Below.refl X.heap.size X)
 have y0_0:=blk_cell (v:=.bool x.f0) (HCE.out X HB0.out).1 0 rfl
 have z0_0:=blk_cell (v:=.bool x.f0) (HCE.out X HB0.out).2 0 rfl
 have y0_1:=blk_cell (v:=.string x.f1) (HCE.out X HB0.out).1 1 rfl
 have z0_1:=blk_cell (v:=.string x.f1) (HCE.out X HB0.out).2 1 rfl
 have y0_2:=blk_cell (v:=.slice A2 x.f2.length c2) (HCE.out X HB0.out).1 2 rfl
 have z0_2:=blk_cell (v:=.slice B2 x.f2.length d2) (HCE.out X HB0.out).2 2 rfl
 have y0_3:=blk_cell (v:=.bool x.f3) (HCE.out X HB0.out).1 3 rfl
 have z0_3:=blk_cell (v:=.bool x.f3) (HCE.out X HB0.out).2 3 rfl
 have y0_4:=blk_cell (v:=.int .i64 x.f4) (HCE.out X HB0.out).1 4 rfl
 have z0_4:=blk_cell (v:=.int .i64 x.f4) (HCE.out X HB0.out).2 4 rfl
 have HX:=Lib.hid hX
 have HN0:=Lib.hid hb0
 have HN1:=Lib.hid hb1
 have HM0:=Lib.hid (show x.f2.length≤4294967296 from hs)
 clear g2 k2 hs hX hb0 hb1 h0 h1
 go_enter Tryz.func64,Tryz.ntmps64
 go_upto_region 1 with (fail)
 try rw [HX.out]
 try rw [HN0.out]
 try rw [HN1.out]
 go_wp2_with (first | (go_at_call 20;((with_reducible refine (same_strings x.f2 A2 B2 c2 d2 _ (Kd.C_below G2.out HB0.out) (Kd.C_below K2.out HB0.out) HM0.out).mono ?_);rintro e w1 ⟨rfl,hb1⟩;have HB1:=Lib.hid (HB0.out.trans (hb1.mono HB0.out.size));have y1_0:=blk_cell (v:=.bool x.f0) (HCE.out _ HB1.out).1 0 rfl;have z1_0:=blk_cell (v:=.bool x.f0) (HCE.out _ HB1.out).2 0 rfl;have y1_1:=blk_cell (v:=.string x.f1) (HCE.out _ HB1.out).1 1 rfl;have z1_1:=blk_cell (v:=.string x.f1) (HCE.out _ HB1.out).2 1 rfl;have y1_2:=blk_cell (v:=.slice A2 x.f2.length c2) (HCE.out _ HB1.out).1 2 rfl;have z1_2:=blk_cell (v:=.slice B2 x.f2.length d2) (HCE.out _ HB1.out).2 2 rfl;have y1_3:=blk_cell (v:=.bool x.f3) (HCE.out _ HB1.out).1 3 rfl;have z1_3:=blk_cell (v:=.bool x.f3) (HCE.out _ HB1.out).2 3 rfl;have y1_4:=blk_cell (v:=.int .i64 x.f4) (HCE.out _ HB1.out).1 4 rfl;have z1_4:=blk_cell (v:=.int .i64 x.f4) (HCE.out _ HB1.out).2 4 rfl;clear hb1)))
 go_ret
 exact ⟨by simp,HBX.out.trans (HB1.out.mono HBX.out.size)⟩
theorem same_term (x:S102) (A2 B2:Option Addr) (c2 d2:Nat) (w:World) (g2:Kd.C Kd.string w A2 x.f2.length x.f2) (k2:Kd.C Kd.string w B2 x.f2.length x.f2) (hs:smTerm x) :
  Calls Tryz.prog 143 #[.agg #[.int .i64 x.f0,.string x.f1,.slice A2 x.f2.length c2,.int .i64 x.f3],.agg #[.int .i64 x.f0,.string x.f1,.slice B2 x.f2.length d2,.int .i64 x.f3]] w fun e w'=>e=.returned (.bool true)∧Below w.heap.size w w':=by
 have HSM:=Lib.hid hs
 obtain ⟨X,hX⟩:∃ X,(w.alloc (.cells #[.int .i64 x.f0,.string x.f1,.slice A2 x.f2.length c2,.int .i64 x.f3] 102)).alloc (.cells #[.int .i64 x.f0,.string x.f1,.slice B2 x.f2.length d2,.int .i64 x.f3] 102)=X:=⟨_,rfl⟩
 obtain ⟨b0,hb0⟩:∃ b,w.heap.size=b:=⟨_,rfl⟩
 obtain ⟨b1,hb1⟩:∃ b,b0+1=b:=⟨_,rfl⟩
 have HBX:=Lib.hid (show Below w.heap.size w X by rw [← hX];exact ((Below.refl _ w).alloc (Nat.le_refl _) _).alloc (by rw [World.size_alloc];omega) _)
 have h1:X.heap[b1]?=some (.cells #[.int .i64 x.f0,.string x.f1,.slice B2 x.f2.length d2,.int .i64 x.f3] 102 (0,0)):=by
  rw [← hX,← hb1,← hb0]
  have h:=heap_alloc_new (w.alloc (.cells #[.int .i64 x.f0,.string x.f1,.slice A2 x.f2.length c2,.int .i64 x.f3] 102)) (.cells #[.int .i64 x.f0,.string x.f1,.slice B2 x.f2.length d2,.int .i64 x.f3] 102)
  rw [World.size_alloc] at h
  exact h
 have h0:X.heap[b0]?=some (.cells #[.int .i64 x.f0,.string x.f1,.slice A2 x.f2.length c2,.int .i64 x.f3] 102 (0,0)):=by
  rw [← hX,← hb0]
  exact (((Below.refl _ _).alloc (Nat.le_refl _) _).block _ (by simp only [World.size_alloc];omega)).trans (heap_alloc_new w _)
 have HCE:=Lib.hid (fun W (hW:Below X.heap.size X W)=>(⟨(hW.block b0 (blk_lt h0)).trans h0,(hW.block b1 (blk_lt h1)).trans h1⟩:W.heap[b0]?=some (.cells #[.int .i64 x.f0,.string x.f1,.slice A2 x.f2.length c2,.int .i64 x.f3] 102 (0,0))∧W.heap[b1]?=some (.cells #[.int .i64 x.f0,.string x.f1,.slice B2 x.f2.length d2,.int .i64 x.f3] 102 (0,0))))
 have G2:=Lib.hid (Kd.C_below g2 HBX.out)
 have K2:=Lib.hid (Kd.C_below k2 HBX.out)
 have HB0:=Lib.hid (Below.refl X.heap.size X)
 have y0_0:=blk_cell (v:=.int .i64 x.f0) (HCE.out X HB0.out).1 0 rfl
 have z0_0:=blk_cell (v:=.int .i64 x.f0) (HCE.out X HB0.out).2 0 rfl
 have y0_1:=blk_cell (v:=.string x.f1) (HCE.out X HB0.out).1 1 rfl
 have z0_1:=blk_cell (v:=.string x.f1) (HCE.out X HB0.out).2 1 rfl
 have y0_2:=blk_cell (v:=.slice A2 x.f2.length c2) (HCE.out X HB0.out).1 2 rfl
 have z0_2:=blk_cell (v:=.slice B2 x.f2.length d2) (HCE.out X HB0.out).2 2 rfl
 have y0_3:=blk_cell (v:=.int .i64 x.f3) (HCE.out X HB0.out).1 3 rfl
 have z0_3:=blk_cell (v:=.int .i64 x.f3) (HCE.out X HB0.out).2 3 rfl
 have HX:=Lib.hid hX
 have HN0:=Lib.hid hb0
 have HN1:=Lib.hid hb1
 have HM0:=Lib.hid (show x.f2.length≤4294967296 from hs)
 clear g2 k2 hs hX hb0 hb1 h0 h1
 go_enter Tryz.func143,Tryz.ntmps143
 go_upto_region 1 with (fail)
 try rw [HX.out]
 try rw [HN0.out]
 try rw [HN1.out]
 go_wp2_with (first | (go_at_call 20;((with_reducible refine (same_strings x.f2 A2 B2 c2 d2 _ (Kd.C_below G2.out HB0.out) (Kd.C_below K2.out HB0.out) HM0.out).mono ?_);rintro e w1 ⟨rfl,hb1⟩;have HB1:=Lib.hid (HB0.out.trans (hb1.mono HB0.out.size));have y1_0:=blk_cell (v:=.int .i64 x.f0) (HCE.out _ HB1.out).1 0 rfl;have z1_0:=blk_cell (v:=.int .i64 x.f0) (HCE.out _ HB1.out).2 0 rfl;have y1_1:=blk_cell (v:=.string x.f1) (HCE.out _ HB1.out).1 1 rfl;have z1_1:=blk_cell (v:=.string x.f1) (HCE.out _ HB1.out).2 1 rfl;have y1_2:=blk_cell (v:=.slice A2 x.f2.length c2) (HCE.out _ HB1.out).1 2 rfl;have z1_2:=blk_cell (v:=.slice B2 x.f2.length d2) (HCE.out _ HB1.out).2 2 rfl;have y1_3:=blk_cell (v:=.int .i64 x.f3) (HCE.out _ HB1.out).1 3 rfl;have z1_3:=blk_cell (v:=.int .i64 x.f3) (HCE.out _ HB1.out).2 3 rfl;clear hb1)))
 go_ret
 exact ⟨by simp,HBX.out.trans (HB1.out.mono HBX.out.size)⟩
theorem same_total (x:S104) (A2 B2:Option Addr) (c2 d2:Nat) (w:World) (g2:Kd.C Kd.string w A2 x.f2.length x.f2) (k2:Kd.C Kd.string w B2 x.f2.length x.f2) (hs:smTotal x) :
  Calls Tryz.prog 45 #[.agg #[.string x.f0,.string x.f1,.slice A2 x.f2.length c2,.bool x.f3,.int .i64 x.f4],.agg #[.string x.f0,.string x.f1,.slice B2 x.f2.length d2,.bool x.f3,.int .i64 x.f4]] w fun e w'=>e=.returned (.bool true)∧Below w.heap.size w w':=by
 have HSM:=Lib.hid hs
 obtain ⟨X,hX⟩:∃ X,(w.alloc (.cells #[.string x.f0,.string x.f1,.slice A2 x.f2.length c2,.bool x.f3,.int .i64 x.f4] 104)).alloc (.cells #[.string x.f0,.string x.f1,.slice B2 x.f2.length d2,.bool x.f3,.int .i64 x.f4] 104)=X:=⟨_,rfl⟩
 obtain ⟨b0,hb0⟩:∃ b,w.heap.size=b:=⟨_,rfl⟩
 obtain ⟨b1,hb1⟩:∃ b,b0+1=b:=⟨_,rfl⟩
 have HBX:=Lib.hid (show Below w.heap.size w X by rw [← hX];exact ((Below.refl _ w).alloc (Nat.le_refl _) _).alloc (by rw [World.size_alloc];omega) _)
 have h1:X.heap[b1]?=some (.cells #[.string x.f0,.string x.f1,.slice B2 x.f2.length d2,.bool x.f3,.int .i64 x.f4] 104 (0,0)):=by
  rw [← hX,← hb1,← hb0]
  have h:=heap_alloc_new (w.alloc (.cells #[.string x.f0,.string x.f1,.slice A2 x.f2.length c2,.bool x.f3,.int .i64 x.f4] 104)) (.cells #[.string x.f0,.string x.f1,.slice B2 x.f2.length d2,.bool x.f3,.int .i64 x.f4] 104)
  rw [World.size_alloc] at h
  exact h
 have h0:X.heap[b0]?=some (.cells #[.string x.f0,.string x.f1,.slice A2 x.f2.length c2,.bool x.f3,.int .i64 x.f4] 104 (0,0)):=by
  rw [← hX,← hb0]
  exact (((Below.refl _ _).alloc (Nat.le_refl _) _).block _ (by simp only [World.size_alloc];omega)).trans (heap_alloc_new w _)
 have HCE:=Lib.hid (fun W (hW:Below X.heap.size X W)=>(⟨(hW.block b0 (blk_lt h0)).trans h0,(hW.block b1 (blk_lt h1)).trans h1⟩:W.heap[b0]?=some (.cells #[.string x.f0,.string x.f1,.slice A2 x.f2.length c2,.bool x.f3,.int .i64 x.f4] 104 (0,0))∧W.heap[b1]?=some (.cells #[.string x.f0,.string x.f1,.slice B2 x.f2.length d2,.bool x.f3,.int .i64 x.f4] 104 (0,0))))
 have G2:=Lib.hid (Kd.C_below g2 HBX.out)
 have K2:=Lib.hid (Kd.C_below k2 HBX.out)
 have HB0:=Lib.hid (Below.refl X.heap.size X)
 have y0_0:=blk_cell (v:=.string x.f0) (HCE.out X HB0.out).1 0 rfl
 have z0_0:=blk_cell (v:=.string x.f0) (HCE.out X HB0.out).2 0 rfl
 have y0_1:=blk_cell (v:=.string x.f1) (HCE.out X HB0.out).1 1 rfl
 have z0_1:=blk_cell (v:=.string x.f1) (HCE.out X HB0.out).2 1 rfl
 have y0_2:=blk_cell (v:=.slice A2 x.f2.length c2) (HCE.out X HB0.out).1 2 rfl
 have z0_2:=blk_cell (v:=.slice B2 x.f2.length d2) (HCE.out X HB0.out).2 2 rfl
 have y0_3:=blk_cell (v:=.bool x.f3) (HCE.out X HB0.out).1 3 rfl
 have z0_3:=blk_cell (v:=.bool x.f3) (HCE.out X HB0.out).2 3 rfl
 have y0_4:=blk_cell (v:=.int .i64 x.f4) (HCE.out X HB0.out).1 4 rfl
 have z0_4:=blk_cell (v:=.int .i64 x.f4) (HCE.out X HB0.out).2 4 rfl
 have HX:=Lib.hid hX
 have HN0:=Lib.hid hb0
 have HN1:=Lib.hid hb1
 have HM0:=Lib.hid (show x.f2.length≤4294967296 from hs)
 clear g2 k2 hs hX hb0 hb1 h0 h1
 go_enter Tryz.func45,Tryz.ntmps45
 go_upto_region 1 with (fail)
 try rw [HX.out]
 try rw [HN0.out]
 try rw [HN1.out]
 go_wp2_with (first | (go_at_call 20;((with_reducible refine (same_strings x.f2 A2 B2 c2 d2 _ (Kd.C_below G2.out HB0.out) (Kd.C_below K2.out HB0.out) HM0.out).mono ?_);rintro e w1 ⟨rfl,hb1⟩;have HB1:=Lib.hid (HB0.out.trans (hb1.mono HB0.out.size));have y1_0:=blk_cell (v:=.string x.f0) (HCE.out _ HB1.out).1 0 rfl;have z1_0:=blk_cell (v:=.string x.f0) (HCE.out _ HB1.out).2 0 rfl;have y1_1:=blk_cell (v:=.string x.f1) (HCE.out _ HB1.out).1 1 rfl;have z1_1:=blk_cell (v:=.string x.f1) (HCE.out _ HB1.out).2 1 rfl;have y1_2:=blk_cell (v:=.slice A2 x.f2.length c2) (HCE.out _ HB1.out).1 2 rfl;have z1_2:=blk_cell (v:=.slice B2 x.f2.length d2) (HCE.out _ HB1.out).2 2 rfl;have y1_3:=blk_cell (v:=.bool x.f3) (HCE.out _ HB1.out).1 3 rfl;have z1_3:=blk_cell (v:=.bool x.f3) (HCE.out _ HB1.out).2 3 rfl;have y1_4:=blk_cell (v:=.int .i64 x.f4) (HCE.out _ HB1.out).1 4 rfl;have z1_4:=blk_cell (v:=.int .i64 x.f4) (HCE.out _ HB1.out).2 4 rfl;clear hb1)))
 go_ret
 exact ⟨by simp,HBX.out.trans (HB1.out.mono HBX.out.size)⟩
theorem same_preds (l:List S85) (A0 A1:Option Addr) (c0 c1:Nat) (w:World) (h0:Kd.C k85 w A0 l.length l) (h1:Kd.C k85 w A1 l.length l) (hs:sm l∧∀ x∈l,smPred x) :
  Calls Tryz.prog 22 #[.slice A0 l.length c0,.slice A1 l.length c1] w fun e w'=>e=.returned (.bool true)∧Below w.heap.size w w':=by
 have hl:l.length≤4294967296:=hs.1
 obtain ⟨n,hn⟩:∃ n,l.length=n:=⟨_,rfl⟩
 have HC0:=Lib.hid h0
 have HC1:=Lib.hid h1
 have HN:=Lib.hid hn
 have HSM:=Lib.hid hs.2
 rw [hn] at hl ⊢
 have HL:=Lib.hid hl
 clear h0 h1 hl hn hs
 go_enter Tryz.func22,Tryz.ntmps22
 go_wp2_with fail
 go_loopw [5] (fun u5 wr=>∃ i:Nat,u5=.int .i64 i∧i≤n∧Below w.heap.size w wr) (fun u5 _=>n-(RowKit.intOf u5).toNat)
 case atStart=>exact ⟨0,rfl,Nat.zero_le _,Below.refl _ _⟩
 case round =>
  obtain ⟨i,rfl,hi,hb⟩:=hrel
  have HB:=Lib.hid hb
  by_cases hlt:i<n
  ·have hil:(i:Int)<(l.length:Int):=by have:=HN.out;omega
   obtain ⟨a0,A2,c2,A3,c3,ea0,t0,t1,t2,t3,l2,g2,l3,g3⟩:=at_T85 HC0.out (i:Int) (Int.natCast_nonneg i) hil
   obtain ⟨a1,B2,d2,B3,d3,ea1,u0,u1,u2,u3,m2,k2,m3,k3⟩:=at_T85 HC1.out (i:Int) (Int.natCast_nonneg i) hil
   have hx:rd_T85 l (i:Int)∈l:=by
    show l.getD i _∈l
    rw [List.getD_eq_getElem?_getD,List.getElem?_eq_getElem (by have:=HN.out;omega)]
    exact List.getElem_mem _
   have hsx:=HSM.out _ hx
   subst ea0
   subst ea1
   simp only [Int.toNat_natCast] at t0 t1 t2 t3 u0 u1 u2 u3
   generalize rd_T85 l (i:Int)=x at *
   have HSX:=Lib.hid hsx
   have G2:=Lib.hid (Kd.C_below g2 hb)
   have K2:=Lib.hid (Kd.C_below k2 hb)
   have G3:=Lib.hid (Kd.C_below g3 hb)
   have K3:=Lib.hid (Kd.C_below k3 hb)
   have HS:=Lib.hid (⟨keep_cell t0 hb,keep_cell t1 hb,keep_cell t2 hb,keep_cell t3 hb,keep_cell u0 hb,keep_cell u1 hb,keep_cell u2 hb,keep_cell u3 hb⟩:wr.cell? (a0.add (i*4))=some (.string x.f0)∧wr.cell? ⟨(a0.add (i*4)).block,(a0.add (i*4)).off+1,none⟩=some (.int .i64 x.f1)∧wr.cell? ⟨(a0.add (i*4)).block,(a0.add (i*4)).off+2,none⟩=some (.slice A2 x.f2.length c2)∧wr.cell? ⟨(a0.add (i*4)).block,(a0.add (i*4)).off+3,none⟩=some (.slice A3 x.f3.length c3)∧wr.cell? (a1.add (i*4))=some (.string x.f0)∧wr.cell? ⟨(a1.add (i*4)).block,(a1.add (i*4)).off+1,none⟩=some (.int .i64 x.f1)∧wr.cell? ⟨(a1.add (i*4)).block,(a1.add (i*4)).off+2,none⟩=some (.slice B2 x.f2.length d2)∧wr.cell? ⟨(a1.add (i*4)).block,(a1.add (i*4)).off+3,none⟩=some (.slice B3 x.f3.length d3))
   clear t0 t1 t2 t3 u0 u1 u2 u3 hb hil hx hsx g2 k2 l2 m2 g3 k3 l3 m3
   have HLT:=Lib.hid hlt
   have x0:(0:Int)≤(i:Int):=by omega
   have x1:(i:Int)<(n:Int):=by omega
   have x5:(i:Int)≤4294967296:=by have:=HL.out;omega
   have x2:decide ((i:Int)<(n:Int))=true:=decide_eq_true x1
   have x3:decide (i<n)=true:=decide_eq_true hlt
   clear hlt hi
   go_upto_region 6 with (fail)
   go_region_held_law (fun w9=>w9.cell? (a0.add (i*4))=some (.string x.f0)∧w9.cell? ⟨(a0.add (i*4)).block,(a0.add (i*4)).off+1,none⟩=some (.int .i64 x.f1)∧w9.cell? ⟨(a0.add (i*4)).block,(a0.add (i*4)).off+2,none⟩=some (.slice A2 x.f2.length c2)∧w9.cell? ⟨(a0.add (i*4)).block,(a0.add (i*4)).off+3,none⟩=some (.slice A3 x.f3.length c3)∧w9.cell? (a1.add (i*4))=some (.string x.f0)∧w9.cell? ⟨(a1.add (i*4)).block,(a1.add (i*4)).off+1,none⟩=some (.int .i64 x.f1)∧w9.cell? ⟨(a1.add (i*4)).block,(a1.add (i*4)).off+2,none⟩=some (.slice B2 x.f2.length d2)∧w9.cell? ⟨(a1.add (i*4)).block,(a1.add (i*4)).off+3,none⟩=some (.slice B3 x.f3.length d3)) (first | exact HS.out | (obtain ⟨r0,r1,r2,r3,r4,r5,r6,r7⟩:=HS.out;exact ⟨keep_cell r0 HB6.out,keep_cell r1 HB6.out,keep_cell r2 HB6.out,keep_cell r3 HB6.out,keep_cell r4 HB6.out,keep_cell r5 HB6.out,keep_cell r6 HB6.out,keep_cell r7 HB6.out⟩)) ((go_at_call 43;((with_reducible refine (same_pred x A2 B2 c2 d2 A3 B3 c3 d3 _ (Kd.C_below G2.out (Below.refl _ wr).drew) (Kd.C_below K2.out (Below.refl _ wr).drew) (Kd.C_below G3.out (Below.refl _ wr).drew) (Kd.C_below K3.out (Below.refl _ wr).drew) HSX.out).mono ?_);rintro e w6 ⟨rfl,hb6⟩;have HB6:=Lib.hid (show Below wr.heap.size wr w6 from (Below.refl _ wr).drew.trans hb6);clear hb6)))
   go_wp2_with fail
   go_roundw
   case rel=>exact ⟨i+1,rfl,HLT.out,HB.out.trans (HB6.out.mono HB.out.size)⟩
   case measure=>(have h9:=HLT.out;simp [RowKit.intOf];omega)
  ·have x2:decide ((i:Int)<(n:Int))=false:=decide_eq_false (by omega)
   have x3:decide (i<n)=false:=decide_eq_false hlt
   clear hb hlt hi
   go_wp2_with fail
   go_ret
   exact ⟨rfl,HB.out⟩
theorem same_terms (l:List S102) (A0 A1:Option Addr) (c0 c1:Nat) (w:World) (h0:Kd.C k102 w A0 l.length l) (h1:Kd.C k102 w A1 l.length l) (hs:sm l∧∀ x∈l,smTerm x) :
  Calls Tryz.prog 129 #[.slice A0 l.length c0,.slice A1 l.length c1] w fun e w'=>e=.returned (.bool true)∧Below w.heap.size w w':=by
 have hl:l.length≤4294967296:=hs.1
 obtain ⟨n,hn⟩:∃ n,l.length=n:=⟨_,rfl⟩
 have HC0:=Lib.hid h0
 have HC1:=Lib.hid h1
 have HN:=Lib.hid hn
 have HSM:=Lib.hid hs.2
 rw [hn] at hl ⊢
 have HL:=Lib.hid hl
 clear h0 h1 hl hn hs
 go_enter Tryz.func129,Tryz.ntmps129
 go_wp2_with fail
 go_loopw [5] (fun u5 wr=>∃ i:Nat,u5=.int .i64 i∧i≤n∧Below w.heap.size w wr) (fun u5 _=>n-(RowKit.intOf u5).toNat)
 case atStart=>exact ⟨0,rfl,Nat.zero_le _,Below.refl _ _⟩
 case round =>
  obtain ⟨i,rfl,hi,hb⟩:=hrel
  have HB:=Lib.hid hb
  by_cases hlt:i<n
  ·have hil:(i:Int)<(l.length:Int):=by have:=HN.out;omega
   obtain ⟨a0,A2,c2,ea0,t0,t1,t2,t3,l2,g2⟩:=at_T102 HC0.out (i:Int) (Int.natCast_nonneg i) hil
   obtain ⟨a1,B2,d2,ea1,u0,u1,u2,u3,m2,k2⟩:=at_T102 HC1.out (i:Int) (Int.natCast_nonneg i) hil
   have hx:rd_T102 l (i:Int)∈l:=by
    show l.getD i _∈l
    rw [List.getD_eq_getElem?_getD,List.getElem?_eq_getElem (by have:=HN.out;omega)]
    exact List.getElem_mem _
   have hsx:=HSM.out _ hx
   subst ea0
   subst ea1
   simp only [Int.toNat_natCast] at t0 t1 t2 t3 u0 u1 u2 u3
   generalize rd_T102 l (i:Int)=x at *
   have HSX:=Lib.hid hsx
   have G2:=Lib.hid (Kd.C_below g2 hb)
   have K2:=Lib.hid (Kd.C_below k2 hb)
   have HS:=Lib.hid (⟨keep_cell t0 hb,keep_cell t1 hb,keep_cell t2 hb,keep_cell t3 hb,keep_cell u0 hb,keep_cell u1 hb,keep_cell u2 hb,keep_cell u3 hb⟩:wr.cell? (a0.add (i*4))=some (.int .i64 x.f0)∧wr.cell? ⟨(a0.add (i*4)).block,(a0.add (i*4)).off+1,none⟩=some (.string x.f1)∧wr.cell? ⟨(a0.add (i*4)).block,(a0.add (i*4)).off+2,none⟩=some (.slice A2 x.f2.length c2)∧wr.cell? ⟨(a0.add (i*4)).block,(a0.add (i*4)).off+3,none⟩=some (.int .i64 x.f3)∧wr.cell? (a1.add (i*4))=some (.int .i64 x.f0)∧wr.cell? ⟨(a1.add (i*4)).block,(a1.add (i*4)).off+1,none⟩=some (.string x.f1)∧wr.cell? ⟨(a1.add (i*4)).block,(a1.add (i*4)).off+2,none⟩=some (.slice B2 x.f2.length d2)∧wr.cell? ⟨(a1.add (i*4)).block,(a1.add (i*4)).off+3,none⟩=some (.int .i64 x.f3))
   clear t0 t1 t2 t3 u0 u1 u2 u3 hb hil hx hsx g2 k2 l2 m2
   have HLT:=Lib.hid hlt
   have x0:(0:Int)≤(i:Int):=by omega
   have x1:(i:Int)<(n:Int):=by omega
   have x5:(i:Int)≤4294967296:=by have:=HL.out;omega
   have x2:decide ((i:Int)<(n:Int))=true:=decide_eq_true x1
   have x3:decide (i<n)=true:=decide_eq_true hlt
   clear hlt hi
   go_upto_region 6 with (fail)
   go_region_held_law (fun w9=>w9.cell? (a0.add (i*4))=some (.int .i64 x.f0)∧w9.cell? ⟨(a0.add (i*4)).block,(a0.add (i*4)).off+1,none⟩=some (.string x.f1)∧w9.cell? ⟨(a0.add (i*4)).block,(a0.add (i*4)).off+2,none⟩=some (.slice A2 x.f2.length c2)∧w9.cell? ⟨(a0.add (i*4)).block,(a0.add (i*4)).off+3,none⟩=some (.int .i64 x.f3)∧w9.cell? (a1.add (i*4))=some (.int .i64 x.f0)∧w9.cell? ⟨(a1.add (i*4)).block,(a1.add (i*4)).off+1,none⟩=some (.string x.f1)∧w9.cell? ⟨(a1.add (i*4)).block,(a1.add (i*4)).off+2,none⟩=some (.slice B2 x.f2.length d2)∧w9.cell? ⟨(a1.add (i*4)).block,(a1.add (i*4)).off+3,none⟩=some (.int .i64 x.f3)) (first | exact HS.out | (obtain ⟨r0,r1,r2,r3,r4,r5,r6,r7⟩:=HS.out;exact ⟨keep_cell r0 HB6.out,keep_cell r1 HB6.out,keep_cell r2 HB6.out,keep_cell r3 HB6.out,keep_cell r4 HB6.out,keep_cell r5 HB6.out,keep_cell r6 HB6.out,keep_cell r7 HB6.out⟩)) ((go_at_call 143;((with_reducible refine (same_term x A2 B2 c2 d2 _ (Kd.C_below G2.out (Below.refl _ wr).drew) (Kd.C_below K2.out (Below.refl _ wr).drew) HSX.out).mono ?_);rintro e w6 ⟨rfl,hb6⟩;have HB6:=Lib.hid (show Below wr.heap.size wr w6 from (Below.refl _ wr).drew.trans hb6);clear hb6)))
   go_wp2_with fail
   go_roundw
   case rel=>exact ⟨i+1,rfl,HLT.out,HB.out.trans (HB6.out.mono HB.out.size)⟩
   case measure=>(have h9:=HLT.out;simp [RowKit.intOf];omega)
  ·have x2:decide ((i:Int)<(n:Int))=false:=decide_eq_false (by omega)
   have x3:decide (i<n)=false:=decide_eq_false hlt
   clear hb hlt hi
   go_wp2_with fail
   go_ret
   exact ⟨rfl,HB.out⟩
theorem same_totals (l:List S104) (A0 A1:Option Addr) (c0 c1:Nat) (w:World) (h0:Kd.C k104 w A0 l.length l) (h1:Kd.C k104 w A1 l.length l) (hs:sm l∧∀ x∈l,smTotal x) :
  Calls Tryz.prog 27 #[.slice A0 l.length c0,.slice A1 l.length c1] w fun e w'=>e=.returned (.bool true)∧Below w.heap.size w w':=by
 have hl:l.length≤4294967296:=hs.1
 obtain ⟨n,hn⟩:∃ n,l.length=n:=⟨_,rfl⟩
 have HC0:=Lib.hid h0
 have HC1:=Lib.hid h1
 have HN:=Lib.hid hn
 have HSM:=Lib.hid hs.2
 rw [hn] at hl ⊢
 have HL:=Lib.hid hl
 clear h0 h1 hl hn hs
 go_enter Tryz.func27,Tryz.ntmps27
 go_wp2_with fail
 go_loopw [5] (fun u5 wr=>∃ i:Nat,u5=.int .i64 i∧i≤n∧Below w.heap.size w wr) (fun u5 _=>n-(RowKit.intOf u5).toNat)
 case atStart=>exact ⟨0,rfl,Nat.zero_le _,Below.refl _ _⟩
 case round =>
  obtain ⟨i,rfl,hi,hb⟩:=hrel
  have HB:=Lib.hid hb
  by_cases hlt:i<n
  ·have hil:(i:Int)<(l.length:Int):=by have:=HN.out;omega
   obtain ⟨a0,A2,c2,ea0,t0,t1,t2,t3,t4,l2,g2⟩:=at_T104 HC0.out (i:Int) (Int.natCast_nonneg i) hil
   obtain ⟨a1,B2,d2,ea1,u0,u1,u2,u3,u4,m2,k2⟩:=at_T104 HC1.out (i:Int) (Int.natCast_nonneg i) hil
   have hx:rd_T104 l (i:Int)∈l:=by
    show l.getD i _∈l
    rw [List.getD_eq_getElem?_getD,List.getElem?_eq_getElem (by have:=HN.out;omega)]
    exact List.getElem_mem _
   have hsx:=HSM.out _ hx
   subst ea0
   subst ea1
   simp only [Int.toNat_natCast] at t0 t1 t2 t3 t4 u0 u1 u2 u3 u4
   generalize rd_T104 l (i:Int)=x at *
   have HSX:=Lib.hid hsx
   have G2:=Lib.hid (Kd.C_below g2 hb)
   have K2:=Lib.hid (Kd.C_below k2 hb)
   have HS:=Lib.hid (⟨keep_cell t0 hb,keep_cell t1 hb,keep_cell t2 hb,keep_cell t3 hb,keep_cell t4 hb,keep_cell u0 hb,keep_cell u1 hb,keep_cell u2 hb,keep_cell u3 hb,keep_cell u4 hb⟩:wr.cell? (a0.add (i*5))=some (.string x.f0)∧wr.cell? ⟨(a0.add (i*5)).block,(a0.add (i*5)).off+1,none⟩=some (.string x.f1)∧wr.cell? ⟨(a0.add (i*5)).block,(a0.add (i*5)).off+2,none⟩=some (.slice A2 x.f2.length c2)∧wr.cell? ⟨(a0.add (i*5)).block,(a0.add (i*5)).off+3,none⟩=some (.bool x.f3)∧wr.cell? ⟨(a0.add (i*5)).block,(a0.add (i*5)).off+4,none⟩=some (.int .i64 x.f4)∧wr.cell? (a1.add (i*5))=some (.string x.f0)∧wr.cell? ⟨(a1.add (i*5)).block,(a1.add (i*5)).off+1,none⟩=some (.string x.f1)∧wr.cell? ⟨(a1.add (i*5)).block,(a1.add (i*5)).off+2,none⟩=some (.slice B2 x.f2.length d2)∧wr.cell? ⟨(a1.add (i*5)).block,(a1.add (i*5)).off+3,none⟩=some (.bool x.f3)∧wr.cell? ⟨(a1.add (i*5)).block,(a1.add (i*5)).off+4,none⟩=some (.int .i64 x.f4))
   clear t0 t1 t2 t3 t4 u0 u1 u2 u3 u4 hb hil hx hsx g2 k2 l2 m2
   have HLT:=Lib.hid hlt
   have x0:(0:Int)≤(i:Int):=by omega
   have x1:(i:Int)<(n:Int):=by omega
   have x5:(i:Int)≤4294967296:=by have:=HL.out;omega
   have x2:decide ((i:Int)<(n:Int))=true:=decide_eq_true x1
   have x3:decide (i<n)=true:=decide_eq_true hlt
   clear hlt hi
   go_upto_region 6 with (fail)
   go_region_held_law (fun w9=>w9.cell? (a0.add (i*5))=some (.string x.f0)∧w9.cell? ⟨(a0.add (i*5)).block,(a0.add (i*5)).off+1,none⟩=some (.string x.f1)∧w9.cell? ⟨(a0.add (i*5)).block,(a0.add (i*5)).off+2,none⟩=some (.slice A2 x.f2.length c2)∧w9.cell? ⟨(a0.add (i*5)).block,(a0.add (i*5)).off+3,none⟩=some (.bool x.f3)∧w9.cell? ⟨(a0.add (i*5)).block,(a0.add (i*5)).off+4,none⟩=some (.int .i64 x.f4)∧w9.cell? (a1.add (i*5))=some (.string x.f0)∧w9.cell? ⟨(a1.add (i*5)).block,(a1.add (i*5)).off+1,none⟩=some (.string x.f1)∧w9.cell? ⟨(a1.add (i*5)).block,(a1.add (i*5)).off+2,none⟩=some (.slice B2 x.f2.length d2)∧w9.cell? ⟨(a1.add (i*5)).block,(a1.add (i*5)).off+3,none⟩=some (.bool x.f3)∧w9.cell? ⟨(a1.add (i*5)).block,(a1.add (i*5)).off+4,none⟩=some (.int .i64 x.f4)) (first | exact HS.out | (obtain ⟨r0,r1,r2,r3,r4,r5,r6,r7,r8,r9⟩:=HS.out;exact ⟨keep_cell r0 HB6.out,keep_cell r1 HB6.out,keep_cell r2 HB6.out,keep_cell r3 HB6.out,keep_cell r4 HB6.out,keep_cell r5 HB6.out,keep_cell r6 HB6.out,keep_cell r7 HB6.out,keep_cell r8 HB6.out,keep_cell r9 HB6.out⟩)) ((go_at_call 45;((with_reducible refine (same_total x A2 B2 c2 d2 _ (Kd.C_below G2.out (Below.refl _ wr).drew) (Kd.C_below K2.out (Below.refl _ wr).drew) HSX.out).mono ?_);rintro e w6 ⟨rfl,hb6⟩;have HB6:=Lib.hid (show Below wr.heap.size wr w6 from (Below.refl _ wr).drew.trans hb6);clear hb6)))
   go_wp2_with fail
   go_roundw
   case rel=>exact ⟨i+1,rfl,HLT.out,HB.out.trans (HB6.out.mono HB.out.size)⟩
   case measure=>(have h9:=HLT.out;simp [RowKit.intOf];omega)
  ·have x2:decide ((i:Int)<(n:Int))=false:=decide_eq_false (by omega)
   have x3:decide (i<n)=false:=decide_eq_false hlt
   clear hb hlt hi
   go_wp2_with fail
   go_ret
   exact ⟨rfl,HB.out⟩
end Go.Proofs.YtcakgennlliejaaGreatDoor
