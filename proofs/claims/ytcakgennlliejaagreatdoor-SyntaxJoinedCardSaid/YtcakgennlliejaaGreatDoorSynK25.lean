import Derived.Test.YtcakgennlliejaaGreatDoorSynK24
set_option maxHeartbeats 8000000
set_option maxRecDepth 100000
namespace Go.Proofs.YtcakgennlliejaaGreatDoor
open Go.Shelf Go.RowKit Go.Lib
open Go.Proofs.YtcakgennlliejaaGreatDoorW.PrintWords
open Go.Proofs.YtcakgennlliejaaGreatDoor.PSyntaxJoined
open Sx
set_option linter.unusedVariables false
set_option linter.unusedSimpArgs false
theorem copy_money (l:List Int) (A0:Option Addr) (c0:Nat) (w:World) (h0:Kd.C (Kd.int .i64) w A0 l.length l) (hl:sm l) :
  Calls Tryz.prog 72 #[.slice A0 l.length c0] w fun e w'=>∃ v,e=.returned v∧Kd.R (Kd.int .i64) 86 w' w.heap.size (fun k=>w.heap.size≤k) v l∧Below w.heap.size w w':=by
 have HC0:=Lib.hid h0
 obtain ⟨n,hn⟩:∃ n,l.length=n:=⟨_,rfl⟩
 have HN:=Lib.hid hn
 have HL:=Lib.hid (show n≤4294967296 by rw [← hn];exact hl)
 rw [hn]
 clear h0 hl hn
 go_enter Tryz.func72,Tryz.ntmps72
 go_wp2_with fail
 go_loopw [3,4] (fun u3 u4 wr=>∃ (i:Nat) (A:Option Addr) (c:Nat),u4=.int .i64 i∧u3=.slice A i c∧i≤n∧Kd.R (Kd.int .i64) 86 wr w.heap.size (fun k=>w.heap.size≤k) (.slice A i c) (l.take i)∧Below w.heap.size w wr) (fun _ u4 _=>n-(RowKit.intOf u4).toNat)
 case atStart=>exact ⟨0,none,0,rfl,rfl,Nat.zero_le _,Kd.R_nil _ _ _ _ _,Below.refl _ _⟩
 case round =>
  obtain ⟨i,A,c,rfl,rfl,hi,hr,hb⟩:=hrel
  have HB:=Lib.hid hb
  have HR:=Lib.hid hr
  by_cases hlt:i<n
  ·obtain ⟨a0,ea0,t0⟩:=Kd.at_int HC0.out (i:Int) (Int.natCast_nonneg i) (by have:=HN.out;omega)
   subst ea0
   simp only [Int.toNat_natCast] at t0
   have hx:rd l (i:Int)=l[i]'(by have:=HN.out;omega):=by
    show l.getD i _=_
    rw [List.getD_eq_getElem?_getD,List.getElem?_eq_getElem (by have:=HN.out;omega)]
    rfl
   have htk:l.take (i+1)=l.take i++[rd l (i:Int)]:=by rw [hx];exact List.take_succ_eq_append_getElem _
   generalize rd l (i:Int)=x at *
   have y0:=keep_cell t0 hb
   have HTK:=Lib.hid htk
   have HLT:=Lib.hid hlt
   have HLN:=Lib.hid (show ((l.take i).length+1)*8≤140737488355328 by have h1:=HL.out;rw [List.length_take];omega)
   have HTL:=Lib.hid (show (l.take i++[x]).length=i+1 by rw [← htk,List.length_take];have:=HN.out;omega)
   have x0:(0:Int)≤(i:Int):=by omega
   have x1:(i:Int)<(n:Int):=by omega
   have x5:(i:Int)≤4294967296:=by have:=HL.out;omega
   have x2:decide ((i:Int)<(n:Int))=true:=decide_eq_true x1
   have x3:decide (i<n)=true:=decide_eq_true hlt
   clear hlt hi hr hb htk t0 hx
   go_wp2_with (first | (at_builtin;refine Kd.R_append (Kd.int .i64) (w0:=w) w.heap.size rfl (.tmp 11) (.tmp 16) 83 86 (.int .i64 0) 8 rfl Tryz.underlying83 info_m rfl (by decide) (by decide) (.slice A i c) (l.take i) x [.int .i64 x] (fun k=>w.heap.size≤k) (fun _=>False) rfl rfl (by rfl) (fun _ hk=>hk.elim) (fun k hk=>Nat.le_trans HB.out.size hk) HR.out HB.out HB.out.size HLN.out ?_;intro v3 w3 hs3 hb3 hg3 hat3;obtain ⟨A9,c9,rfl⟩:=Kd.R_slice hs3;rw [HTL.out] at hs3 ⊢;rw [← HTK.out] at hs3;have HR3:=Lib.hid hs3;have HB3:=Lib.hid hb3;clear hs3 hb3 hg3 hat3))
   go_roundw
   case rel=>exact ⟨i+1,A9,c9,rfl,rfl,HLT.out,HR3.out,HB3.out⟩
   case measure=>(show n-(i+1:Int).toNat<n-(i:Int).toNat;have:=HLT.out;omega)
  ·have HTK:=Lib.hid (show l.take i=l by rw [List.take_of_length_le];have:=HN.out;omega)
   have x2:decide ((i:Int)<(n:Int))=false:=decide_eq_false (by omega)
   have x3:decide (i<n)=false:=decide_eq_false hlt
   clear hb hlt hi hr
   go_wp2_with fail
   go_ret
   refine ⟨_,rfl,?_,HB.out⟩
   have h9:=HR.out
   rw [HTK.out] at h9
   exact h9
theorem copy_members (l:List S54) (A0:Option Addr) (c0:Nat) (w:World) (h0:Kd.C k54 w A0 l.length l) (hl:sm l) :
  Calls Tryz.prog 30 #[.slice A0 l.length c0] w fun e w'=>∃ v,e=.returned v∧Kd.R k54 54 w' w.heap.size (fun k=>w.heap.size≤k) v l∧Below w.heap.size w w':=by
 have HC0:=Lib.hid h0
 obtain ⟨n,hn⟩:∃ n,l.length=n:=⟨_,rfl⟩
 have HN:=Lib.hid hn
 have HL:=Lib.hid (show n≤4294967296 by rw [← hn];exact hl)
 rw [hn]
 clear h0 hl hn
 go_enter Tryz.func30,Tryz.ntmps30
 go_wp2_with fail
 go_loopw [3,4] (fun u3 u4 wr=>∃ (i:Nat) (A:Option Addr) (c:Nat),u4=.int .i64 i∧u3=.slice A i c∧i≤n∧Kd.R k54 54 wr w.heap.size (fun k=>w.heap.size≤k) (.slice A i c) (l.take i)∧Below w.heap.size w wr) (fun _ u4 _=>n-(RowKit.intOf u4).toNat)
 case atStart=>exact ⟨0,none,0,rfl,rfl,Nat.zero_le _,Kd.R_nil _ _ _ _ _,Below.refl _ _⟩
 case round =>
  obtain ⟨i,A,c,rfl,rfl,hi,hr,hb⟩:=hrel
  have HB:=Lib.hid hb
  have HR:=Lib.hid hr
  by_cases hlt:i<n
  ·obtain ⟨a0,ea0,t0,t1⟩:=at_T54 HC0.out (i:Int) (Int.natCast_nonneg i) (by have:=HN.out;omega)
   subst ea0
   simp only [Int.toNat_natCast] at t0 t1
   have hx:rd_T54 l (i:Int)=l[i]'(by have:=HN.out;omega):=by
    show l.getD i _=_
    rw [List.getD_eq_getElem?_getD,List.getElem?_eq_getElem (by have:=HN.out;omega)]
    rfl
   have htk:l.take (i+1)=l.take i++[rd_T54 l (i:Int)]:=by rw [hx];exact List.take_succ_eq_append_getElem _
   generalize rd_T54 l (i:Int)=x at *
   have y0:=keep_cell t0 hb
   have y1:=keep_cell t1 hb
   have HTK:=Lib.hid htk
   have HLT:=Lib.hid hlt
   have HLN:=Lib.hid (show ((l.take i).length+1)*32≤140737488355328 by have h1:=HL.out;rw [List.length_take];omega)
   have HTL:=Lib.hid (show (l.take i++[x]).length=i+1 by rw [← htk,List.length_take];have:=HN.out;omega)
   have x0:(0:Int)≤(i:Int):=by omega
   have x1:(i:Int)<(n:Int):=by omega
   have x5:(i:Int)≤4294967296:=by have:=HL.out;omega
   have x2:decide ((i:Int)<(n:Int))=true:=decide_eq_true x1
   have x3:decide (i<n)=true:=decide_eq_true hlt
   clear hlt hi hr hb htk t0 t1 hx
   go_wp2_with (first | (at_builtin;refine Kd.R_append k54 (w0:=w) w.heap.size rfl (.tmp 11) (.tmp 16) 24 54 (.agg #[.string ⟨#[]⟩,.string ⟨#[]⟩]) 32 rfl Tryz.underlying24 info_mb rfl (by decide) (by decide) (.slice A i c) (l.take i) x [.string x.f0,.string x.f1] (fun k=>w.heap.size≤k) (fun _=>False) rfl rfl (k54_mkM _ _ _ x) (fun _ hk=>hk.elim) (fun k hk=>Nat.le_trans HB.out.size hk) HR.out HB.out HB.out.size HLN.out ?_;intro v3 w3 hs3 hb3 hg3 hat3;obtain ⟨A9,c9,rfl⟩:=Kd.R_slice hs3;rw [HTL.out] at hs3 ⊢;rw [← HTK.out] at hs3;have HR3:=Lib.hid hs3;have HB3:=Lib.hid hb3;clear hs3 hb3 hg3 hat3))
   go_roundw
   case rel=>exact ⟨i+1,A9,c9,rfl,rfl,HLT.out,HR3.out,HB3.out⟩
   case measure=>(show n-(i+1:Int).toNat<n-(i:Int).toNat;have:=HLT.out;omega)
  ·have HTK:=Lib.hid (show l.take i=l by rw [List.take_of_length_le];have:=HN.out;omega)
   have x2:decide ((i:Int)<(n:Int))=false:=decide_eq_false (by omega)
   have x3:decide (i<n)=false:=decide_eq_false hlt
   clear hb hlt hi hr
   go_wp2_with fail
   go_ret
   refine ⟨_,rfl,?_,HB.out⟩
   have h9:=HR.out
   rw [HTK.out] at h9
   exact h9
theorem copy_sources (l:List S117) (A0:Option Addr) (c0:Nat) (w:World) (h0:Kd.C k117 w A0 l.length l) (hl:sm l) :
  Calls Tryz.prog 33 #[.slice A0 l.length c0] w fun e w'=>∃ v,e=.returned v∧Kd.R k117 117 w' w.heap.size (fun k=>w.heap.size≤k) v l∧Below w.heap.size w w':=by
 have HC0:=Lib.hid h0
 obtain ⟨n,hn⟩:∃ n,l.length=n:=⟨_,rfl⟩
 have HN:=Lib.hid hn
 have HL:=Lib.hid (show n≤4294967296 by rw [← hn];exact hl)
 rw [hn]
 clear h0 hl hn
 go_enter Tryz.func33,Tryz.ntmps33
 go_wp2_with fail
 go_loopw [3,4] (fun u3 u4 wr=>∃ (i:Nat) (A:Option Addr) (c:Nat),u4=.int .i64 i∧u3=.slice A i c∧i≤n∧Kd.R k117 117 wr w.heap.size (fun k=>w.heap.size≤k) (.slice A i c) (l.take i)∧Below w.heap.size w wr) (fun _ u4 _=>n-(RowKit.intOf u4).toNat)
 case atStart=>exact ⟨0,none,0,rfl,rfl,Nat.zero_le _,Kd.R_nil _ _ _ _ _,Below.refl _ _⟩
 case round =>
  obtain ⟨i,A,c,rfl,rfl,hi,hr,hb⟩:=hrel
  have HB:=Lib.hid hb
  have HR:=Lib.hid hr
  by_cases hlt:i<n
  ·obtain ⟨a0,ea0,t0,t1⟩:=at_T117 HC0.out (i:Int) (Int.natCast_nonneg i) (by have:=HN.out;omega)
   subst ea0
   simp only [Int.toNat_natCast] at t0 t1
   have hx:rd_T117 l (i:Int)=l[i]'(by have:=HN.out;omega):=by
    show l.getD i _=_
    rw [List.getD_eq_getElem?_getD,List.getElem?_eq_getElem (by have:=HN.out;omega)]
    rfl
   have htk:l.take (i+1)=l.take i++[rd_T117 l (i:Int)]:=by rw [hx];exact List.take_succ_eq_append_getElem _
   generalize rd_T117 l (i:Int)=x at *
   have y0:=keep_cell t0 hb
   have y1:=keep_cell t1 hb
   have HTK:=Lib.hid htk
   have HLT:=Lib.hid hlt
   have HLN:=Lib.hid (show ((l.take i).length+1)*24≤140737488355328 by have h1:=HL.out;rw [List.length_take];omega)
   have HTL:=Lib.hid (show (l.take i++[x]).length=i+1 by rw [← htk,List.length_take];have:=HN.out;omega)
   have x0:(0:Int)≤(i:Int):=by omega
   have x1:(i:Int)<(n:Int):=by omega
   have x5:(i:Int)≤4294967296:=by have:=HL.out;omega
   have x2:decide ((i:Int)<(n:Int))=true:=decide_eq_true x1
   have x3:decide (i<n)=true:=decide_eq_true hlt
   clear hlt hi hr hb htk t0 t1 hx
   go_wp2_with (first | (at_builtin;refine Kd.R_append k117 (w0:=w) w.heap.size rfl (.tmp 11) (.tmp 16) 27 117 (.agg #[.string ⟨#[]⟩,.int .i64 0]) 24 rfl Tryz.underlying27 info_sc rfl (by decide) (by decide) (.slice A i c) (l.take i) x [.string x.f0,.int .i64 x.f1] (fun k=>w.heap.size≤k) (fun _=>False) rfl rfl (k117_mkM _ _ _ x) (fun _ hk=>hk.elim) (fun k hk=>Nat.le_trans HB.out.size hk) HR.out HB.out HB.out.size HLN.out ?_;intro v3 w3 hs3 hb3 hg3 hat3;obtain ⟨A9,c9,rfl⟩:=Kd.R_slice hs3;rw [HTL.out] at hs3 ⊢;rw [← HTK.out] at hs3;have HR3:=Lib.hid hs3;have HB3:=Lib.hid hb3;clear hs3 hb3 hg3 hat3))
   go_roundw
   case rel=>exact ⟨i+1,A9,c9,rfl,rfl,HLT.out,HR3.out,HB3.out⟩
   case measure=>(show n-(i+1:Int).toNat<n-(i:Int).toNat;have:=HLT.out;omega)
  ·have HTK:=Lib.hid (show l.take i=l by rw [List.take_of_length_le];have:=HN.out;omega)
   have x2:decide ((i:Int)<(n:Int))=false:=decide_eq_false (by omega)
   have x3:decide (i<n)=false:=decide_eq_false hlt
   clear hb hlt hi hr
   go_wp2_with fail
   go_ret
   refine ⟨_,rfl,?_,HB.out⟩
   have h9:=HR.out
   rw [HTK.out] at h9
   exact h9
theorem copy_excepts (l:List S120) (A0:Option Addr) (c0:Nat) (w:World) (h0:Kd.C k120 w A0 l.length l) (hl:sm l) :
  Calls Tryz.prog 35 #[.slice A0 l.length c0] w fun e w'=>∃ v,e=.returned v∧Kd.R k120 120 w' w.heap.size (fun k=>w.heap.size≤k) v l∧Below w.heap.size w w':=by
 have HC0:=Lib.hid h0
 obtain ⟨n,hn⟩:∃ n,l.length=n:=⟨_,rfl⟩
 have HN:=Lib.hid hn
 have HL:=Lib.hid (show n≤4294967296 by rw [← hn];exact hl)
 rw [hn]
 clear h0 hl hn
 go_enter Tryz.func35,Tryz.ntmps35
 go_wp2_with fail
 go_loopw [3,4] (fun u3 u4 wr=>∃ (i:Nat) (A:Option Addr) (c:Nat),u4=.int .i64 i∧u3=.slice A i c∧i≤n∧Kd.R k120 120 wr w.heap.size (fun k=>w.heap.size≤k) (.slice A i c) (l.take i)∧Below w.heap.size w wr) (fun _ u4 _=>n-(RowKit.intOf u4).toNat)
 case atStart=>exact ⟨0,none,0,rfl,rfl,Nat.zero_le _,Kd.R_nil _ _ _ _ _,Below.refl _ _⟩
 case round =>
  obtain ⟨i,A,c,rfl,rfl,hi,hr,hb⟩:=hrel
  have HB:=Lib.hid hb
  have HR:=Lib.hid hr
  by_cases hlt:i<n
  ·obtain ⟨a0,ea0,t0,t1⟩:=at_T120 HC0.out (i:Int) (Int.natCast_nonneg i) (by have:=HN.out;omega)
   subst ea0
   simp only [Int.toNat_natCast] at t0 t1
   have hx:rd_T120 l (i:Int)=l[i]'(by have:=HN.out;omega):=by
    show l.getD i _=_
    rw [List.getD_eq_getElem?_getD,List.getElem?_eq_getElem (by have:=HN.out;omega)]
    rfl
   have htk:l.take (i+1)=l.take i++[rd_T120 l (i:Int)]:=by rw [hx];exact List.take_succ_eq_append_getElem _
   generalize rd_T120 l (i:Int)=x at *
   have y0:=keep_cell t0 hb
   have y1:=keep_cell t1 hb
   have HTK:=Lib.hid htk
   have HLT:=Lib.hid hlt
   have HLN:=Lib.hid (show ((l.take i).length+1)*32≤140737488355328 by have h1:=HL.out;rw [List.length_take];omega)
   have HTL:=Lib.hid (show (l.take i++[x]).length=i+1 by rw [← htk,List.length_take];have:=HN.out;omega)
   have x0:(0:Int)≤(i:Int):=by omega
   have x1:(i:Int)<(n:Int):=by omega
   have x5:(i:Int)≤4294967296:=by have:=HL.out;omega
   have x2:decide ((i:Int)<(n:Int))=true:=decide_eq_true x1
   have x3:decide (i<n)=true:=decide_eq_true hlt
   clear hlt hi hr hb htk t0 t1 hx
   go_wp2_with (first | (at_builtin;refine Kd.R_append k120 (w0:=w) w.heap.size rfl (.tmp 11) (.tmp 16) 29 120 (.agg #[.string ⟨#[]⟩,.string ⟨#[]⟩]) 32 rfl Tryz.underlying29 info_ex rfl (by decide) (by decide) (.slice A i c) (l.take i) x [.string x.f0,.string x.f1] (fun k=>w.heap.size≤k) (fun _=>False) rfl rfl (k120_mkM _ _ _ x) (fun _ hk=>hk.elim) (fun k hk=>Nat.le_trans HB.out.size hk) HR.out HB.out HB.out.size HLN.out ?_;intro v3 w3 hs3 hb3 hg3 hat3;obtain ⟨A9,c9,rfl⟩:=Kd.R_slice hs3;rw [HTL.out] at hs3 ⊢;rw [← HTK.out] at hs3;have HR3:=Lib.hid hs3;have HB3:=Lib.hid hb3;clear hs3 hb3 hg3 hat3))
   go_roundw
   case rel=>exact ⟨i+1,A9,c9,rfl,rfl,HLT.out,HR3.out,HB3.out⟩
   case measure=>(show n-(i+1:Int).toNat<n-(i:Int).toNat;have:=HLT.out;omega)
  ·have HTK:=Lib.hid (show l.take i=l by rw [List.take_of_length_le];have:=HN.out;omega)
   have x2:decide ((i:Int)<(n:Int))=false:=decide_eq_false (by omega)
   have x3:decide (i<n)=false:=decide_eq_false hlt
   clear hb hlt hi hr
   go_wp2_with fail
   go_ret
   refine ⟨_,rfl,?_,HB.out⟩
   have h9:=HR.out
   rw [HTK.out] at h9
   exact h9
theorem copy_classes (l:List (List ByteArray)) (A0:Option Addr) (c0:Nat) (w:World) (h0:Kd.C (Kd.slice 9 Kd.string) w A0 l.length l) (hl:sm l) (hs:∀ x∈l,Sx.sm x) :
  Calls Tryz.prog 32 #[.slice A0 l.length c0] w fun e w'=>∃ v,e=.returned v∧Kd.R (Kd.slice 9 Kd.string) 23 w' w.heap.size (fun k=>w.heap.size≤k) v l∧Below w.heap.size w w':=by
 have HC0:=Lib.hid h0
 have HSM:=Lib.hid hs
 obtain ⟨n,hn⟩:∃ n,l.length=n:=⟨_,rfl⟩
 have HN:=Lib.hid hn
 have HL:=Lib.hid (show n≤4294967296 by rw [← hn];exact hl)
 rw [hn]
 clear h0 hl hn hs
 go_enter Tryz.func32,Tryz.ntmps32
 go_wp2_with fail
 go_loopw [3,4] (fun u3 u4 wr=>∃ (i:Nat) (A:Option Addr) (c:Nat),u4=.int .i64 i∧u3=.slice A i c∧i≤n∧Kd.R (Kd.slice 9 Kd.string) 23 wr w.heap.size (fun k=>w.heap.size≤k) (.slice A i c) (l.take i)∧Below w.heap.size w wr) (fun _ u4 _=>n-(RowKit.intOf u4).toNat)
 case atStart=>exact ⟨0,none,0,rfl,rfl,Nat.zero_le _,Kd.R_nil _ _ _ _ _,Below.refl _ _⟩
 case round =>
  obtain ⟨i,A,c,rfl,rfl,hi,hr,hb⟩:=hrel
  have HB:=Lib.hid hb
  have HR:=Lib.hid hr
  by_cases hlt:i<n
  ·obtain ⟨a0,B1,d1,ea0,t0,_,s1⟩:=at_L5 HC0.out (i:Int) (Int.natCast_nonneg i) (by have:=HN.out;omega)
   subst ea0
   simp only [Int.toNat_natCast] at t0
   have hx:rd_L5 l (i:Int)=l[i]'(by have:=HN.out;omega):=by
    show l.getD i _=_
    rw [List.getD_eq_getElem?_getD,List.getElem?_eq_getElem (by have:=HN.out;omega)]
    rfl
   have htk:l.take (i+1)=l.take i++[rd_L5 l (i:Int)]:=by rw [hx];exact List.take_succ_eq_append_getElem _
   have HX:=Lib.hid (show (fun x=>Sx.sm x) (rd_L5 l (i:Int)) from HSM.out _ (by rw [hx];exact List.getElem_mem _))
   generalize rd_L5 l (i:Int)=x at *
   have y0:=keep_cell t0 hb
   have HTK:=Lib.hid htk
   have HLT:=Lib.hid hlt
   have HLN:=Lib.hid (show ((l.take i).length+1)*24≤140737488355328 by have h1:=HL.out;rw [List.length_take];omega)
   have HTL:=Lib.hid (show (l.take i++[x]).length=i+1 by rw [← htk,List.length_take];have:=HN.out;omega)
   have HCP:=Lib.hid (copy_strings x B1 d1 wr (Kd.C_below s1 hb) HX.out)
   clear s1
   have x0:(0:Int)≤(i:Int):=by omega
   have x1:(i:Int)<(n:Int):=by omega
   have x5:(i:Int)≤4294967296:=by have:=HL.out;omega
   have x2:decide ((i:Int)<(n:Int))=true:=decide_eq_true x1
   have x3:decide (i<n)=true:=decide_eq_true hlt
   clear hlt hi hr hb htk t0 hx
   go_wp2_with (first | (go_at_call 29;((with_reducible refine HCP.out.mono ?_);rintro e w2 ⟨v2,rfl,hr2,hb2⟩;obtain ⟨A5,c5,rfl⟩:=Kd.R_slice hr2;have HM2:=Lib.hid (show Kd.M (Kd.slice 9 Kd.string) w2 w.heap.size (fun k=>wr.heap.size≤k) x [.slice A5 x.length c5] from ⟨_,rfl,Kd.R_lower hr2 HB.out.size⟩);clear hr2;have HB2:=Lib.hid (show Below w.heap.size w w2 from HB.out.trans (hb2.mono HB.out.size));have HS2:=Lib.hid (Kd.R_below HR.out hb2);have HW2:=Lib.hid hb2.size;clear hb2)) | (at_builtin;refine Kd.R_append (Kd.slice 9 Kd.string) (w0:=w) w.heap.size rfl (.tmp 11) (.tmp 17) 26 23 (.slice none 0 0) 24 rfl Tryz.underlying26 info_sl rfl (by decide) (by decide) (.slice A i c) (l.take i) x [.slice A5 x.length c5] (fun k=>w.heap.size≤k) (fun k=>wr.heap.size≤k) rfl rfl HM2.out (fun k hk=>⟨Nat.le_trans HB.out.size hk,fun e=>by have h1:=Kd.R_lt HR.out k e.symm;omega⟩) (fun k hk=>Nat.le_trans HB2.out.size hk) HS2.out HB2.out HB2.out.size HLN.out ?_;intro v3 w3 hs3 hb3 hg3 hat3;obtain ⟨A9,c9,rfl⟩:=Kd.R_slice hs3;rw [HTL.out] at hs3 ⊢;rw [← HTK.out] at hs3;have HR3:=Lib.hid hs3;have HB3:=Lib.hid hb3;clear hs3 hb3 hg3 hat3))
   go_roundw
   case rel=>exact ⟨i+1,A9,c9,rfl,rfl,HLT.out,HR3.out,HB3.out⟩
   case measure=>(show n-(i+1:Int).toNat<n-(i:Int).toNat;have:=HLT.out;omega)
  ·have HTK:=Lib.hid (show l.take i=l by rw [List.take_of_length_le];have:=HN.out;omega)
   have x2:decide ((i:Int)<(n:Int))=false:=decide_eq_false (by omega)
   have x3:decide (i<n)=false:=decide_eq_false hlt
   clear hb hlt hi hr
   go_wp2_with fail
   go_ret
   refine ⟨_,rfl,?_,HB.out⟩
   have h9:=HR.out
   rw [HTK.out] at h9
   exact h9
structure Sx.Cp (w:World) (b c t:Nat) (cs zs:Array Value) (Y:World):Prop where
 n0:w.heap.size=b
 n1:b+1=c
 hb:Below w.heap.size w Y
 h0:Y.heap[b]?=some (.cells cs t (0,0))
 h1:Y.heap[c]?=some (.cells zs t (0,0))
namespace Sx.Cp
variable {w Y w1:World} {b c t e:Nat} {cs zs us:Array Value} {α:Type} {d:Kd α} {v:Value} {l:List α} {ok:Nat→Prop}
theorem mk0 (w:World) (t:Nat) (cs zs:Array Value):∃ Y b c,(w.alloc (.cells cs t)).alloc (.cells zs t)=Y∧w.heap.size=b∧w.heap.size+1=c∧Cp w b c t cs zs Y:=by
 refine ⟨_,_,_,rfl,rfl,rfl,rfl,rfl,((Below.refl _ w).alloc (Nat.le_refl _) _).alloc (by rw [World.size_alloc];omega) _,(((Below.refl _ _).alloc (Nat.le_refl _) _).block _ (by simp only [World.size_alloc];omega)).trans (heap_alloc_new w _),?_⟩
 have h:=heap_alloc_new (w.alloc (.cells cs t)) (.cells zs t)
 rw [World.size_alloc] at h
 exact h
theorem lt (h:Cp w b c t cs zs Y):c<Y.heap.size:=blk_lt h.h1
theorem call (h:Cp w b c t cs zs Y) (k:Below Y.heap.size Y w1):Cp w b c t cs zs w1 :=
 ⟨h.n0,h.n1,h.hb.trans (k.mono h.hb.size),(k.block b (blk_lt h.h0)).trans h.h0,(k.block c (blk_lt h.h1)).trans h.h1⟩
theorem st0 (h:Cp w b c t cs zs Y) (j:Nat) (v:Value) (e:cs.setIfInBounds j v=us):Cp w b c t us zs (Y.setCell ⟨b,j,none⟩ v):=by
 subst e
 exact ⟨h.n0,h.n1,h.hb.setCell (Nat.le_of_eq h.n0) _,heap_setCell_same h.h0 j _,(Below.heap_setCell Y ⟨b,j,none⟩ v c (by have:=h.n1;intro e;have e2:c=b:=e;omega)).trans h.h1⟩
theorem st1 (h:Cp w b c t cs zs Y) (j:Nat) (v:Value) (e:zs.setIfInBounds j v=us):Cp w b c t cs us (Y.setCell ⟨c,j,none⟩ v):=by
 subst e
 exact ⟨h.n0,h.n1,h.hb.setCell (by have:=h.n0;have:=h.n1;show _≤c;omega) _,(Below.heap_setCell Y ⟨c,j,none⟩ v b (by have:=h.n1;intro e;have e2:b=c:=e;omega)).trans h.h0,heap_setCell_same h.h1 j _⟩
theorem r0 (h:Cp w b c t cs zs Y) (r:Kd.R d e w1 (c+1) ok v l) (hok:∀ k,ok k→c<k) (j:Nat) (u:Value):Kd.R d e (w1.setCell ⟨b,j,none⟩ u) (c+1) ok v l :=
 Kd.R_far r (fun k hk e=>by have:=hok k hk;have:=h.n1;have e2:k=b:=e;omega) _
theorem r1 (r:Kd.R d e w1 (c+1) ok v l) (hok:∀ k,ok k→c<k) (j:Nat) (u:Value):Kd.R d e (w1.setCell ⟨c,j,none⟩ u) (c+1) ok v l :=
 Kd.R_far r (fun k hk e=>by have:=hok k hk;have e2:k=c:=e;omega) _
theorem new (h:Cp w b c t cs zs Y) (r:Kd.R d e w1 Y.heap.size (fun k=>Y.heap.size≤k) v l):Kd.R d e w1 (c+1) (fun k=>c<k) v l :=
 Kd.R_lower (Kd.R_mono r (fun k hk=>Nat.lt_of_lt_of_le h.lt hk)) h.lt
theorem fin (h:Cp w b c t cs zs Y) (r:Kd.R d e w1 (c+1) (fun k=>c<k) v l):Kd.R d e w1 w.heap.size (fun k=>w.heap.size≤k) v l:=by
 have h0:=h.n0
 have h1:=h.n1
 exact Kd.R_lower (Kd.R_mono r (fun k hk=>by omega)) (by omega)
end Sx.Cp
theorem copy_pred (x:S85) (A2:Option Addr) (c2:Nat) (A3:Option Addr) (c3:Nat) (w:World) (g2:Kd.C Kd.string w A2 x.f2.length x.f2) (g3:Kd.C (Kd.int .i64) w A3 x.f3.length x.f3) (hs:smPred x) :
  Calls Tryz.prog 48 #[.agg #[.string x.f0,.int .i64 x.f1,.slice A2 x.f2.length c2,.slice A3 x.f3.length c3]] w fun e w'=>∃ cs,e=.returned (.agg cs.toArray)∧k85.M w' w.heap.size (fun k=>w.heap.size≤k) x cs∧Below w.heap.size w w':=by
 obtain ⟨X,b,c,hX,hb,hc,h0⟩:=Cp.mk0 w 85 #[.string x.f0,.int .i64 x.f1,.slice A2 x.f2.length c2,.slice A3 x.f3.length c3] #[.string ⟨#[]⟩,.int .i64 0,.slice none 0 0,.slice none 0 0]
 have H0:=Lib.hid h0
 have G2:=Lib.hid g2
 have G3:=Lib.hid g3
 have HSM:=Lib.hid hs
 have HN:=Lib.hid hb
 have HM:=Lib.hid hc
 clear g2 g3 hs hb hc h0
 go_enter Tryz.func48,Tryz.ntmps48
 go_upto_region 1 with fail
 try rw [hX]
 try rw [HM.out]
 try rw [HN.out]
 clear hX
 have HC1:=Lib.hid (copy_strings x.f2 A2 c2 X (Kd.C_below G2.out H0.out.hb) (HSM.out.1))
 have y2:=blk_cell (v:=.slice A2 x.f2.length c2) H0.out.h0 2 rfl
 go_upto_region 2 with (first | (go_at_call 29;((with_reducible refine HC1.out.mono ?_);rintro e w1 ⟨v,rfl,r2,hb⟩;obtain ⟨B2,d2,rfl⟩:=Kd.R_slice r2;have K1:=Lib.hid (H0.out.call hb);have R2:=Lib.hid (H0.out.new r2);have z2:=blk_cell (v:=.slice A2 x.f2.length c2) K1.out.h0 2 rfl;have f2:=blk_free K1.out.h0 2;clear r2 hb)))
 have Q2:=Lib.hid (K1.out.r0 R2.out (fun _ h=>h) 2 (.slice B2 x.f2.length d2))
 clear R2
 have L1:=Lib.hid (Cp.st0 (us:=#[.string x.f0,.int .i64 x.f1,.slice B2 x.f2.length d2,.slice A3 x.f3.length c3]) K1.out 2 (.slice B2 x.f2.length d2) rfl)
 obtain ⟨Y1,hY⟩:∃ Y,(w1.setCell ⟨b,2,none⟩ (.slice B2 x.f2.length d2))=Y:=⟨_,rfl⟩
 try rw [hY]
 rw [hY] at L1 Q2
 clear hY K1 y2 z2 f2
 have R2:=Lib.hid Q2.out
 clear Q2
 have HC2:=Lib.hid (copy_money x.f3 A3 c3 Y1 (Kd.C_below G3.out L1.out.hb) (HSM.out.2))
 have y3:=blk_cell (v:=.slice A3 x.f3.length c3) L1.out.h0 3 rfl
 go_upto_region 3 with (first | (go_at_call 72;((with_reducible refine HC2.out.mono ?_);rintro e w2 ⟨v,rfl,r3,hb⟩;obtain ⟨B3,d3,rfl⟩:=Kd.R_slice r3;have K2:=Lib.hid (L1.out.call hb);have R3:=Lib.hid (L1.out.new r3);have R2:=Lib.hid (Kd.R_below R2.out hb);have z3:=blk_cell (v:=.slice A3 x.f3.length c3) K2.out.h0 3 rfl;have f3:=blk_free K2.out.h0 3;clear r3 hb)))
 have Q2:=Lib.hid (K2.out.r0 R2.out (fun _ h=>h) 3 (.slice B3 x.f3.length d3))
 clear R2
 have Q3:=Lib.hid (K2.out.r0 R3.out (fun _ h=>h) 3 (.slice B3 x.f3.length d3))
 clear R3
 have L2:=Lib.hid (Cp.st0 (us:=#[.string x.f0,.int .i64 x.f1,.slice B2 x.f2.length d2,.slice B3 x.f3.length d3]) K2.out 3 (.slice B3 x.f3.length d3) rfl)
 obtain ⟨Y2,hY⟩:∃ Y,(w2.setCell ⟨b,3,none⟩ (.slice B3 x.f3.length d3))=Y:=⟨_,rfl⟩
 try rw [hY]
 rw [hY] at L2 Q2 Q3
 clear hY K2 y3 z3 f3
 have R2:=Lib.hid Q2.out
 clear Q2
 have R3:=Lib.hid Q3.out
 clear Q3
 have y0:=blk_cell (v:=.string x.f0) L2.out.h0 0 rfl
 have u0:=blk_cell (v:=.string ⟨#[]⟩) L2.out.h1 0 rfl
 have f0:=blk_free L2.out.h1 0
 have y1:=blk_cell (v:=.int .i64 x.f1) L2.out.h0 1 rfl
 have u1:=blk_cell (v:=.int .i64 0) L2.out.h1 1 rfl
 have f1:=blk_free L2.out.h1 1
 have y2:=blk_cell (v:=.slice B2 x.f2.length d2) L2.out.h0 2 rfl
 have u2:=blk_cell (v:=.slice none 0 0) L2.out.h1 2 rfl
 have f2:=blk_free L2.out.h1 2
 have y3:=blk_cell (v:=.slice B3 x.f3.length d3) L2.out.h0 3 rfl
 have u3:=blk_cell (v:=.slice none 0 0) L2.out.h1 3 rfl
 have f3:=blk_free L2.out.h1 3
 go_wp2_with fail
 have HE:=Lib.hid (Cp.st1 (us:=#[.string x.f0,.int .i64 x.f1,.slice B2 x.f2.length d2,.slice B3 x.f3.length d3]) (Cp.st1 (us:=#[.string x.f0,.int .i64 x.f1,.slice B2 x.f2.length d2,.slice none 0 0]) (Cp.st1 (us:=#[.string x.f0,.int .i64 x.f1,.slice none 0 0,.slice none 0 0]) (Cp.st1 (us:=#[.string x.f0,.int .i64 0,.slice none 0 0,.slice none 0 0]) L2.out 0 (.string x.f0) rfl) 1 (.int .i64 x.f1) rfl) 2 (.slice B2 x.f2.length d2) rfl) 3 (.slice B3 x.f3.length d3) rfl)
 refine bodyPost_ret (results_cell_row rfl _ _ c 85 #[.string x.f0,.int .i64 x.f1,.slice B2 x.f2.length d2,.slice B3 x.f3.length d3] (0,0) _ rfl HE.out.h1 Tryz.underlying85 rfl rfl) rfl ?_
 refine ⟨[.string x.f0,.int .i64 x.f1,.slice B2 x.f2.length d2,.slice B3 x.f3.length d3],rfl,k85_mkM _ _ _ x ?_ ?_,HE.out.hb⟩
 ·exact HE.out.fin (Cp.r1 (Cp.r1 (Cp.r1 (Cp.r1 R2.out (fun _ h=>h) 0 _) (fun _ h=>h) 1 _) (fun _ h=>h) 2 _) (fun _ h=>h) 3 _)
 ·exact HE.out.fin (Cp.r1 (Cp.r1 (Cp.r1 (Cp.r1 R3.out (fun _ h=>h) 0 _) (fun _ h=>h) 1 _) (fun _ h=>h) 2 _) (fun _ h=>h) 3 _)
theorem copy_lit (x:S91) (A2:Option Addr) (c2:Nat) (w:World) (g2:Kd.C Kd.string w A2 x.f2.length x.f2) (hs:smLit x) :
  Calls Tryz.prog 74 #[.agg #[.bool x.f0,.string x.f1,.slice A2 x.f2.length c2,.bool x.f3,.int .i64 x.f4]] w fun e w'=>∃ cs,e=.returned (.agg cs.toArray)∧k91.M w' w.heap.size (fun k=>w.heap.size≤k) x cs∧Below w.heap.size w w':=by
 obtain ⟨X,b,c,hX,hb,hc,h0⟩:=Cp.mk0 w 91 #[.bool x.f0,.string x.f1,.slice A2 x.f2.length c2,.bool x.f3,.int .i64 x.f4] #[.bool false,.string ⟨#[]⟩,.slice none 0 0,.bool false,.int .i64 0]
 have H0:=Lib.hid h0
 have G2:=Lib.hid g2
 have HSM:=Lib.hid hs
 have HN:=Lib.hid hb
 have HM:=Lib.hid hc
 clear g2 hs hb hc h0
 go_enter Tryz.func74,Tryz.ntmps74
 go_upto_region 1 with fail
 try rw [hX]
 try rw [HM.out]
 try rw [HN.out]
 clear hX
 have HC1:=Lib.hid (copy_strings x.f2 A2 c2 X (Kd.C_below G2.out H0.out.hb) (HSM.out))
 have y2:=blk_cell (v:=.slice A2 x.f2.length c2) H0.out.h0 2 rfl
 go_upto_region 2 with (first | (go_at_call 29;((with_reducible refine HC1.out.mono ?_);rintro e w1 ⟨v,rfl,r2,hb⟩;obtain ⟨B2,d2,rfl⟩:=Kd.R_slice r2;have K1:=Lib.hid (H0.out.call hb);have R2:=Lib.hid (H0.out.new r2);have z2:=blk_cell (v:=.slice A2 x.f2.length c2) K1.out.h0 2 rfl;have f2:=blk_free K1.out.h0 2;clear r2 hb)))
 have Q2:=Lib.hid (K1.out.r0 R2.out (fun _ h=>h) 2 (.slice B2 x.f2.length d2))
 clear R2
 have L1:=Lib.hid (Cp.st0 (us:=#[.bool x.f0,.string x.f1,.slice B2 x.f2.length d2,.bool x.f3,.int .i64 x.f4]) K1.out 2 (.slice B2 x.f2.length d2) rfl)
 obtain ⟨Y1,hY⟩:∃ Y,(w1.setCell ⟨b,2,none⟩ (.slice B2 x.f2.length d2))=Y:=⟨_,rfl⟩
 try rw [hY]
 rw [hY] at L1 Q2
 clear hY K1 y2 z2 f2
 have R2:=Lib.hid Q2.out
 clear Q2
 have y0:=blk_cell (v:=.bool x.f0) L1.out.h0 0 rfl
 have u0:=blk_cell (v:=.bool false) L1.out.h1 0 rfl
 have f0:=blk_free L1.out.h1 0
 have y1:=blk_cell (v:=.string x.f1) L1.out.h0 1 rfl
 have u1:=blk_cell (v:=.string ⟨#[]⟩) L1.out.h1 1 rfl
 have f1:=blk_free L1.out.h1 1
 have y2:=blk_cell (v:=.slice B2 x.f2.length d2) L1.out.h0 2 rfl
 have u2:=blk_cell (v:=.slice none 0 0) L1.out.h1 2 rfl
 have f2:=blk_free L1.out.h1 2
 have y3:=blk_cell (v:=.bool x.f3) L1.out.h0 3 rfl
 have u3:=blk_cell (v:=.bool false) L1.out.h1 3 rfl
 have f3:=blk_free L1.out.h1 3
 have y4:=blk_cell (v:=.int .i64 x.f4) L1.out.h0 4 rfl
 have u4:=blk_cell (v:=.int .i64 0) L1.out.h1 4 rfl
 have f4:=blk_free L1.out.h1 4
 go_wp2_with fail
 have HE:=Lib.hid (Cp.st1 (us:=#[.bool x.f0,.string x.f1,.slice B2 x.f2.length d2,.bool x.f3,.int .i64 x.f4]) (Cp.st1 (us:=#[.bool x.f0,.string x.f1,.slice B2 x.f2.length d2,.bool x.f3,.int .i64 0]) (Cp.st1 (us:=#[.bool x.f0,.string x.f1,.slice B2 x.f2.length d2,.bool false,.int .i64 0]) (Cp.st1 (us:=#[.bool x.f0,.string x.f1,.slice none 0 0,.bool false,.int .i64 0]) (Cp.st1 (us:=#[.bool x.f0,.string ⟨#[]⟩,.slice none 0 0,.bool false,.int .i64 0]) L1.out 0 (.bool x.f0) rfl) 1 (.string x.f1) rfl) 2 (.slice B2 x.f2.length d2) rfl) 3 (.bool x.f3) rfl) 4 (.int .i64 x.f4) rfl)
 refine bodyPost_ret (results_cell_row rfl _ _ c 91 #[.bool x.f0,.string x.f1,.slice B2 x.f2.length d2,.bool x.f3,.int .i64 x.f4] (0,0) _ rfl HE.out.h1 Tryz.underlying91 rfl rfl) rfl ?_
 refine ⟨[.bool x.f0,.string x.f1,.slice B2 x.f2.length d2,.bool x.f3,.int .i64 x.f4],rfl,k91_mkM _ _ _ x ?_,HE.out.hb⟩
 ·exact HE.out.fin (Cp.r1 (Cp.r1 (Cp.r1 (Cp.r1 (Cp.r1 R2.out (fun _ h=>h) 0 _) (fun _ h=>h) 1 _) (fun _ h=>h) 2 _) (fun _ h=>h) 3 _) (fun _ h=>h) 4 _)
theorem copy_term (x:S102) (A2:Option Addr) (c2:Nat) (w:World) (g2:Kd.C Kd.string w A2 x.f2.length x.f2) (hs:smTerm x) :
  Calls Tryz.prog 144 #[.agg #[.int .i64 x.f0,.string x.f1,.slice A2 x.f2.length c2,.int .i64 x.f3]] w fun e w'=>∃ cs,e=.returned (.agg cs.toArray)∧k102.M w' w.heap.size (fun k=>w.heap.size≤k) x cs∧Below w.heap.size w w':=by
 obtain ⟨X,b,c,hX,hb,hc,h0⟩:=Cp.mk0 w 102 #[.int .i64 x.f0,.string x.f1,.slice A2 x.f2.length c2,.int .i64 x.f3] #[.int .i64 0,.string ⟨#[]⟩,.slice none 0 0,.int .i64 0]
 have H0:=Lib.hid h0
 have G2:=Lib.hid g2
 have HSM:=Lib.hid hs
 have HN:=Lib.hid hb
 have HM:=Lib.hid hc
 clear g2 hs hb hc h0
 go_enter Tryz.func144,Tryz.ntmps144
 go_upto_region 1 with fail
 try rw [hX]
 try rw [HM.out]
 try rw [HN.out]
 clear hX
 have HC1:=Lib.hid (copy_strings x.f2 A2 c2 X (Kd.C_below G2.out H0.out.hb) (HSM.out))
 have y2:=blk_cell (v:=.slice A2 x.f2.length c2) H0.out.h0 2 rfl
 go_upto_region 2 with (first | (go_at_call 29;((with_reducible refine HC1.out.mono ?_);rintro e w1 ⟨v,rfl,r2,hb⟩;obtain ⟨B2,d2,rfl⟩:=Kd.R_slice r2;have K1:=Lib.hid (H0.out.call hb);have R2:=Lib.hid (H0.out.new r2);have z2:=blk_cell (v:=.slice A2 x.f2.length c2) K1.out.h0 2 rfl;have f2:=blk_free K1.out.h0 2;clear r2 hb)))
 have Q2:=Lib.hid (K1.out.r0 R2.out (fun _ h=>h) 2 (.slice B2 x.f2.length d2))
 clear R2
 have L1:=Lib.hid (Cp.st0 (us:=#[.int .i64 x.f0,.string x.f1,.slice B2 x.f2.length d2,.int .i64 x.f3]) K1.out 2 (.slice B2 x.f2.length d2) rfl)
 obtain ⟨Y1,hY⟩:∃ Y,(w1.setCell ⟨b,2,none⟩ (.slice B2 x.f2.length d2))=Y:=⟨_,rfl⟩
 try rw [hY]
 rw [hY] at L1 Q2
 clear hY K1 y2 z2 f2
 have R2:=Lib.hid Q2.out
 clear Q2
 have y0:=blk_cell (v:=.int .i64 x.f0) L1.out.h0 0 rfl
 have u0:=blk_cell (v:=.int .i64 0) L1.out.h1 0 rfl
 have f0:=blk_free L1.out.h1 0
 have y1:=blk_cell (v:=.string x.f1) L1.out.h0 1 rfl
 have u1:=blk_cell (v:=.string ⟨#[]⟩) L1.out.h1 1 rfl
 have f1:=blk_free L1.out.h1 1
 have y2:=blk_cell (v:=.slice B2 x.f2.length d2) L1.out.h0 2 rfl
 have u2:=blk_cell (v:=.slice none 0 0) L1.out.h1 2 rfl
 have f2:=blk_free L1.out.h1 2
 have y3:=blk_cell (v:=.int .i64 x.f3) L1.out.h0 3 rfl
 have u3:=blk_cell (v:=.int .i64 0) L1.out.h1 3 rfl
 have f3:=blk_free L1.out.h1 3
 go_wp2_with fail
 have HE:=Lib.hid (Cp.st1 (us:=#[.int .i64 x.f0,.string x.f1,.slice B2 x.f2.length d2,.int .i64 x.f3]) (Cp.st1 (us:=#[.int .i64 x.f0,.string x.f1,.slice B2 x.f2.length d2,.int .i64 0]) (Cp.st1 (us:=#[.int .i64 x.f0,.string x.f1,.slice none 0 0,.int .i64 0]) (Cp.st1 (us:=#[.int .i64 x.f0,.string ⟨#[]⟩,.slice none 0 0,.int .i64 0]) L1.out 0 (.int .i64 x.f0) rfl) 1 (.string x.f1) rfl) 2 (.slice B2 x.f2.length d2) rfl) 3 (.int .i64 x.f3) rfl)
 refine bodyPost_ret (results_cell_row rfl _ _ c 102 #[.int .i64 x.f0,.string x.f1,.slice B2 x.f2.length d2,.int .i64 x.f3] (0,0) _ rfl HE.out.h1 Tryz.underlying102 rfl rfl) rfl ?_
 refine ⟨[.int .i64 x.f0,.string x.f1,.slice B2 x.f2.length d2,.int .i64 x.f3],rfl,k102_mkM _ _ _ x ?_,HE.out.hb⟩
 ·exact HE.out.fin (Cp.r1 (Cp.r1 (Cp.r1 (Cp.r1 R2.out (fun _ h=>h) 0 _) (fun _ h=>h) 1 _) (fun _ h=>h) 2 _) (fun _ h=>h) 3 _)
theorem copy_total (x:S104) (A2:Option Addr) (c2:Nat) (w:World) (g2:Kd.C Kd.string w A2 x.f2.length x.f2) (hs:smTotal x) :
  Calls Tryz.prog 50 #[.agg #[.string x.f0,.string x.f1,.slice A2 x.f2.length c2,.bool x.f3,.int .i64 x.f4]] w fun e w'=>∃ cs,e=.returned (.agg cs.toArray)∧k104.M w' w.heap.size (fun k=>w.heap.size≤k) x cs∧Below w.heap.size w w':=by
 obtain ⟨X,b,c,hX,hb,hc,h0⟩:=Cp.mk0 w 104 #[.string x.f0,.string x.f1,.slice A2 x.f2.length c2,.bool x.f3,.int .i64 x.f4] #[.string ⟨#[]⟩,.string ⟨#[]⟩,.slice none 0 0,.bool false,.int .i64 0]
 have H0:=Lib.hid h0
 have G2:=Lib.hid g2
 have HSM:=Lib.hid hs
 have HN:=Lib.hid hb
 have HM:=Lib.hid hc
 clear g2 hs hb hc h0
 go_enter Tryz.func50,Tryz.ntmps50
 go_upto_region 1 with fail
 try rw [hX]
 try rw [HM.out]
 try rw [HN.out]
 clear hX
 have HC1:=Lib.hid (copy_strings x.f2 A2 c2 X (Kd.C_below G2.out H0.out.hb) (HSM.out))
 have y2:=blk_cell (v:=.slice A2 x.f2.length c2) H0.out.h0 2 rfl
 go_upto_region 2 with (first | (go_at_call 29;((with_reducible refine HC1.out.mono ?_);rintro e w1 ⟨v,rfl,r2,hb⟩;obtain ⟨B2,d2,rfl⟩:=Kd.R_slice r2;have K1:=Lib.hid (H0.out.call hb);have R2:=Lib.hid (H0.out.new r2);have z2:=blk_cell (v:=.slice A2 x.f2.length c2) K1.out.h0 2 rfl;have f2:=blk_free K1.out.h0 2;clear r2 hb)))
 have Q2:=Lib.hid (K1.out.r0 R2.out (fun _ h=>h) 2 (.slice B2 x.f2.length d2))
 clear R2
 have L1:=Lib.hid (Cp.st0 (us:=#[.string x.f0,.string x.f1,.slice B2 x.f2.length d2,.bool x.f3,.int .i64 x.f4]) K1.out 2 (.slice B2 x.f2.length d2) rfl)
 obtain ⟨Y1,hY⟩:∃ Y,(w1.setCell ⟨b,2,none⟩ (.slice B2 x.f2.length d2))=Y:=⟨_,rfl⟩
 try rw [hY]
 rw [hY] at L1 Q2
 clear hY K1 y2 z2 f2
 have R2:=Lib.hid Q2.out
 clear Q2
 have y0:=blk_cell (v:=.string x.f0) L1.out.h0 0 rfl
 have u0:=blk_cell (v:=.string ⟨#[]⟩) L1.out.h1 0 rfl
 have f0:=blk_free L1.out.h1 0
 have y1:=blk_cell (v:=.string x.f1) L1.out.h0 1 rfl
 have u1:=blk_cell (v:=.string ⟨#[]⟩) L1.out.h1 1 rfl
 have f1:=blk_free L1.out.h1 1
 have y2:=blk_cell (v:=.slice B2 x.f2.length d2) L1.out.h0 2 rfl
 have u2:=blk_cell (v:=.slice none 0 0) L1.out.h1 2 rfl
 have f2:=blk_free L1.out.h1 2
 have y3:=blk_cell (v:=.bool x.f3) L1.out.h0 3 rfl
 have u3:=blk_cell (v:=.bool false) L1.out.h1 3 rfl
 have f3:=blk_free L1.out.h1 3
 have y4:=blk_cell (v:=.int .i64 x.f4) L1.out.h0 4 rfl
 have u4:=blk_cell (v:=.int .i64 0) L1.out.h1 4 rfl
 have f4:=blk_free L1.out.h1 4
 go_wp2_with fail
 have HE:=Lib.hid (Cp.st1 (us:=#[.string x.f0,.string x.f1,.slice B2 x.f2.length d2,.bool x.f3,.int .i64 x.f4]) (Cp.st1 (us:=#[.string x.f0,.string x.f1,.slice B2 x.f2.length d2,.bool x.f3,.int .i64 0]) (Cp.st1 (us:=#[.string x.f0,.string x.f1,.slice B2 x.f2.length d2,.bool false,.int .i64 0]) (Cp.st1 (us:=#[.string x.f0,.string x.f1,.slice none 0 0,.bool false,.int .i64 0]) (Cp.st1 (us:=#[.string x.f0,.string ⟨#[]⟩,.slice none 0 0,.bool false,.int .i64 0]) L1.out 0 (.string x.f0) rfl) 1 (.string x.f1) rfl) 2 (.slice B2 x.f2.length d2) rfl) 3 (.bool x.f3) rfl) 4 (.int .i64 x.f4) rfl)
 refine bodyPost_ret (results_cell_row rfl _ _ c 104 #[.string x.f0,.string x.f1,.slice B2 x.f2.length d2,.bool x.f3,.int .i64 x.f4] (0,0) _ rfl HE.out.h1 Tryz.underlying104 rfl rfl) rfl ?_
 refine ⟨[.string x.f0,.string x.f1,.slice B2 x.f2.length d2,.bool x.f3,.int .i64 x.f4],rfl,k104_mkM _ _ _ x ?_,HE.out.hb⟩
 ·exact HE.out.fin (Cp.r1 (Cp.r1 (Cp.r1 (Cp.r1 (Cp.r1 R2.out (fun _ h=>h) 0 _) (fun _ h=>h) 1 _) (fun _ h=>h) 2 _) (fun _ h=>h) 3 _) (fun _ h=>h) 4 _)
theorem copy_preds (l:List S85) (A0:Option Addr) (c0:Nat) (w:World) (h0:Kd.C k85 w A0 l.length l) (hl:sm l) (hs:∀ x∈l,smPred x) :
  Calls Tryz.prog 31 #[.slice A0 l.length c0] w fun e w'=>∃ v,e=.returned v∧Kd.R k85 85 w' w.heap.size (fun k=>w.heap.size≤k) v l∧Below w.heap.size w w':=by
 have HC0:=Lib.hid h0
 have HSM:=Lib.hid hs
 obtain ⟨n,hn⟩:∃ n,l.length=n:=⟨_,rfl⟩
 have HN:=Lib.hid hn
 have HL:=Lib.hid (show n≤4294967296 by rw [← hn];exact hl)
 rw [hn]
 clear h0 hl hn hs
 go_enter Tryz.func31,Tryz.ntmps31
 go_wp2_with fail
 go_loopw [3,4] (fun u3 u4 wr=>∃ (i:Nat) (A:Option Addr) (c:Nat),u4=.int .i64 i∧u3=.slice A i c∧i≤n∧Kd.R k85 85 wr w.heap.size (fun k=>w.heap.size≤k) (.slice A i c) (l.take i)∧Below w.heap.size w wr) (fun _ u4 _=>n-(RowKit.intOf u4).toNat)
 case atStart=>exact ⟨0,none,0,rfl,rfl,Nat.zero_le _,Kd.R_nil _ _ _ _ _,Below.refl _ _⟩
 case round =>
  obtain ⟨i,A,c,rfl,rfl,hi,hr,hb⟩:=hrel
  have HB:=Lib.hid hb
  have HR:=Lib.hid hr
  by_cases hlt:i<n
  ·obtain ⟨a0,A2,c2,A3,c3,ea0,t0,t1,t2,t3,l2,g2,l3,g3⟩:=at_T85 HC0.out (i:Int) (Int.natCast_nonneg i) (by have:=HN.out;omega)
   subst ea0
   simp only [Int.toNat_natCast] at t0 t1 t2 t3
   have hx:rd_T85 l (i:Int)=l[i]'(by have:=HN.out;omega):=by
    show l.getD i _=_
    rw [List.getD_eq_getElem?_getD,List.getElem?_eq_getElem (by have:=HN.out;omega)]
    rfl
   have htk:l.take (i+1)=l.take i++[rd_T85 l (i:Int)]:=by rw [hx];exact List.take_succ_eq_append_getElem _
   have HX:=Lib.hid (show (fun x=>smPred x) (rd_T85 l (i:Int)) from HSM.out _ (by rw [hx];exact List.getElem_mem _))
   generalize rd_T85 l (i:Int)=x at *
   have y0:=keep_cell t0 hb
   have y1:=keep_cell t1 hb
   have y2:=keep_cell t2 hb
   have y3:=keep_cell t3 hb
   have HTK:=Lib.hid htk
   have HLT:=Lib.hid hlt
   have HLN:=Lib.hid (show ((l.take i).length+1)*72≤140737488355328 by have h1:=HL.out;rw [List.length_take];omega)
   have HTL:=Lib.hid (show (l.take i++[x]).length=i+1 by rw [← htk,List.length_take];have:=HN.out;omega)
   have HCP:=Lib.hid (copy_pred x A2 c2 A3 c3 wr (Kd.C_below g2 hb) (Kd.C_below g3 hb) HX.out)
   clear l2 g2 l3 g3
   have x0:(0:Int)≤(i:Int):=by omega
   have x1:(i:Int)<(n:Int):=by omega
   have x5:(i:Int)≤4294967296:=by have:=HL.out;omega
   have x2:decide ((i:Int)<(n:Int))=true:=decide_eq_true x1
   have x3:decide (i<n)=true:=decide_eq_true hlt
   clear hlt hi hr hb htk t0 t1 t2 t3 hx
   go_wp2_with (first | (go_at_call 48;((with_reducible refine HCP.out.mono ?_);rintro e w2 ⟨cs,rfl,hm2,hb2⟩;obtain ⟨v2,v3,rfl,_⟩:=k85_openM hm2;have HM2:=Lib.hid (k85.M_lower HB.out.size hm2);clear hm2;have HB2:=Lib.hid (show Below w.heap.size w w2 from HB.out.trans (hb2.mono HB.out.size));have HS2:=Lib.hid (Kd.R_below HR.out hb2);have HW2:=Lib.hid hb2.size;clear hb2)) | (at_builtin;refine Kd.R_append k85 (w0:=w) w.heap.size rfl (.tmp 11) (.tmp 17) 25 85 (.agg #[.string ⟨#[]⟩,.int .i64 0,.slice none 0 0,.slice none 0 0]) 72 rfl Tryz.underlying25 info_pd rfl (by decide) (by decide) (.slice A i c) (l.take i) x [.string x.f0,.int .i64 x.f1,v2,v3] (fun k=>w.heap.size≤k) (fun k=>wr.heap.size≤k) rfl rfl HM2.out (fun k hk=>⟨Nat.le_trans HB.out.size hk,fun e=>by have h1:=Kd.R_lt HR.out k e.symm;omega⟩) (fun k hk=>Nat.le_trans HB2.out.size hk) HS2.out HB2.out HB2.out.size HLN.out ?_;intro v3 w3 hs3 hb3 hg3 hat3;obtain ⟨A9,c9,rfl⟩:=Kd.R_slice hs3;rw [HTL.out] at hs3 ⊢;rw [← HTK.out] at hs3;have HR3:=Lib.hid hs3;have HB3:=Lib.hid hb3;clear hs3 hb3 hg3 hat3))
   go_roundw
   case rel=>exact ⟨i+1,A9,c9,rfl,rfl,HLT.out,HR3.out,HB3.out⟩
   case measure=>(show n-(i+1:Int).toNat<n-(i:Int).toNat;have:=HLT.out;omega)
  ·have HTK:=Lib.hid (show l.take i=l by rw [List.take_of_length_le];have:=HN.out;omega)
   have x2:decide ((i:Int)<(n:Int))=false:=decide_eq_false (by omega)
   have x3:decide (i<n)=false:=decide_eq_false hlt
   clear hb hlt hi hr
   go_wp2_with fail
   go_ret
   refine ⟨_,rfl,?_,HB.out⟩
   have h9:=HR.out
   rw [HTK.out] at h9
   exact h9
theorem copy_terms (l:List S102) (A0:Option Addr) (c0:Nat) (w:World) (h0:Kd.C k102 w A0 l.length l) (hl:sm l) (hs:∀ x∈l,smTerm x) :
  Calls Tryz.prog 130 #[.slice A0 l.length c0] w fun e w'=>∃ v,e=.returned v∧Kd.R k102 102 w' w.heap.size (fun k=>w.heap.size≤k) v l∧Below w.heap.size w w':=by
 have HC0:=Lib.hid h0
 have HSM:=Lib.hid hs
 obtain ⟨n,hn⟩:∃ n,l.length=n:=⟨_,rfl⟩
 have HN:=Lib.hid hn
 have HL:=Lib.hid (show n≤4294967296 by rw [← hn];exact hl)
 rw [hn]
 clear h0 hl hn hs
 go_enter Tryz.func130,Tryz.ntmps130
 go_wp2_with fail
 go_loopw [3,4] (fun u3 u4 wr=>∃ (i:Nat) (A:Option Addr) (c:Nat),u4=.int .i64 i∧u3=.slice A i c∧i≤n∧Kd.R k102 102 wr w.heap.size (fun k=>w.heap.size≤k) (.slice A i c) (l.take i)∧Below w.heap.size w wr) (fun _ u4 _=>n-(RowKit.intOf u4).toNat)
 case atStart=>exact ⟨0,none,0,rfl,rfl,Nat.zero_le _,Kd.R_nil _ _ _ _ _,Below.refl _ _⟩
 case round =>
  obtain ⟨i,A,c,rfl,rfl,hi,hr,hb⟩:=hrel
  have HB:=Lib.hid hb
  have HR:=Lib.hid hr
  by_cases hlt:i<n
  ·obtain ⟨a0,A2,c2,ea0,t0,t1,t2,t3,l2,g2⟩:=at_T102 HC0.out (i:Int) (Int.natCast_nonneg i) (by have:=HN.out;omega)
   subst ea0
   simp only [Int.toNat_natCast] at t0 t1 t2 t3
   have hx:rd_T102 l (i:Int)=l[i]'(by have:=HN.out;omega):=by
    show l.getD i _=_
    rw [List.getD_eq_getElem?_getD,List.getElem?_eq_getElem (by have:=HN.out;omega)]
    rfl
   have htk:l.take (i+1)=l.take i++[rd_T102 l (i:Int)]:=by rw [hx];exact List.take_succ_eq_append_getElem _
   have HX:=Lib.hid (show (fun x=>smTerm x) (rd_T102 l (i:Int)) from HSM.out _ (by rw [hx];exact List.getElem_mem _))
   generalize rd_T102 l (i:Int)=x at *
   have y0:=keep_cell t0 hb
   have y1:=keep_cell t1 hb
   have y2:=keep_cell t2 hb
   have y3:=keep_cell t3 hb
   have HTK:=Lib.hid htk
   have HLT:=Lib.hid hlt
   have HLN:=Lib.hid (show ((l.take i).length+1)*56≤140737488355328 by have h1:=HL.out;rw [List.length_take];omega)
   have HTL:=Lib.hid (show (l.take i++[x]).length=i+1 by rw [← htk,List.length_take];have:=HN.out;omega)
   have HCP:=Lib.hid (copy_term x A2 c2 wr (Kd.C_below g2 hb) HX.out)
   clear l2 g2
   have x0:(0:Int)≤(i:Int):=by omega
   have x1:(i:Int)<(n:Int):=by omega
   have x5:(i:Int)≤4294967296:=by have:=HL.out;omega
   have x2:decide ((i:Int)<(n:Int))=true:=decide_eq_true x1
   have x3:decide (i<n)=true:=decide_eq_true hlt
   clear hlt hi hr hb htk t0 t1 t2 t3 hx
   go_wp2_with (first | (go_at_call 144;((with_reducible refine HCP.out.mono ?_);rintro e w2 ⟨cs,rfl,hm2,hb2⟩;obtain ⟨v2,rfl,_⟩:=k102_openM hm2;have HM2:=Lib.hid (k102.M_lower HB.out.size hm2);clear hm2;have HB2:=Lib.hid (show Below w.heap.size w w2 from HB.out.trans (hb2.mono HB.out.size));have HS2:=Lib.hid (Kd.R_below HR.out hb2);have HW2:=Lib.hid hb2.size;clear hb2)) | (at_builtin;refine Kd.R_append k102 (w0:=w) w.heap.size rfl (.tmp 11) (.tmp 17) 95 102 (.agg #[.int .i64 0,.string ⟨#[]⟩,.slice none 0 0,.int .i64 0]) 56 rfl Tryz.underlying95 info_t rfl (by decide) (by decide) (.slice A i c) (l.take i) x [.int .i64 x.f0,.string x.f1,v2,.int .i64 x.f3] (fun k=>w.heap.size≤k) (fun k=>wr.heap.size≤k) rfl rfl HM2.out (fun k hk=>⟨Nat.le_trans HB.out.size hk,fun e=>by have h1:=Kd.R_lt HR.out k e.symm;omega⟩) (fun k hk=>Nat.le_trans HB2.out.size hk) HS2.out HB2.out HB2.out.size HLN.out ?_;intro v3 w3 hs3 hb3 hg3 hat3;obtain ⟨A9,c9,rfl⟩:=Kd.R_slice hs3;rw [HTL.out] at hs3 ⊢;rw [← HTK.out] at hs3;have HR3:=Lib.hid hs3;have HB3:=Lib.hid hb3;clear hs3 hb3 hg3 hat3))
   go_roundw
   case rel=>exact ⟨i+1,A9,c9,rfl,rfl,HLT.out,HR3.out,HB3.out⟩
   case measure=>(show n-(i+1:Int).toNat<n-(i:Int).toNat;have:=HLT.out;omega)
  ·have HTK:=Lib.hid (show l.take i=l by rw [List.take_of_length_le];have:=HN.out;omega)
   have x2:decide ((i:Int)<(n:Int))=false:=decide_eq_false (by omega)
   have x3:decide (i<n)=false:=decide_eq_false hlt
   clear hb hlt hi hr
   go_wp2_with fail
   go_ret
   refine ⟨_,rfl,?_,HB.out⟩
   have h9:=HR.out
   rw [HTK.out] at h9
   exact h9
theorem copy_totals (l:List S104) (A0:Option Addr) (c0:Nat) (w:World) (h0:Kd.C k104 w A0 l.length l) (hl:sm l) (hs:∀ x∈l,smTotal x) :
  Calls Tryz.prog 36 #[.slice A0 l.length c0] w fun e w'=>∃ v,e=.returned v∧Kd.R k104 104 w' w.heap.size (fun k=>w.heap.size≤k) v l∧Below w.heap.size w w':=by
 have HC0:=Lib.hid h0
 have HSM:=Lib.hid hs
 obtain ⟨n,hn⟩:∃ n,l.length=n:=⟨_,rfl⟩
 have HN:=Lib.hid hn
 have HL:=Lib.hid (show n≤4294967296 by rw [← hn];exact hl)
 rw [hn]
 clear h0 hl hn hs
 go_enter Tryz.func36,Tryz.ntmps36
 go_wp2_with fail
 go_loopw [3,4] (fun u3 u4 wr=>∃ (i:Nat) (A:Option Addr) (c:Nat),u4=.int .i64 i∧u3=.slice A i c∧i≤n∧Kd.R k104 104 wr w.heap.size (fun k=>w.heap.size≤k) (.slice A i c) (l.take i)∧Below w.heap.size w wr) (fun _ u4 _=>n-(RowKit.intOf u4).toNat)
 case atStart=>exact ⟨0,none,0,rfl,rfl,Nat.zero_le _,Kd.R_nil _ _ _ _ _,Below.refl _ _⟩
 case round =>
  obtain ⟨i,A,c,rfl,rfl,hi,hr,hb⟩:=hrel
  have HB:=Lib.hid hb
  have HR:=Lib.hid hr
  by_cases hlt:i<n
  ·obtain ⟨a0,A2,c2,ea0,t0,t1,t2,t3,t4,l2,g2⟩:=at_T104 HC0.out (i:Int) (Int.natCast_nonneg i) (by have:=HN.out;omega)
   subst ea0
   simp only [Int.toNat_natCast] at t0 t1 t2 t3 t4
   have hx:rd_T104 l (i:Int)=l[i]'(by have:=HN.out;omega):=by
    show l.getD i _=_
    rw [List.getD_eq_getElem?_getD,List.getElem?_eq_getElem (by have:=HN.out;omega)]
    rfl
   have htk:l.take (i+1)=l.take i++[rd_T104 l (i:Int)]:=by rw [hx];exact List.take_succ_eq_append_getElem _
   have HX:=Lib.hid (show (fun x=>smTotal x) (rd_T104 l (i:Int)) from HSM.out _ (by rw [hx];exact List.getElem_mem _))
   generalize rd_T104 l (i:Int)=x at *
   have y0:=keep_cell t0 hb
   have y1:=keep_cell t1 hb
   have y2:=keep_cell t2 hb
   have y3:=keep_cell t3 hb
   have y4:=keep_cell t4 hb
   have HTK:=Lib.hid htk
   have HLT:=Lib.hid hlt
   have HLN:=Lib.hid (show ((l.take i).length+1)*72≤140737488355328 by have h1:=HL.out;rw [List.length_take];omega)
   have HTL:=Lib.hid (show (l.take i++[x]).length=i+1 by rw [← htk,List.length_take];have:=HN.out;omega)
   have HCP:=Lib.hid (copy_total x A2 c2 wr (Kd.C_below g2 hb) HX.out)
   clear l2 g2
   have x0:(0:Int)≤(i:Int):=by omega
   have x1:(i:Int)<(n:Int):=by omega
   have x5:(i:Int)≤4294967296:=by have:=HL.out;omega
   have x2:decide ((i:Int)<(n:Int))=true:=decide_eq_true x1
   have x3:decide (i<n)=true:=decide_eq_true hlt
   clear hlt hi hr hb htk t0 t1 t2 t3 t4 hx
   go_wp2_with (first | (go_at_call 50;((with_reducible refine HCP.out.mono ?_);rintro e w2 ⟨cs,rfl,hm2,hb2⟩;obtain ⟨v2,rfl,_⟩:=k104_openM hm2;have HM2:=Lib.hid (k104.M_lower HB.out.size hm2);clear hm2;have HB2:=Lib.hid (show Below w.heap.size w w2 from HB.out.trans (hb2.mono HB.out.size));have HS2:=Lib.hid (Kd.R_below HR.out hb2);have HW2:=Lib.hid hb2.size;clear hb2)) | (at_builtin;refine Kd.R_append k104 (w0:=w) w.heap.size rfl (.tmp 11) (.tmp 17) 30 104 (.agg #[.string ⟨#[]⟩,.string ⟨#[]⟩,.slice none 0 0,.bool false,.int .i64 0]) 72 rfl Tryz.underlying30 info_tt rfl (by decide) (by decide) (.slice A i c) (l.take i) x [.string x.f0,.string x.f1,v2,.bool x.f3,.int .i64 x.f4] (fun k=>w.heap.size≤k) (fun k=>wr.heap.size≤k) rfl rfl HM2.out (fun k hk=>⟨Nat.le_trans HB.out.size hk,fun e=>by have h1:=Kd.R_lt HR.out k e.symm;omega⟩) (fun k hk=>Nat.le_trans HB2.out.size hk) HS2.out HB2.out HB2.out.size HLN.out ?_;intro v3 w3 hs3 hb3 hg3 hat3;obtain ⟨A9,c9,rfl⟩:=Kd.R_slice hs3;rw [HTL.out] at hs3 ⊢;rw [← HTK.out] at hs3;have HR3:=Lib.hid hs3;have HB3:=Lib.hid hb3;clear hs3 hb3 hg3 hat3))
   go_roundw
   case rel=>exact ⟨i+1,A9,c9,rfl,rfl,HLT.out,HR3.out,HB3.out⟩
   case measure=>(show n-(i+1:Int).toNat<n-(i:Int).toNat;have:=HLT.out;omega)
  ·have HTK:=Lib.hid (show l.take i=l by rw [List.take_of_length_le];have:=HN.out;omega)
   have x2:decide ((i:Int)<(n:Int))=false:=decide_eq_false (by omega)
   have x3:decide (i<n)=false:=decide_eq_false hlt
   clear hb hlt hi hr
   go_wp2_with fail
   go_ret
   refine ⟨_,rfl,?_,HB.out⟩
   have h9:=HR.out
   rw [HTK.out] at h9
   exact h9
theorem copy_guard (x:S98) (A0:Option Addr) (c0:Nat) (A2:Option Addr) (c2:Nat) (w:World) (g0:Kd.C k102 w A0 x.f0.length x.f0) (g2:Kd.C k102 w A2 x.f2.length x.f2) (hs:smGuard x) :
  Calls Tryz.prog 115 #[.agg #[.slice A0 x.f0.length c0,.int .i64 x.f1,.slice A2 x.f2.length c2]] w fun e w'=>∃ cs,e=.returned (.agg cs.toArray)∧k98.M w' w.heap.size (fun k=>w.heap.size≤k) x cs∧Below w.heap.size w w':=by
 obtain ⟨X,b,c,hX,hb,hc,h0⟩:=Cp.mk0 w 98 #[.slice A0 x.f0.length c0,.int .i64 x.f1,.slice A2 x.f2.length c2] #[.slice none 0 0,.int .i64 0,.slice none 0 0]
 have H0:=Lib.hid h0
 have G0:=Lib.hid g0
 have G2:=Lib.hid g2
 have HSM:=Lib.hid hs
 have HN:=Lib.hid hb
 have HM:=Lib.hid hc
 clear g0 g2 hs hb hc h0
 go_enter Tryz.func115,Tryz.ntmps115
 go_upto_region 1 with fail
 try rw [hX]
 try rw [HM.out]
 try rw [HN.out]
 clear hX
 have HC1:=Lib.hid (copy_terms x.f0 A0 c0 X (Kd.C_below G0.out H0.out.hb) (HSM.out.1.1) (HSM.out.1.2))
 have y0:=blk_cell (v:=.slice A0 x.f0.length c0) H0.out.h0 0 rfl
 go_upto_region 2 with (first | (go_at_call 130;((with_reducible refine HC1.out.mono ?_);rintro e w1 ⟨v,rfl,r0,hb⟩;obtain ⟨B0,d0,rfl⟩:=Kd.R_slice r0;have K1:=Lib.hid (H0.out.call hb);have R0:=Lib.hid (H0.out.new r0);have z0:=blk_cell (v:=.slice A0 x.f0.length c0) K1.out.h0 0 rfl;have f0:=blk_free K1.out.h0 0;clear r0 hb)))
 have Q0:=Lib.hid (K1.out.r0 R0.out (fun _ h=>h) 0 (.slice B0 x.f0.length d0))
 clear R0
 have L1:=Lib.hid (Cp.st0 (us:=#[.slice B0 x.f0.length d0,.int .i64 x.f1,.slice A2 x.f2.length c2]) K1.out 0 (.slice B0 x.f0.length d0) rfl)
 obtain ⟨Y1,hY⟩:∃ Y,(w1.setCell ⟨b,0,none⟩ (.slice B0 x.f0.length d0))=Y:=⟨_,rfl⟩
 try rw [hY]
 rw [hY] at L1 Q0
 clear hY K1 y0 z0 f0
 have R0:=Lib.hid Q0.out
 clear Q0
 have HC2:=Lib.hid (copy_terms x.f2 A2 c2 Y1 (Kd.C_below G2.out L1.out.hb) (HSM.out.2.1) (HSM.out.2.2))
 have y2:=blk_cell (v:=.slice A2 x.f2.length c2) L1.out.h0 2 rfl
 go_upto_region 3 with (first | (go_at_call 130;((with_reducible refine HC2.out.mono ?_);rintro e w2 ⟨v,rfl,r2,hb⟩;obtain ⟨B2,d2,rfl⟩:=Kd.R_slice r2;have K2:=Lib.hid (L1.out.call hb);have R2:=Lib.hid (L1.out.new r2);have R0:=Lib.hid (Kd.R_below R0.out hb);have z2:=blk_cell (v:=.slice A2 x.f2.length c2) K2.out.h0 2 rfl;have f2:=blk_free K2.out.h0 2;clear r2 hb)))
 have Q0:=Lib.hid (K2.out.r0 R0.out (fun _ h=>h) 2 (.slice B2 x.f2.length d2))
 clear R0
 have Q2:=Lib.hid (K2.out.r0 R2.out (fun _ h=>h) 2 (.slice B2 x.f2.length d2))
 clear R2
 have L2:=Lib.hid (Cp.st0 (us:=#[.slice B0 x.f0.length d0,.int .i64 x.f1,.slice B2 x.f2.length d2]) K2.out 2 (.slice B2 x.f2.length d2) rfl)
 obtain ⟨Y2,hY⟩:∃ Y,(w2.setCell ⟨b,2,none⟩ (.slice B2 x.f2.length d2))=Y:=⟨_,rfl⟩
 try rw [hY]
 rw [hY] at L2 Q0 Q2
 clear hY K2 y2 z2 f2
 have R0:=Lib.hid Q0.out
 clear Q0
 have R2:=Lib.hid Q2.out
 clear Q2
 have y0:=blk_cell (v:=.slice B0 x.f0.length d0) L2.out.h0 0 rfl
 have u0:=blk_cell (v:=.slice none 0 0) L2.out.h1 0 rfl
 have f0:=blk_free L2.out.h1 0
 have y1:=blk_cell (v:=.int .i64 x.f1) L2.out.h0 1 rfl
 have u1:=blk_cell (v:=.int .i64 0) L2.out.h1 1 rfl
 have f1:=blk_free L2.out.h1 1
 have y2:=blk_cell (v:=.slice B2 x.f2.length d2) L2.out.h0 2 rfl
 have u2:=blk_cell (v:=.slice none 0 0) L2.out.h1 2 rfl
 have f2:=blk_free L2.out.h1 2
 go_wp2_with fail
 have HE:=Lib.hid (Cp.st1 (us:=#[.slice B0 x.f0.length d0,.int .i64 x.f1,.slice B2 x.f2.length d2]) (Cp.st1 (us:=#[.slice B0 x.f0.length d0,.int .i64 x.f1,.slice none 0 0]) (Cp.st1 (us:=#[.slice B0 x.f0.length d0,.int .i64 0,.slice none 0 0]) L2.out 0 (.slice B0 x.f0.length d0) rfl) 1 (.int .i64 x.f1) rfl) 2 (.slice B2 x.f2.length d2) rfl)
 refine bodyPost_ret (results_cell_row rfl _ _ c 98 #[.slice B0 x.f0.length d0,.int .i64 x.f1,.slice B2 x.f2.length d2] (0,0) _ rfl HE.out.h1 Tryz.underlying98 rfl rfl) rfl ?_
 refine ⟨[.slice B0 x.f0.length d0,.int .i64 x.f1,.slice B2 x.f2.length d2],rfl,k98_mkM _ _ _ x ?_ ?_,HE.out.hb⟩
 ·exact HE.out.fin (Cp.r1 (Cp.r1 (Cp.r1 R0.out (fun _ h=>h) 0 _) (fun _ h=>h) 1 _) (fun _ h=>h) 2 _)
 ·exact HE.out.fin (Cp.r1 (Cp.r1 (Cp.r1 R2.out (fun _ h=>h) 0 _) (fun _ h=>h) 1 _) (fun _ h=>h) 2 _)
theorem copy_prem (x:S100) (A3:Option Addr) (c3:Nat) (A6:Option Addr) (c6:Nat) (A8:Option Addr) (c8:Nat) (w:World) (g3:Kd.C Kd.string w A3 x.f1.f2.length x.f1.f2) (g6:Kd.C k102 w A6 x.f2.f0.length x.f2.f0) (g8:Kd.C k102 w A8 x.f2.f2.length x.f2.f2) (hs:smPrem x) :
  Calls Tryz.prog 97 #[.agg #[.int .i64 x.f0,.bool x.f1.f0,.string x.f1.f1,.slice A3 x.f1.f2.length c3,.bool x.f1.f3,.int .i64 x.f1.f4,.slice A6 x.f2.f0.length c6,.int .i64 x.f2.f1,.slice A8 x.f2.f2.length c8,.string x.f3,.string x.f4]] w fun e w'=>∃ cs,e=.returned (.agg cs.toArray)∧k100.M w' w.heap.size (fun k=>w.heap.size≤k) x cs∧Below w.heap.size w w':=by
 obtain ⟨X,b,c,hX,hb,hc,h0⟩:=Cp.mk0 w 100 #[.int .i64 x.f0,.bool x.f1.f0,.string x.f1.f1,.slice A3 x.f1.f2.length c3,.bool x.f1.f3,.int .i64 x.f1.f4,.slice A6 x.f2.f0.length c6,.int .i64 x.f2.f1,.slice A8 x.f2.f2.length c8,.string x.f3,.string x.f4] #[.int .i64 0,.bool false,.string ⟨#[]⟩,.slice none 0 0,.bool false,.int .i64 0,.slice none 0 0,.int .i64 0,.slice none 0 0,.string ⟨#[]⟩,.string ⟨#[]⟩]
 have H0:=Lib.hid h0
 have G3:=Lib.hid g3
 have G6:=Lib.hid g6
 have G8:=Lib.hid g8
 have HSM:=Lib.hid hs
 have HN:=Lib.hid hb
 have HM:=Lib.hid hc
 clear g3 g6 g8 hs hb hc h0
 go_enter Tryz.func97,Tryz.ntmps97
 go_upto_region 1 with fail
 try rw [hX]
 try rw [HM.out]
 try rw [HN.out]
 clear hX
 have HC1:=Lib.hid (copy_lit x.f1 A3 c3 X (Kd.C_below G3.out H0.out.hb) (HSM.out.1))
 have y1:=blk_cell (v:=.bool x.f1.f0) H0.out.h0 1 rfl
 have y2:=blk_cell (v:=.string x.f1.f1) H0.out.h0 2 rfl
 have y3:=blk_cell (v:=.slice A3 x.f1.f2.length c3) H0.out.h0 3 rfl
 have y4:=blk_cell (v:=.bool x.f1.f3) H0.out.h0 4 rfl
 have y5:=blk_cell (v:=.int .i64 x.f1.f4) H0.out.h0 5 rfl
 go_upto_region 2 with (first | (go_at_call 74;((with_reducible refine HC1.out.mono ?_);rintro e w1 ⟨cs,rfl,hm,hb⟩;obtain ⟨v3,rfl,r3⟩:=k91_openM hm;obtain ⟨B3,d3,rfl⟩:=Kd.R_slice r3;have K1:=Lib.hid (H0.out.call hb);have R3:=Lib.hid (H0.out.new r3);have z1:=blk_cell (v:=.bool x.f1.f0) K1.out.h0 1 rfl;have f1:=blk_free K1.out.h0 1;have z2:=blk_cell (v:=.string x.f1.f1) K1.out.h0 2 rfl;have f2:=blk_free K1.out.h0 2;have z3:=blk_cell (v:=.slice A3 x.f1.f2.length c3) K1.out.h0 3 rfl;have f3:=blk_free K1.out.h0 3;have z4:=blk_cell (v:=.bool x.f1.f3) K1.out.h0 4 rfl;have f4:=blk_free K1.out.h0 4;have z5:=blk_cell (v:=.int .i64 x.f1.f4) K1.out.h0 5 rfl;have f5:=blk_free K1.out.h0 5;clear r3 hb)))
 have Q3:=Lib.hid (K1.out.r0 (K1.out.r0 (K1.out.r0 (K1.out.r0 (K1.out.r0 R3.out (fun _ h=>h) 1 (.bool x.f1.f0)) (fun _ h=>h) 2 (.string x.f1.f1)) (fun _ h=>h) 3 (.slice B3 x.f1.f2.length d3)) (fun _ h=>h) 4 (.bool x.f1.f3)) (fun _ h=>h) 5 (.int .i64 x.f1.f4))
 clear R3
 have L1:=Lib.hid (Cp.st0 (us:=#[.int .i64 x.f0,.bool x.f1.f0,.string x.f1.f1,.slice B3 x.f1.f2.length d3,.bool x.f1.f3,.int .i64 x.f1.f4,.slice A6 x.f2.f0.length c6,.int .i64 x.f2.f1,.slice A8 x.f2.f2.length c8,.string x.f3,.string x.f4]) (Cp.st0 (us:=#[.int .i64 x.f0,.bool x.f1.f0,.string x.f1.f1,.slice B3 x.f1.f2.length d3,.bool x.f1.f3,.int .i64 x.f1.f4,.slice A6 x.f2.f0.length c6,.int .i64 x.f2.f1,.slice A8 x.f2.f2.length c8,.string x.f3,.string x.f4]) (Cp.st0 (us:=#[.int .i64 x.f0,.bool x.f1.f0,.string x.f1.f1,.slice B3 x.f1.f2.length d3,.bool x.f1.f3,.int .i64 x.f1.f4,.slice A6 x.f2.f0.length c6,.int .i64 x.f2.f1,.slice A8 x.f2.f2.length c8,.string x.f3,.string x.f4]) (Cp.st0 (us:=#[.int .i64 x.f0,.bool x.f1.f0,.string x.f1.f1,.slice A3 x.f1.f2.length c3,.bool x.f1.f3,.int .i64 x.f1.f4,.slice A6 x.f2.f0.length c6,.int .i64 x.f2.f1,.slice A8 x.f2.f2.length c8,.string x.f3,.string x.f4]) (Cp.st0 (us:=#[.int .i64 x.f0,.bool x.f1.f0,.string x.f1.f1,.slice A3 x.f1.f2.length c3,.bool x.f1.f3,.int .i64 x.f1.f4,.slice A6 x.f2.f0.length c6,.int .i64 x.f2.f1,.slice A8 x.f2.f2.length c8,.string x.f3,.string x.f4]) K1.out 1 (.bool x.f1.f0) rfl) 2 (.string x.f1.f1) rfl) 3 (.slice B3 x.f1.f2.length d3) rfl) 4 (.bool x.f1.f3) rfl) 5 (.int .i64 x.f1.f4) rfl)
 obtain ⟨Y1,hY⟩:∃ Y,(((((w1.setCell ⟨b,1,none⟩ (.bool x.f1.f0)).setCell ⟨b,2,none⟩ (.string x.f1.f1)).setCell ⟨b,3,none⟩ (.slice B3 x.f1.f2.length d3)).setCell ⟨b,4,none⟩ (.bool x.f1.f3)).setCell ⟨b,5,none⟩ (.int .i64 x.f1.f4))=Y:=⟨_,rfl⟩
 try rw [hY]
 rw [hY] at L1 Q3
 clear hY K1 y1 z1 f1 y2 z2 f2 y3 z3 f3 y4 z4 f4 y5 z5 f5
 have R3:=Lib.hid Q3.out
 clear Q3
 have HC2:=Lib.hid (copy_guard x.f2 A6 c6 A8 c8 Y1 (Kd.C_below G6.out L1.out.hb) (Kd.C_below G8.out L1.out.hb) (HSM.out.2))
 have y6:=blk_cell (v:=.slice A6 x.f2.f0.length c6) L1.out.h0 6 rfl
 have y7:=blk_cell (v:=.int .i64 x.f2.f1) L1.out.h0 7 rfl
 have y8:=blk_cell (v:=.slice A8 x.f2.f2.length c8) L1.out.h0 8 rfl
 go_upto_region 3 with (first | (go_at_call 115;((with_reducible refine HC2.out.mono ?_);rintro e w2 ⟨cs,rfl,hm,hb⟩;obtain ⟨v6,v8,rfl,r6,r8⟩:=k98_openM hm;obtain ⟨B6,d6,rfl⟩:=Kd.R_slice r6;obtain ⟨B8,d8,rfl⟩:=Kd.R_slice r8;have K2:=Lib.hid (L1.out.call hb);have R6:=Lib.hid (L1.out.new r6);have R8:=Lib.hid (L1.out.new r8);have R3:=Lib.hid (Kd.R_below R3.out hb);have z6:=blk_cell (v:=.slice A6 x.f2.f0.length c6) K2.out.h0 6 rfl;have f6:=blk_free K2.out.h0 6;have z7:=blk_cell (v:=.int .i64 x.f2.f1) K2.out.h0 7 rfl;have f7:=blk_free K2.out.h0 7;have z8:=blk_cell (v:=.slice A8 x.f2.f2.length c8) K2.out.h0 8 rfl;have f8:=blk_free K2.out.h0 8;clear r6 r8 hb)))
 have Q3:=Lib.hid (K2.out.r0 (K2.out.r0 (K2.out.r0 R3.out (fun _ h=>h) 6 (.slice B6 x.f2.f0.length d6)) (fun _ h=>h) 7 (.int .i64 x.f2.f1)) (fun _ h=>h) 8 (.slice B8 x.f2.f2.length d8))
 clear R3
 have Q6:=Lib.hid (K2.out.r0 (K2.out.r0 (K2.out.r0 R6.out (fun _ h=>h) 6 (.slice B6 x.f2.f0.length d6)) (fun _ h=>h) 7 (.int .i64 x.f2.f1)) (fun _ h=>h) 8 (.slice B8 x.f2.f2.length d8))
 clear R6
 have Q8:=Lib.hid (K2.out.r0 (K2.out.r0 (K2.out.r0 R8.out (fun _ h=>h) 6 (.slice B6 x.f2.f0.length d6)) (fun _ h=>h) 7 (.int .i64 x.f2.f1)) (fun _ h=>h) 8 (.slice B8 x.f2.f2.length d8))
 clear R8
 have L2:=Lib.hid (Cp.st0 (us:=#[.int .i64 x.f0,.bool x.f1.f0,.string x.f1.f1,.slice B3 x.f1.f2.length d3,.bool x.f1.f3,.int .i64 x.f1.f4,.slice B6 x.f2.f0.length d6,.int .i64 x.f2.f1,.slice B8 x.f2.f2.length d8,.string x.f3,.string x.f4]) (Cp.st0 (us:=#[.int .i64 x.f0,.bool x.f1.f0,.string x.f1.f1,.slice B3 x.f1.f2.length d3,.bool x.f1.f3,.int .i64 x.f1.f4,.slice B6 x.f2.f0.length d6,.int .i64 x.f2.f1,.slice A8 x.f2.f2.length c8,.string x.f3,.string x.f4]) (Cp.st0 (us:=#[.int .i64 x.f0,.bool x.f1.f0,.string x.f1.f1,.slice B3 x.f1.f2.length d3,.bool x.f1.f3,.int .i64 x.f1.f4,.slice B6 x.f2.f0.length d6,.int .i64 x.f2.f1,.slice A8 x.f2.f2.length c8,.string x.f3,.string x.f4]) K2.out 6 (.slice B6 x.f2.f0.length d6) rfl) 7 (.int .i64 x.f2.f1) rfl) 8 (.slice B8 x.f2.f2.length d8) rfl)
 obtain ⟨Y2,hY⟩:∃ Y,(((w2.setCell ⟨b,6,none⟩ (.slice B6 x.f2.f0.length d6)).setCell ⟨b,7,none⟩ (.int .i64 x.f2.f1)).setCell ⟨b,8,none⟩ (.slice B8 x.f2.f2.length d8))=Y:=⟨_,rfl⟩
 try rw [hY]
 rw [hY] at L2 Q3 Q6 Q8
 clear hY K2 y6 z6 f6 y7 z7 f7 y8 z8 f8
 have R3:=Lib.hid Q3.out
 clear Q3
 have R6:=Lib.hid Q6.out
 clear Q6
 have R8:=Lib.hid Q8.out
 clear Q8
 have y0:=blk_cell (v:=.int .i64 x.f0) L2.out.h0 0 rfl
 have u0:=blk_cell (v:=.int .i64 0) L2.out.h1 0 rfl
 have f0:=blk_free L2.out.h1 0
 have y1:=blk_cell (v:=.bool x.f1.f0) L2.out.h0 1 rfl
 have u1:=blk_cell (v:=.bool false) L2.out.h1 1 rfl
 have f1:=blk_free L2.out.h1 1
 have y2:=blk_cell (v:=.string x.f1.f1) L2.out.h0 2 rfl
 have u2:=blk_cell (v:=.string ⟨#[]⟩) L2.out.h1 2 rfl
 have f2:=blk_free L2.out.h1 2
 have y3:=blk_cell (v:=.slice B3 x.f1.f2.length d3) L2.out.h0 3 rfl
 have u3:=blk_cell (v:=.slice none 0 0) L2.out.h1 3 rfl
 have f3:=blk_free L2.out.h1 3
 have y4:=blk_cell (v:=.bool x.f1.f3) L2.out.h0 4 rfl
 have u4:=blk_cell (v:=.bool false) L2.out.h1 4 rfl
 have f4:=blk_free L2.out.h1 4
 have y5:=blk_cell (v:=.int .i64 x.f1.f4) L2.out.h0 5 rfl
 have u5:=blk_cell (v:=.int .i64 0) L2.out.h1 5 rfl
 have f5:=blk_free L2.out.h1 5
 have y6:=blk_cell (v:=.slice B6 x.f2.f0.length d6) L2.out.h0 6 rfl
 have u6:=blk_cell (v:=.slice none 0 0) L2.out.h1 6 rfl
 have f6:=blk_free L2.out.h1 6
 have y7:=blk_cell (v:=.int .i64 x.f2.f1) L2.out.h0 7 rfl
 have u7:=blk_cell (v:=.int .i64 0) L2.out.h1 7 rfl
 have f7:=blk_free L2.out.h1 7
 have y8:=blk_cell (v:=.slice B8 x.f2.f2.length d8) L2.out.h0 8 rfl
 have u8:=blk_cell (v:=.slice none 0 0) L2.out.h1 8 rfl
 have f8:=blk_free L2.out.h1 8
 have y9:=blk_cell (v:=.string x.f3) L2.out.h0 9 rfl
 have u9:=blk_cell (v:=.string ⟨#[]⟩) L2.out.h1 9 rfl
 have f9:=blk_free L2.out.h1 9
 have y10:=blk_cell (v:=.string x.f4) L2.out.h0 10 rfl
 have u10:=blk_cell (v:=.string ⟨#[]⟩) L2.out.h1 10 rfl
 have f10:=blk_free L2.out.h1 10
 go_wp2_with fail
 have HE:=Lib.hid (Cp.st1 (us:=#[.int .i64 x.f0,.bool x.f1.f0,.string x.f1.f1,.slice B3 x.f1.f2.length d3,.bool x.f1.f3,.int .i64 x.f1.f4,.slice B6 x.f2.f0.length d6,.int .i64 x.f2.f1,.slice B8 x.f2.f2.length d8,.string x.f3,.string x.f4]) (Cp.st1 (us:=#[.int .i64 x.f0,.bool x.f1.f0,.string x.f1.f1,.slice B3 x.f1.f2.length d3,.bool x.f1.f3,.int .i64 x.f1.f4,.slice B6 x.f2.f0.length d6,.int .i64 x.f2.f1,.slice B8 x.f2.f2.length d8,.string x.f3,.string ⟨#[]⟩]) (Cp.st1 (us:=#[.int .i64 x.f0,.bool x.f1.f0,.string x.f1.f1,.slice B3 x.f1.f2.length d3,.bool x.f1.f3,.int .i64 x.f1.f4,.slice B6 x.f2.f0.length d6,.int .i64 x.f2.f1,.slice B8 x.f2.f2.length d8,.string ⟨#[]⟩,.string ⟨#[]⟩]) (Cp.st1 (us:=#[.int .i64 x.f0,.bool x.f1.f0,.string x.f1.f1,.slice B3 x.f1.f2.length d3,.bool x.f1.f3,.int .i64 x.f1.f4,.slice B6 x.f2.f0.length d6,.int .i64 x.f2.f1,.slice none 0 0,.string ⟨#[]⟩,.string ⟨#[]⟩]) (Cp.st1 (us:=#[.int .i64 x.f0,.bool x.f1.f0,.string x.f1.f1,.slice B3 x.f1.f2.length d3,.bool x.f1.f3,.int .i64 x.f1.f4,.slice B6 x.f2.f0.length d6,.int .i64 0,.slice none 0 0,.string ⟨#[]⟩,.string ⟨#[]⟩]) (Cp.st1 (us:=#[.int .i64 x.f0,.bool x.f1.f0,.string x.f1.f1,.slice B3 x.f1.f2.length d3,.bool x.f1.f3,.int .i64 x.f1.f4,.slice none 0 0,.int .i64 0,.slice none 0 0,.string ⟨#[]⟩,.string ⟨#[]⟩]) (Cp.st1 (us:=#[.int .i64 x.f0,.bool x.f1.f0,.string x.f1.f1,.slice B3 x.f1.f2.length d3,.bool x.f1.f3,.int .i64 0,.slice none 0 0,.int .i64 0,.slice none 0 0,.string ⟨#[]⟩,.string ⟨#[]⟩]) (Cp.st1 (us:=#[.int .i64 x.f0,.bool x.f1.f0,.string x.f1.f1,.slice B3 x.f1.f2.length d3,.bool false,.int .i64 0,.slice none 0 0,.int .i64 0,.slice none 0 0,.string ⟨#[]⟩,.string ⟨#[]⟩]) (Cp.st1 (us:=#[.int .i64 x.f0,.bool x.f1.f0,.string x.f1.f1,.slice none 0 0,.bool false,.int .i64 0,.slice none 0 0,.int .i64 0,.slice none 0 0,.string ⟨#[]⟩,.string ⟨#[]⟩]) (Cp.st1 (us:=#[.int .i64 x.f0,.bool x.f1.f0,.string ⟨#[]⟩,.slice none 0 0,.bool false,.int .i64 0,.slice none 0 0,.int .i64 0,.slice none 0 0,.string ⟨#[]⟩,.string ⟨#[]⟩]) (Cp.st1 (us:=#[.int .i64 x.f0,.bool false,.string ⟨#[]⟩,.slice none 0 0,.bool false,.int .i64 0,.slice none 0 0,.int .i64 0,.slice none 0 0,.string ⟨#[]⟩,.string ⟨#[]⟩]) L2.out 0 (.int .i64 x.f0) rfl) 1 (.bool x.f1.f0) rfl) 2 (.string x.f1.f1) rfl) 3 (.slice B3 x.f1.f2.length d3) rfl) 4 (.bool x.f1.f3) rfl) 5 (.int .i64 x.f1.f4) rfl) 6 (.slice B6 x.f2.f0.length d6) rfl) 7 (.int .i64 x.f2.f1) rfl) 8 (.slice B8 x.f2.f2.length d8) rfl) 9 (.string x.f3) rfl) 10 (.string x.f4) rfl)
 refine bodyPost_ret (results_cell_row rfl _ _ c 100 #[.int .i64 x.f0,.bool x.f1.f0,.string x.f1.f1,.slice B3 x.f1.f2.length d3,.bool x.f1.f3,.int .i64 x.f1.f4,.slice B6 x.f2.f0.length d6,.int .i64 x.f2.f1,.slice B8 x.f2.f2.length d8,.string x.f3,.string x.f4] (0,0) _ rfl HE.out.h1 Tryz.underlying100 rfl rfl) rfl ?_
 refine ⟨[.int .i64 x.f0,.bool x.f1.f0,.string x.f1.f1,.slice B3 x.f1.f2.length d3,.bool x.f1.f3,.int .i64 x.f1.f4,.slice B6 x.f2.f0.length d6,.int .i64 x.f2.f1,.slice B8 x.f2.f2.length d8,.string x.f3,.string x.f4],rfl,k100_mkM _ _ _ x ?_ ?_ ?_,HE.out.hb⟩
 ·exact HE.out.fin (Cp.r1 (Cp.r1 (Cp.r1 (Cp.r1 (Cp.r1 (Cp.r1 (Cp.r1 (Cp.r1 (Cp.r1 (Cp.r1 (Cp.r1 R3.out (fun _ h=>h) 0 _) (fun _ h=>h) 1 _) (fun _ h=>h) 2 _) (fun _ h=>h) 3 _) (fun _ h=>h) 4 _) (fun _ h=>h) 5 _) (fun _ h=>h) 6 _) (fun _ h=>h) 7 _) (fun _ h=>h) 8 _) (fun _ h=>h) 9 _) (fun _ h=>h) 10 _)
 ·exact HE.out.fin (Cp.r1 (Cp.r1 (Cp.r1 (Cp.r1 (Cp.r1 (Cp.r1 (Cp.r1 (Cp.r1 (Cp.r1 (Cp.r1 (Cp.r1 R6.out (fun _ h=>h) 0 _) (fun _ h=>h) 1 _) (fun _ h=>h) 2 _) (fun _ h=>h) 3 _) (fun _ h=>h) 4 _) (fun _ h=>h) 5 _) (fun _ h=>h) 6 _) (fun _ h=>h) 7 _) (fun _ h=>h) 8 _) (fun _ h=>h) 9 _) (fun _ h=>h) 10 _)
 ·exact HE.out.fin (Cp.r1 (Cp.r1 (Cp.r1 (Cp.r1 (Cp.r1 (Cp.r1 (Cp.r1 (Cp.r1 (Cp.r1 (Cp.r1 (Cp.r1 R8.out (fun _ h=>h) 0 _) (fun _ h=>h) 1 _) (fun _ h=>h) 2 _) (fun _ h=>h) 3 _) (fun _ h=>h) 4 _) (fun _ h=>h) 5 _) (fun _ h=>h) 6 _) (fun _ h=>h) 7 _) (fun _ h=>h) 8 _) (fun _ h=>h) 9 _) (fun _ h=>h) 10 _)
theorem copy_prems (l:List S100) (A0:Option Addr) (c0:Nat) (w:World) (h0:Kd.C k100 w A0 l.length l) (hl:sm l) (hs:∀ x∈l,smPrem x) :
  Calls Tryz.prog 73 #[.slice A0 l.length c0] w fun e w'=>∃ v,e=.returned v∧Kd.R k100 100 w' w.heap.size (fun k=>w.heap.size≤k) v l∧Below w.heap.size w w':=by
 have HC0:=Lib.hid h0
 have HSM:=Lib.hid hs
 obtain ⟨n,hn⟩:∃ n,l.length=n:=⟨_,rfl⟩
 have HN:=Lib.hid hn
 have HL:=Lib.hid (show n≤4294967296 by rw [← hn];exact hl)
 rw [hn]
 clear h0 hl hn hs
 go_enter Tryz.func73,Tryz.ntmps73
 go_wp2_with fail
 go_loopw [3,4] (fun u3 u4 wr=>∃ (i:Nat) (A:Option Addr) (c:Nat),u4=.int .i64 i∧u3=.slice A i c∧i≤n∧Kd.R k100 100 wr w.heap.size (fun k=>w.heap.size≤k) (.slice A i c) (l.take i)∧Below w.heap.size w wr) (fun _ u4 _=>n-(RowKit.intOf u4).toNat)
 case atStart=>exact ⟨0,none,0,rfl,rfl,Nat.zero_le _,Kd.R_nil _ _ _ _ _,Below.refl _ _⟩
 case round =>
  obtain ⟨i,A,c,rfl,rfl,hi,hr,hb⟩:=hrel
  have HB:=Lib.hid hb
  have HR:=Lib.hid hr
  by_cases hlt:i<n
  ·obtain ⟨a0,A3,c3,A6,c6,A8,c8,ea0,t0,t1,t2,t3,t4,t5,t6,t7,t8,t9,t10,l3,g3,l6,g6,l8,g8⟩:=at_T100 HC0.out (i:Int) (Int.natCast_nonneg i) (by have:=HN.out;omega)
   subst ea0
   simp only [Int.toNat_natCast] at t0 t1 t2 t3 t4 t5 t6 t7 t8 t9 t10
   have hx:rd_T100 l (i:Int)=l[i]'(by have:=HN.out;omega):=by
    show l.getD i _=_
    rw [List.getD_eq_getElem?_getD,List.getElem?_eq_getElem (by have:=HN.out;omega)]
    rfl
   have htk:l.take (i+1)=l.take i++[rd_T100 l (i:Int)]:=by rw [hx];exact List.take_succ_eq_append_getElem _
   have HX:=Lib.hid (show (fun x=>smPrem x) (rd_T100 l (i:Int)) from HSM.out _ (by rw [hx];exact List.getElem_mem _))
   generalize rd_T100 l (i:Int)=x at *
   have y0:=keep_cell t0 hb
   have y1:=keep_cell t1 hb
   have y2:=keep_cell t2 hb
   have y3:=keep_cell t3 hb
   have y4:=keep_cell t4 hb
   have y5:=keep_cell t5 hb
   have y6:=keep_cell t6 hb
   have y7:=keep_cell t7 hb
   have y8:=keep_cell t8 hb
   have y9:=keep_cell t9 hb
   have y10:=keep_cell t10 hb
   have HTK:=Lib.hid htk
   have HLT:=Lib.hid hlt
   have HLN:=Lib.hid (show ((l.take i).length+1)*160≤140737488355328 by have h1:=HL.out;rw [List.length_take];omega)
   have HTL:=Lib.hid (show (l.take i++[x]).length=i+1 by rw [← htk,List.length_take];have:=HN.out;omega)
   have HCP:=Lib.hid (copy_prem x A3 c3 A6 c6 A8 c8 wr (Kd.C_below g3 hb) (Kd.C_below g6 hb) (Kd.C_below g8 hb) HX.out)
   clear l3 g3 l6 g6 l8 g8
   have x0:(0:Int)≤(i:Int):=by omega
   have x1:(i:Int)<(n:Int):=by omega
   have x5:(i:Int)≤4294967296:=by have:=HL.out;omega
   have x2:decide ((i:Int)<(n:Int))=true:=decide_eq_true x1
   have x3:decide (i<n)=true:=decide_eq_true hlt
   clear hlt hi hr hb htk t0 t1 t2 t3 t4 t5 t6 t7 t8 t9 t10 hx
   go_wp2_with (first | (go_at_call 97;((with_reducible refine HCP.out.mono ?_);rintro e w2 ⟨cs,rfl,hm2,hb2⟩;obtain ⟨v3,v6,v8,rfl,_⟩:=k100_openM hm2;have HM2:=Lib.hid (k100.M_lower HB.out.size hm2);clear hm2;have HB2:=Lib.hid (show Below w.heap.size w w2 from HB.out.trans (hb2.mono HB.out.size));have HS2:=Lib.hid (Kd.R_below HR.out hb2);have HW2:=Lib.hid hb2.size;clear hb2)) | (at_builtin;refine Kd.R_append k100 (w0:=w) w.heap.size rfl (.tmp 11) (.tmp 17) 88 100 (.agg #[.int .i64 0,.bool false,.string ⟨#[]⟩,.slice none 0 0,.bool false,.int .i64 0,.slice none 0 0,.int .i64 0,.slice none 0 0,.string ⟨#[]⟩,.string ⟨#[]⟩]) 160 rfl Tryz.underlying88 info_p rfl (by decide) (by decide) (.slice A i c) (l.take i) x [.int .i64 x.f0,.bool x.f1.f0,.string x.f1.f1,v3,.bool x.f1.f3,.int .i64 x.f1.f4,v6,.int .i64 x.f2.f1,v8,.string x.f3,.string x.f4] (fun k=>w.heap.size≤k) (fun k=>wr.heap.size≤k) rfl rfl HM2.out (fun k hk=>⟨Nat.le_trans HB.out.size hk,fun e=>by have h1:=Kd.R_lt HR.out k e.symm;omega⟩) (fun k hk=>Nat.le_trans HB2.out.size hk) HS2.out HB2.out HB2.out.size HLN.out ?_;intro v3 w3 hs3 hb3 hg3 hat3;obtain ⟨A9,c9,rfl⟩:=Kd.R_slice hs3;rw [HTL.out] at hs3 ⊢;rw [← HTK.out] at hs3;have HR3:=Lib.hid hs3;have HB3:=Lib.hid hb3;clear hs3 hb3 hg3 hat3))
   go_roundw
   case rel=>exact ⟨i+1,A9,c9,rfl,rfl,HLT.out,HR3.out,HB3.out⟩
   case measure=>(show n-(i+1:Int).toNat<n-(i:Int).toNat;have:=HLT.out;omega)
  ·have HTK:=Lib.hid (show l.take i=l by rw [List.take_of_length_le];have:=HN.out;omega)
   have x2:decide ((i:Int)<(n:Int))=false:=decide_eq_false (by omega)
   have x3:decide (i<n)=false:=decide_eq_false hlt
   clear hb hlt hi hr
   go_wp2_with fail
   go_ret
   refine ⟨_,rfl,?_,HB.out⟩
   have h9:=HR.out
   rw [HTK.out] at h9
   exact h9
theorem copy_rule (x:S93) (A4:Option Addr) (c4:Nat) (A8:Option Addr) (c8:Nat) (w:World) (g4:Kd.C k100 w A4 x.f4.length x.f4) (g8:Kd.C Kd.string w A8 x.f6.f2.length x.f6.f2) (hs:smRule x) :
  Calls Tryz.prog 49 #[.agg #[.string x.f0,.string x.f1,.int .i64 x.f2,.int .i64 x.f3,.slice A4 x.f4.length c4,.int .i64 x.f5,.bool x.f6.f0,.string x.f6.f1,.slice A8 x.f6.f2.length c8,.bool x.f6.f3,.int .i64 x.f6.f4]] w fun e w'=>∃ cs,e=.returned (.agg cs.toArray)∧k93.M w' w.heap.size (fun k=>w.heap.size≤k) x cs∧Below w.heap.size w w':=by
 obtain ⟨X,b,c,hX,hb,hc,h0⟩:=Cp.mk0 w 93 #[.string x.f0,.string x.f1,.int .i64 x.f2,.int .i64 x.f3,.slice A4 x.f4.length c4,.int .i64 x.f5,.bool x.f6.f0,.string x.f6.f1,.slice A8 x.f6.f2.length c8,.bool x.f6.f3,.int .i64 x.f6.f4] #[.string ⟨#[]⟩,.string ⟨#[]⟩,.int .i64 0,.int .i64 0,.slice none 0 0,.int .i64 0,.bool false,.string ⟨#[]⟩,.slice none 0 0,.bool false,.int .i64 0]
 have H0:=Lib.hid h0
 have G4:=Lib.hid g4
 have G8:=Lib.hid g8
 have HSM:=Lib.hid hs
 have HN:=Lib.hid hb
 have HM:=Lib.hid hc
 clear g4 g8 hs hb hc h0
 go_enter Tryz.func49,Tryz.ntmps49
 go_upto_region 1 with fail
 try rw [hX]
 try rw [HM.out]
 try rw [HN.out]
 clear hX
 have HC1:=Lib.hid (copy_prems x.f4 A4 c4 X (Kd.C_below G4.out H0.out.hb) (HSM.out.1.1) (HSM.out.1.2))
 have y4:=blk_cell (v:=.slice A4 x.f4.length c4) H0.out.h0 4 rfl
 go_upto_region 2 with (first | (go_at_call 73;((with_reducible refine HC1.out.mono ?_);rintro e w1 ⟨v,rfl,r4,hb⟩;obtain ⟨B4,d4,rfl⟩:=Kd.R_slice r4;have K1:=Lib.hid (H0.out.call hb);have R4:=Lib.hid (H0.out.new r4);have z4:=blk_cell (v:=.slice A4 x.f4.length c4) K1.out.h0 4 rfl;have f4:=blk_free K1.out.h0 4;clear r4 hb)))
 have Q4:=Lib.hid (K1.out.r0 R4.out (fun _ h=>h) 4 (.slice B4 x.f4.length d4))
 clear R4
 have L1:=Lib.hid (Cp.st0 (us:=#[.string x.f0,.string x.f1,.int .i64 x.f2,.int .i64 x.f3,.slice B4 x.f4.length d4,.int .i64 x.f5,.bool x.f6.f0,.string x.f6.f1,.slice A8 x.f6.f2.length c8,.bool x.f6.f3,.int .i64 x.f6.f4]) K1.out 4 (.slice B4 x.f4.length d4) rfl)
 obtain ⟨Y1,hY⟩:∃ Y,(w1.setCell ⟨b,4,none⟩ (.slice B4 x.f4.length d4))=Y:=⟨_,rfl⟩
 try rw [hY]
 rw [hY] at L1 Q4
 clear hY K1 y4 z4 f4
 have R4:=Lib.hid Q4.out
 clear Q4
 have HC2:=Lib.hid (copy_lit x.f6 A8 c8 Y1 (Kd.C_below G8.out L1.out.hb) (HSM.out.2))
 have y6:=blk_cell (v:=.bool x.f6.f0) L1.out.h0 6 rfl
 have y7:=blk_cell (v:=.string x.f6.f1) L1.out.h0 7 rfl
 have y8:=blk_cell (v:=.slice A8 x.f6.f2.length c8) L1.out.h0 8 rfl
 have y9:=blk_cell (v:=.bool x.f6.f3) L1.out.h0 9 rfl
 have y10:=blk_cell (v:=.int .i64 x.f6.f4) L1.out.h0 10 rfl
 go_upto_region 3 with (first | (go_at_call 74;((with_reducible refine HC2.out.mono ?_);rintro e w2 ⟨cs,rfl,hm,hb⟩;obtain ⟨v8,rfl,r8⟩:=k91_openM hm;obtain ⟨B8,d8,rfl⟩:=Kd.R_slice r8;have K2:=Lib.hid (L1.out.call hb);have R8:=Lib.hid (L1.out.new r8);have R4:=Lib.hid (Kd.R_below R4.out hb);have z6:=blk_cell (v:=.bool x.f6.f0) K2.out.h0 6 rfl;have f6:=blk_free K2.out.h0 6;have z7:=blk_cell (v:=.string x.f6.f1) K2.out.h0 7 rfl;have f7:=blk_free K2.out.h0 7;have z8:=blk_cell (v:=.slice A8 x.f6.f2.length c8) K2.out.h0 8 rfl;have f8:=blk_free K2.out.h0 8;have z9:=blk_cell (v:=.bool x.f6.f3) K2.out.h0 9 rfl;have f9:=blk_free K2.out.h0 9;have z10:=blk_cell (v:=.int .i64 x.f6.f4) K2.out.h0 10 rfl;have f10:=blk_free K2.out.h0 10;clear r8 hb)))
 have Q4:=Lib.hid (K2.out.r0 (K2.out.r0 (K2.out.r0 (K2.out.r0 (K2.out.r0 R4.out (fun _ h=>h) 6 (.bool x.f6.f0)) (fun _ h=>h) 7 (.string x.f6.f1)) (fun _ h=>h) 8 (.slice B8 x.f6.f2.length d8)) (fun _ h=>h) 9 (.bool x.f6.f3)) (fun _ h=>h) 10 (.int .i64 x.f6.f4))
 clear R4
 have Q8:=Lib.hid (K2.out.r0 (K2.out.r0 (K2.out.r0 (K2.out.r0 (K2.out.r0 R8.out (fun _ h=>h) 6 (.bool x.f6.f0)) (fun _ h=>h) 7 (.string x.f6.f1)) (fun _ h=>h) 8 (.slice B8 x.f6.f2.length d8)) (fun _ h=>h) 9 (.bool x.f6.f3)) (fun _ h=>h) 10 (.int .i64 x.f6.f4))
 clear R8
 have L2:=Lib.hid (Cp.st0 (us:=#[.string x.f0,.string x.f1,.int .i64 x.f2,.int .i64 x.f3,.slice B4 x.f4.length d4,.int .i64 x.f5,.bool x.f6.f0,.string x.f6.f1,.slice B8 x.f6.f2.length d8,.bool x.f6.f3,.int .i64 x.f6.f4]) (Cp.st0 (us:=#[.string x.f0,.string x.f1,.int .i64 x.f2,.int .i64 x.f3,.slice B4 x.f4.length d4,.int .i64 x.f5,.bool x.f6.f0,.string x.f6.f1,.slice B8 x.f6.f2.length d8,.bool x.f6.f3,.int .i64 x.f6.f4]) (Cp.st0 (us:=#[.string x.f0,.string x.f1,.int .i64 x.f2,.int .i64 x.f3,.slice B4 x.f4.length d4,.int .i64 x.f5,.bool x.f6.f0,.string x.f6.f1,.slice B8 x.f6.f2.length d8,.bool x.f6.f3,.int .i64 x.f6.f4]) (Cp.st0 (us:=#[.string x.f0,.string x.f1,.int .i64 x.f2,.int .i64 x.f3,.slice B4 x.f4.length d4,.int .i64 x.f5,.bool x.f6.f0,.string x.f6.f1,.slice A8 x.f6.f2.length c8,.bool x.f6.f3,.int .i64 x.f6.f4]) (Cp.st0 (us:=#[.string x.f0,.string x.f1,.int .i64 x.f2,.int .i64 x.f3,.slice B4 x.f4.length d4,.int .i64 x.f5,.bool x.f6.f0,.string x.f6.f1,.slice A8 x.f6.f2.length c8,.bool x.f6.f3,.int .i64 x.f6.f4]) K2.out 6 (.bool x.f6.f0) rfl) 7 (.string x.f6.f1) rfl) 8 (.slice B8 x.f6.f2.length d8) rfl) 9 (.bool x.f6.f3) rfl) 10 (.int .i64 x.f6.f4) rfl)
 obtain ⟨Y2,hY⟩:∃ Y,(((((w2.setCell ⟨b,6,none⟩ (.bool x.f6.f0)).setCell ⟨b,7,none⟩ (.string x.f6.f1)).setCell ⟨b,8,none⟩ (.slice B8 x.f6.f2.length d8)).setCell ⟨b,9,none⟩ (.bool x.f6.f3)).setCell ⟨b,10,none⟩ (.int .i64 x.f6.f4))=Y:=⟨_,rfl⟩
 try rw [hY]
 rw [hY] at L2 Q4 Q8
 clear hY K2 y6 z6 f6 y7 z7 f7 y8 z8 f8 y9 z9 f9 y10 z10 f10
 have R4:=Lib.hid Q4.out
 clear Q4
 have R8:=Lib.hid Q8.out
 clear Q8
 have y0:=blk_cell (v:=.string x.f0) L2.out.h0 0 rfl
 have u0:=blk_cell (v:=.string ⟨#[]⟩) L2.out.h1 0 rfl
 have f0:=blk_free L2.out.h1 0
 have y1:=blk_cell (v:=.string x.f1) L2.out.h0 1 rfl
 have u1:=blk_cell (v:=.string ⟨#[]⟩) L2.out.h1 1 rfl
 have f1:=blk_free L2.out.h1 1
 have y2:=blk_cell (v:=.int .i64 x.f2) L2.out.h0 2 rfl
 have u2:=blk_cell (v:=.int .i64 0) L2.out.h1 2 rfl
 have f2:=blk_free L2.out.h1 2
 have y3:=blk_cell (v:=.int .i64 x.f3) L2.out.h0 3 rfl
 have u3:=blk_cell (v:=.int .i64 0) L2.out.h1 3 rfl
 have f3:=blk_free L2.out.h1 3
 have y4:=blk_cell (v:=.slice B4 x.f4.length d4) L2.out.h0 4 rfl
 have u4:=blk_cell (v:=.slice none 0 0) L2.out.h1 4 rfl
 have f4:=blk_free L2.out.h1 4
 have y5:=blk_cell (v:=.int .i64 x.f5) L2.out.h0 5 rfl
 have u5:=blk_cell (v:=.int .i64 0) L2.out.h1 5 rfl
 have f5:=blk_free L2.out.h1 5
 have y6:=blk_cell (v:=.bool x.f6.f0) L2.out.h0 6 rfl
 have u6:=blk_cell (v:=.bool false) L2.out.h1 6 rfl
 have f6:=blk_free L2.out.h1 6
 have y7:=blk_cell (v:=.string x.f6.f1) L2.out.h0 7 rfl
 have u7:=blk_cell (v:=.string ⟨#[]⟩) L2.out.h1 7 rfl
 have f7:=blk_free L2.out.h1 7
 have y8:=blk_cell (v:=.slice B8 x.f6.f2.length d8) L2.out.h0 8 rfl
 have u8:=blk_cell (v:=.slice none 0 0) L2.out.h1 8 rfl
 have f8:=blk_free L2.out.h1 8
 have y9:=blk_cell (v:=.bool x.f6.f3) L2.out.h0 9 rfl
 have u9:=blk_cell (v:=.bool false) L2.out.h1 9 rfl
 have f9:=blk_free L2.out.h1 9
 have y10:=blk_cell (v:=.int .i64 x.f6.f4) L2.out.h0 10 rfl
 have u10:=blk_cell (v:=.int .i64 0) L2.out.h1 10 rfl
 have f10:=blk_free L2.out.h1 10
 go_wp2_with fail
 have HE:=Lib.hid (Cp.st1 (us:=#[.string x.f0,.string x.f1,.int .i64 x.f2,.int .i64 x.f3,.slice B4 x.f4.length d4,.int .i64 x.f5,.bool x.f6.f0,.string x.f6.f1,.slice B8 x.f6.f2.length d8,.bool x.f6.f3,.int .i64 x.f6.f4]) (Cp.st1 (us:=#[.string x.f0,.string x.f1,.int .i64 x.f2,.int .i64 x.f3,.slice B4 x.f4.length d4,.int .i64 x.f5,.bool x.f6.f0,.string x.f6.f1,.slice B8 x.f6.f2.length d8,.bool x.f6.f3,.int .i64 0]) (Cp.st1 (us:=#[.string x.f0,.string x.f1,.int .i64 x.f2,.int .i64 x.f3,.slice B4 x.f4.length d4,.int .i64 x.f5,.bool x.f6.f0,.string x.f6.f1,.slice B8 x.f6.f2.length d8,.bool false,.int .i64 0]) (Cp.st1 (us:=#[.string x.f0,.string x.f1,.int .i64 x.f2,.int .i64 x.f3,.slice B4 x.f4.length d4,.int .i64 x.f5,.bool x.f6.f0,.string x.f6.f1,.slice none 0 0,.bool false,.int .i64 0]) (Cp.st1 (us:=#[.string x.f0,.string x.f1,.int .i64 x.f2,.int .i64 x.f3,.slice B4 x.f4.length d4,.int .i64 x.f5,.bool x.f6.f0,.string ⟨#[]⟩,.slice none 0 0,.bool false,.int .i64 0]) (Cp.st1 (us:=#[.string x.f0,.string x.f1,.int .i64 x.f2,.int .i64 x.f3,.slice B4 x.f4.length d4,.int .i64 x.f5,.bool false,.string ⟨#[]⟩,.slice none 0 0,.bool false,.int .i64 0]) (Cp.st1 (us:=#[.string x.f0,.string x.f1,.int .i64 x.f2,.int .i64 x.f3,.slice B4 x.f4.length d4,.int .i64 0,.bool false,.string ⟨#[]⟩,.slice none 0 0,.bool false,.int .i64 0]) (Cp.st1 (us:=#[.string x.f0,.string x.f1,.int .i64 x.f2,.int .i64 x.f3,.slice none 0 0,.int .i64 0,.bool false,.string ⟨#[]⟩,.slice none 0 0,.bool false,.int .i64 0]) (Cp.st1 (us:=#[.string x.f0,.string x.f1,.int .i64 x.f2,.int .i64 0,.slice none 0 0,.int .i64 0,.bool false,.string ⟨#[]⟩,.slice none 0 0,.bool false,.int .i64 0]) (Cp.st1 (us:=#[.string x.f0,.string x.f1,.int .i64 0,.int .i64 0,.slice none 0 0,.int .i64 0,.bool false,.string ⟨#[]⟩,.slice none 0 0,.bool false,.int .i64 0]) (Cp.st1 (us:=#[.string x.f0,.string ⟨#[]⟩,.int .i64 0,.int .i64 0,.slice none 0 0,.int .i64 0,.bool false,.string ⟨#[]⟩,.slice none 0 0,.bool false,.int .i64 0]) L2.out 0 (.string x.f0) rfl) 1 (.string x.f1) rfl) 2 (.int .i64 x.f2) rfl) 3 (.int .i64 x.f3) rfl) 4 (.slice B4 x.f4.length d4) rfl) 5 (.int .i64 x.f5) rfl) 6 (.bool x.f6.f0) rfl) 7 (.string x.f6.f1) rfl) 8 (.slice B8 x.f6.f2.length d8) rfl) 9 (.bool x.f6.f3) rfl) 10 (.int .i64 x.f6.f4) rfl)
 refine bodyPost_ret (results_cell_row rfl _ _ c 93 #[.string x.f0,.string x.f1,.int .i64 x.f2,.int .i64 x.f3,.slice B4 x.f4.length d4,.int .i64 x.f5,.bool x.f6.f0,.string x.f6.f1,.slice B8 x.f6.f2.length d8,.bool x.f6.f3,.int .i64 x.f6.f4] (0,0) _ rfl HE.out.h1 Tryz.underlying93 rfl rfl) rfl ?_
 refine ⟨[.string x.f0,.string x.f1,.int .i64 x.f2,.int .i64 x.f3,.slice B4 x.f4.length d4,.int .i64 x.f5,.bool x.f6.f0,.string x.f6.f1,.slice B8 x.f6.f2.length d8,.bool x.f6.f3,.int .i64 x.f6.f4],rfl,k93_mkM _ _ _ x ?_ ?_,HE.out.hb⟩
 ·exact HE.out.fin (Cp.r1 (Cp.r1 (Cp.r1 (Cp.r1 (Cp.r1 (Cp.r1 (Cp.r1 (Cp.r1 (Cp.r1 (Cp.r1 (Cp.r1 R4.out (fun _ h=>h) 0 _) (fun _ h=>h) 1 _) (fun _ h=>h) 2 _) (fun _ h=>h) 3 _) (fun _ h=>h) 4 _) (fun _ h=>h) 5 _) (fun _ h=>h) 6 _) (fun _ h=>h) 7 _) (fun _ h=>h) 8 _) (fun _ h=>h) 9 _) (fun _ h=>h) 10 _)
 ·exact HE.out.fin (Cp.r1 (Cp.r1 (Cp.r1 (Cp.r1 (Cp.r1 (Cp.r1 (Cp.r1 (Cp.r1 (Cp.r1 (Cp.r1 (Cp.r1 R8.out (fun _ h=>h) 0 _) (fun _ h=>h) 1 _) (fun _ h=>h) 2 _) (fun _ h=>h) 3 _) (fun _ h=>h) 4 _) (fun _ h=>h) 5 _) (fun _ h=>h) 6 _) (fun _ h=>h) 7 _) (fun _ h=>h) 8 _) (fun _ h=>h) 9 _) (fun _ h=>h) 10 _)
theorem copy_rules (l:List S93) (A0:Option Addr) (c0:Nat) (w:World) (h0:Kd.C k93 w A0 l.length l) (hl:sm l) (hs:∀ x∈l,smRule x) :
  Calls Tryz.prog 34 #[.slice A0 l.length c0] w fun e w'=>∃ v,e=.returned v∧Kd.R k93 93 w' w.heap.size (fun k=>w.heap.size≤k) v l∧Below w.heap.size w w':=by
 have HC0:=Lib.hid h0
 have HSM:=Lib.hid hs
 obtain ⟨n,hn⟩:∃ n,l.length=n:=⟨_,rfl⟩
 have HN:=Lib.hid hn
 have HL:=Lib.hid (show n≤4294967296 by rw [← hn];exact hl)
 rw [hn]
 clear h0 hl hn hs
 go_enter Tryz.func34,Tryz.ntmps34
 go_wp2_with fail
 go_loopw [3,4] (fun u3 u4 wr=>∃ (i:Nat) (A:Option Addr) (c:Nat),u4=.int .i64 i∧u3=.slice A i c∧i≤n∧Kd.R k93 93 wr w.heap.size (fun k=>w.heap.size≤k) (.slice A i c) (l.take i)∧Below w.heap.size w wr) (fun _ u4 _=>n-(RowKit.intOf u4).toNat)
 case atStart=>exact ⟨0,none,0,rfl,rfl,Nat.zero_le _,Kd.R_nil _ _ _ _ _,Below.refl _ _⟩
 case round =>
  obtain ⟨i,A,c,rfl,rfl,hi,hr,hb⟩:=hrel
  have HB:=Lib.hid hb
  have HR:=Lib.hid hr
  by_cases hlt:i<n
  ·obtain ⟨a0,A4,c4,A8,c8,ea0,t0,t1,t2,t3,t4,t5,t6,t7,t8,t9,t10,l4,g4,l8,g8⟩:=at_T93 HC0.out (i:Int) (Int.natCast_nonneg i) (by have:=HN.out;omega)
   subst ea0
   simp only [Int.toNat_natCast] at t0 t1 t2 t3 t4 t5 t6 t7 t8 t9 t10
   have hx:rd_T93 l (i:Int)=l[i]'(by have:=HN.out;omega):=by
    show l.getD i _=_
    rw [List.getD_eq_getElem?_getD,List.getElem?_eq_getElem (by have:=HN.out;omega)]
    rfl
   have htk:l.take (i+1)=l.take i++[rd_T93 l (i:Int)]:=by rw [hx];exact List.take_succ_eq_append_getElem _
   have HX:=Lib.hid (show (fun x=>smRule x) (rd_T93 l (i:Int)) from HSM.out _ (by rw [hx];exact List.getElem_mem _))
   generalize rd_T93 l (i:Int)=x at *
   have y0:=keep_cell t0 hb
   have y1:=keep_cell t1 hb
   have y2:=keep_cell t2 hb
   have y3:=keep_cell t3 hb
   have y4:=keep_cell t4 hb
   have y5:=keep_cell t5 hb
   have y6:=keep_cell t6 hb
   have y7:=keep_cell t7 hb
   have y8:=keep_cell t8 hb
   have y9:=keep_cell t9 hb
   have y10:=keep_cell t10 hb
   have HTK:=Lib.hid htk
   have HLT:=Lib.hid hlt
   have HLN:=Lib.hid (show ((l.take i).length+1)*144≤140737488355328 by have h1:=HL.out;rw [List.length_take];omega)
   have HTL:=Lib.hid (show (l.take i++[x]).length=i+1 by rw [← htk,List.length_take];have:=HN.out;omega)
   have HCP:=Lib.hid (copy_rule x A4 c4 A8 c8 wr (Kd.C_below g4 hb) (Kd.C_below g8 hb) HX.out)
   clear l4 g4 l8 g8
   have x0:(0:Int)≤(i:Int):=by omega
   have x1:(i:Int)<(n:Int):=by omega
   have x5:(i:Int)≤4294967296:=by have:=HL.out;omega
   have x2:decide ((i:Int)<(n:Int))=true:=decide_eq_true x1
   have x3:decide (i<n)=true:=decide_eq_true hlt
   clear hlt hi hr hb htk t0 t1 t2 t3 t4 t5 t6 t7 t8 t9 t10 hx
   go_wp2_with (first | (go_at_call 49;((with_reducible refine HCP.out.mono ?_);rintro e w2 ⟨cs,rfl,hm2,hb2⟩;obtain ⟨v4,v8,rfl,_⟩:=k93_openM hm2;have HM2:=Lib.hid (k93.M_lower HB.out.size hm2);clear hm2;have HB2:=Lib.hid (show Below w.heap.size w w2 from HB.out.trans (hb2.mono HB.out.size));have HS2:=Lib.hid (Kd.R_below HR.out hb2);have HW2:=Lib.hid hb2.size;clear hb2)) | (at_builtin;refine Kd.R_append k93 (w0:=w) w.heap.size rfl (.tmp 11) (.tmp 17) 28 93 (.agg #[.string ⟨#[]⟩,.string ⟨#[]⟩,.int .i64 0,.int .i64 0,.slice none 0 0,.int .i64 0,.bool false,.string ⟨#[]⟩,.slice none 0 0,.bool false,.int .i64 0]) 144 rfl Tryz.underlying28 info_rl rfl (by decide) (by decide) (.slice A i c) (l.take i) x [.string x.f0,.string x.f1,.int .i64 x.f2,.int .i64 x.f3,v4,.int .i64 x.f5,.bool x.f6.f0,.string x.f6.f1,v8,.bool x.f6.f3,.int .i64 x.f6.f4] (fun k=>w.heap.size≤k) (fun k=>wr.heap.size≤k) rfl rfl HM2.out (fun k hk=>⟨Nat.le_trans HB.out.size hk,fun e=>by have h1:=Kd.R_lt HR.out k e.symm;omega⟩) (fun k hk=>Nat.le_trans HB2.out.size hk) HS2.out HB2.out HB2.out.size HLN.out ?_;intro v3 w3 hs3 hb3 hg3 hat3;obtain ⟨A9,c9,rfl⟩:=Kd.R_slice hs3;rw [HTL.out] at hs3 ⊢;rw [← HTK.out] at hs3;have HR3:=Lib.hid hs3;have HB3:=Lib.hid hb3;clear hs3 hb3 hg3 hat3))
   go_roundw
   case rel=>exact ⟨i+1,A9,c9,rfl,rfl,HLT.out,HR3.out,HB3.out⟩
   case measure=>(show n-(i+1:Int).toNat<n-(i:Int).toNat;have:=HLT.out;omega)
  ·have HTK:=Lib.hid (show l.take i=l by rw [List.take_of_length_le];have:=HN.out;omega)
   have x2:decide ((i:Int)<(n:Int))=false:=decide_eq_false (by omega)
   have x3:decide (i<n)=false:=decide_eq_false hlt
   clear hb hlt hi hr
   go_wp2_with fail
   go_ret
   refine ⟨_,rfl,?_,HB.out⟩
   have h9:=HR.out
   rw [HTK.out] at h9
   exact h9
def Sx.own8 (z1 z2 z3 z4 z5 z6 z7 k:Nat):Nat:=if k<z1 then 1 else if k<z2 then 2 else if k<z3 then 3 else if k<z4 then 4 else if k<z5 then 5 else if k<z6 then 6 else if k<z7 then 7 else 8
theorem Sx.Cp.newB {w Y w1:World} {b c t e:Nat} {cs zs:Array Value} {α:Type} {d:Kd α} {v:Value} {l:List α} (h:Cp w b c t cs zs Y) (r:Kd.R d e w1 Y.heap.size (fun k=>Y.heap.size≤k) v l):Kd.R d e w1 (c+1) (fun k=>c<k∧Y.heap.size≤k∧k<w1.heap.size) v l :=
 Kd.R_lower (Kd.R_mono (Kd.R_bound r) (fun k hk=>⟨Nat.lt_of_lt_of_le h.lt hk.1,hk.1,hk.2.2.1⟩)) h.lt
theorem copy_statute (x:Stt) (A1:Option Addr) (c1:Nat) (A2:Option Addr) (c2:Nat) (A3:Option Addr) (c3:Nat) (A4:Option Addr) (c4:Nat) (A5:Option Addr) (c5:Nat) (A6:Option Addr) (c6:Nat) (A7:Option Addr) (c7:Nat) (A8:Option Addr) (c8:Nat) (w:World) (g1:Kd.C Kd.string w A1 x.kinds.length x.kinds) (g2:Kd.C k54 w A2 x.members.length x.members) (g3:Kd.C k85 w A3 x.preds.length x.preds) (g4:Kd.C (Kd.slice 9 Kd.string) w A4 x.classes.length x.classes) (g5:Kd.C k117 w A5 x.sources.length x.sources) (g6:Kd.C k93 w A6 x.rules.length x.rules) (g7:Kd.C k120 w A7 x.excepts.length x.excepts) (g8:Kd.C k104 w A8 x.totals.length x.totals) (hs:smStt x) (hm:x.members.length≤64) :
  Calls Tryz.prog 15 #[.agg #[.string x.title,.slice A1 x.kinds.length c1,.slice A2 x.members.length c2,.slice A3 x.preds.length c3,.slice A4 x.classes.length c4,.slice A5 x.sources.length c5,.slice A6 x.rules.length c6,.slice A7 x.excepts.length c7,.slice A8 x.totals.length c8]] w fun e w'=>∃ y,e=.returned y∧sttR w.heap.size x y w'∧Below w.heap.size w w':=by
 obtain ⟨X,b,c,hX,hb,hc,h0⟩:=Cp.mk0 w 32 #[.string x.title,.slice A1 x.kinds.length c1,.slice A2 x.members.length c2,.slice A3 x.preds.length c3,.slice A4 x.classes.length c4,.slice A5 x.sources.length c5,.slice A6 x.rules.length c6,.slice A7 x.excepts.length c7,.slice A8 x.totals.length c8] #[.string ⟨#[]⟩,.slice none 0 0,.slice none 0 0,.slice none 0 0,.slice none 0 0,.slice none 0 0,.slice none 0 0,.slice none 0 0,.slice none 0 0]
 have L0:=Lib.hid h0
 have G1:=Lib.hid g1
 have G2:=Lib.hid g2
 have G3:=Lib.hid g3
 have G4:=Lib.hid g4
 have G5:=Lib.hid g5
 have G6:=Lib.hid g6
 have G7:=Lib.hid g7
 have G8:=Lib.hid g8
 have HSM:=Lib.hid hs
 have HMM:=Lib.hid hm
 have HN:=Lib.hid hb
 have HM:=Lib.hid hc
 clear g1 g2 g3 g4 g5 g6 g7 g8 hs hm hb hc h0
 go_enter Tryz.func15,Tryz.ntmps15
 go_upto_region 1 with fail
 try rw [hX]
 try rw [HM.out]
 try rw [HN.out]
 clear hX
 have HC:=Lib.hid (copy_strings x.kinds A1 c1 X (Kd.C_below G1.out L0.out.hb) (HSM.out.1))
 have y0:=blk_cell (v:=.slice A1 x.kinds.length c1) L0.out.h0 1 rfl
 go_upto_region 2 with (first | (go_at_call 29;((with_reducible refine HC.out.mono ?_);rintro e w1 ⟨v,rfl,r,hb⟩;obtain ⟨B1,d1,rfl⟩:=Kd.R_slice r;have K:=Lib.hid (L0.out.call hb);have R1:=Lib.hid (L0.out.newB r);have z0:=blk_cell (v:=.slice A1 x.kinds.length c1) K.out.h0 1 rfl;have f0:=blk_free K.out.h0 1;have HZ1:=Lib.hid hb.size;clear r hb)))
 have R1:=Lib.hid (K.out.r0 R1.out (fun _ h=>h.1) 1 (.slice B1 x.kinds.length d1))
 have L1:=Lib.hid (Cp.st0 (us:=#[.string x.title,.slice B1 x.kinds.length d1,.slice A2 x.members.length c2,.slice A3 x.preds.length c3,.slice A4 x.classes.length c4,.slice A5 x.sources.length c5,.slice A6 x.rules.length c6,.slice A7 x.excepts.length c7,.slice A8 x.totals.length c8]) K.out 1 (.slice B1 x.kinds.length d1) rfl)
 obtain ⟨Y1,hY⟩:∃ Y,w1.setCell ⟨b,1,none⟩ (.slice B1 x.kinds.length d1)=Y:=⟨_,rfl⟩
 have hz:Y1.heap.size=w1.heap.size:=by rw [← hY];exact World.size_setCell _ _ _
 try rw [hY]
 rw [hY] at L1 R1
 rw [← hz] at HZ1 R1
 clear hY hz K HC y0 z0 f0 L0
 have HC:=Lib.hid (copy_members x.members A2 c2 Y1 (Kd.C_below G2.out L1.out.hb) (HSM.out.2.1))
 have y0:=blk_cell (v:=.slice A2 x.members.length c2) L1.out.h0 2 rfl
 go_upto_region 3 with (first | (go_at_call 30;((with_reducible refine HC.out.mono ?_);rintro e w2 ⟨v,rfl,r,hb⟩;obtain ⟨B2,d2,rfl⟩:=Kd.R_slice r;have K:=Lib.hid (L1.out.call hb);have R2:=Lib.hid (L1.out.newB r);have R1:=Lib.hid (Kd.R_below R1.out hb);have z0:=blk_cell (v:=.slice A2 x.members.length c2) K.out.h0 2 rfl;have f0:=blk_free K.out.h0 2;have HZ2:=Lib.hid hb.size;clear r hb)))
 have R1:=Lib.hid (K.out.r0 R1.out (fun _ h=>h.1) 2 (.slice B2 x.members.length d2))
 have R2:=Lib.hid (K.out.r0 R2.out (fun _ h=>h.1) 2 (.slice B2 x.members.length d2))
 have L2:=Lib.hid (Cp.st0 (us:=#[.string x.title,.slice B1 x.kinds.length d1,.slice B2 x.members.length d2,.slice A3 x.preds.length c3,.slice A4 x.classes.length c4,.slice A5 x.sources.length c5,.slice A6 x.rules.length c6,.slice A7 x.excepts.length c7,.slice A8 x.totals.length c8]) K.out 2 (.slice B2 x.members.length d2) rfl)
 obtain ⟨Y2,hY⟩:∃ Y,w2.setCell ⟨b,2,none⟩ (.slice B2 x.members.length d2)=Y:=⟨_,rfl⟩
 have hz:Y2.heap.size=w2.heap.size:=by rw [← hY];exact World.size_setCell _ _ _
 try rw [hY]
 rw [hY] at L2 R1 R2
 rw [← hz] at HZ2 R2
 clear hY hz K HC y0 z0 f0 L1
 have HC:=Lib.hid (copy_preds x.preds A3 c3 Y2 (Kd.C_below G3.out L2.out.hb) (HSM.out.2.2.1.1) (HSM.out.2.2.1.2))
 have y0:=blk_cell (v:=.slice A3 x.preds.length c3) L2.out.h0 3 rfl
 go_upto_region 4 with (first | (go_at_call 31;((with_reducible refine HC.out.mono ?_);rintro e w3 ⟨v,rfl,r,hb⟩;obtain ⟨B3,d3,rfl⟩:=Kd.R_slice r;have K:=Lib.hid (L2.out.call hb);have R3:=Lib.hid (L2.out.newB r);have R1:=Lib.hid (Kd.R_below R1.out hb);have R2:=Lib.hid (Kd.R_below R2.out hb);have z0:=blk_cell (v:=.slice A3 x.preds.length c3) K.out.h0 3 rfl;have f0:=blk_free K.out.h0 3;have HZ3:=Lib.hid hb.size;clear r hb)))
 have R1:=Lib.hid (K.out.r0 R1.out (fun _ h=>h.1) 3 (.slice B3 x.preds.length d3))
 have R2:=Lib.hid (K.out.r0 R2.out (fun _ h=>h.1) 3 (.slice B3 x.preds.length d3))
 have R3:=Lib.hid (K.out.r0 R3.out (fun _ h=>h.1) 3 (.slice B3 x.preds.length d3))
 have L3:=Lib.hid (Cp.st0 (us:=#[.string x.title,.slice B1 x.kinds.length d1,.slice B2 x.members.length d2,.slice B3 x.preds.length d3,.slice A4 x.classes.length c4,.slice A5 x.sources.length c5,.slice A6 x.rules.length c6,.slice A7 x.excepts.length c7,.slice A8 x.totals.length c8]) K.out 3 (.slice B3 x.preds.length d3) rfl)
 obtain ⟨Y3,hY⟩:∃ Y,w3.setCell ⟨b,3,none⟩ (.slice B3 x.preds.length d3)=Y:=⟨_,rfl⟩
 have hz:Y3.heap.size=w3.heap.size:=by rw [← hY];exact World.size_setCell _ _ _
 try rw [hY]
 rw [hY] at L3 R1 R2 R3
 rw [← hz] at HZ3 R3
 clear hY hz K HC y0 z0 f0 L2
 have HC:=Lib.hid (copy_classes x.classes A4 c4 Y3 (Kd.C_below G4.out L3.out.hb) (HSM.out.2.2.2.1.1) (HSM.out.2.2.2.1.2))
 have y0:=blk_cell (v:=.slice A4 x.classes.length c4) L3.out.h0 4 rfl
 go_upto_region 5 with (first | (go_at_call 32;((with_reducible refine HC.out.mono ?_);rintro e w4 ⟨v,rfl,r,hb⟩;obtain ⟨B4,d4,rfl⟩:=Kd.R_slice r;have K:=Lib.hid (L3.out.call hb);have R4:=Lib.hid (L3.out.newB r);have R1:=Lib.hid (Kd.R_below R1.out hb);have R2:=Lib.hid (Kd.R_below R2.out hb);have R3:=Lib.hid (Kd.R_below R3.out hb);have z0:=blk_cell (v:=.slice A4 x.classes.length c4) K.out.h0 4 rfl;have f0:=blk_free K.out.h0 4;have HZ4:=Lib.hid hb.size;clear r hb)))
 have R1:=Lib.hid (K.out.r0 R1.out (fun _ h=>h.1) 4 (.slice B4 x.classes.length d4))
 have R2:=Lib.hid (K.out.r0 R2.out (fun _ h=>h.1) 4 (.slice B4 x.classes.length d4))
 have R3:=Lib.hid (K.out.r0 R3.out (fun _ h=>h.1) 4 (.slice B4 x.classes.length d4))
 have R4:=Lib.hid (K.out.r0 R4.out (fun _ h=>h.1) 4 (.slice B4 x.classes.length d4))
 have L4:=Lib.hid (Cp.st0 (us:=#[.string x.title,.slice B1 x.kinds.length d1,.slice B2 x.members.length d2,.slice B3 x.preds.length d3,.slice B4 x.classes.length d4,.slice A5 x.sources.length c5,.slice A6 x.rules.length c6,.slice A7 x.excepts.length c7,.slice A8 x.totals.length c8]) K.out 4 (.slice B4 x.classes.length d4) rfl)
 obtain ⟨Y4,hY⟩:∃ Y,w4.setCell ⟨b,4,none⟩ (.slice B4 x.classes.length d4)=Y:=⟨_,rfl⟩
 have hz:Y4.heap.size=w4.heap.size:=by rw [← hY];exact World.size_setCell _ _ _
 try rw [hY]
 rw [hY] at L4 R1 R2 R3 R4
 rw [← hz] at HZ4 R4
 clear hY hz K HC y0 z0 f0 L3
 have HC:=Lib.hid (copy_sources x.sources A5 c5 Y4 (Kd.C_below G5.out L4.out.hb) (HSM.out.2.2.2.2.1))
 have y0:=blk_cell (v:=.slice A5 x.sources.length c5) L4.out.h0 5 rfl
 go_upto_region 6 with (first | (go_at_call 33;((with_reducible refine HC.out.mono ?_);rintro e w5 ⟨v,rfl,r,hb⟩;obtain ⟨B5,d5,rfl⟩:=Kd.R_slice r;have K:=Lib.hid (L4.out.call hb);have R5:=Lib.hid (L4.out.newB r);have R1:=Lib.hid (Kd.R_below R1.out hb);have R2:=Lib.hid (Kd.R_below R2.out hb);have R3:=Lib.hid (Kd.R_below R3.out hb);have R4:=Lib.hid (Kd.R_below R4.out hb);have z0:=blk_cell (v:=.slice A5 x.sources.length c5) K.out.h0 5 rfl;have f0:=blk_free K.out.h0 5;have HZ5:=Lib.hid hb.size;clear r hb)))
 have R1:=Lib.hid (K.out.r0 R1.out (fun _ h=>h.1) 5 (.slice B5 x.sources.length d5))
 have R2:=Lib.hid (K.out.r0 R2.out (fun _ h=>h.1) 5 (.slice B5 x.sources.length d5))
 have R3:=Lib.hid (K.out.r0 R3.out (fun _ h=>h.1) 5 (.slice B5 x.sources.length d5))
 have R4:=Lib.hid (K.out.r0 R4.out (fun _ h=>h.1) 5 (.slice B5 x.sources.length d5))
 have R5:=Lib.hid (K.out.r0 R5.out (fun _ h=>h.1) 5 (.slice B5 x.sources.length d5))
 have L5:=Lib.hid (Cp.st0 (us:=#[.string x.title,.slice B1 x.kinds.length d1,.slice B2 x.members.length d2,.slice B3 x.preds.length d3,.slice B4 x.classes.length d4,.slice B5 x.sources.length d5,.slice A6 x.rules.length c6,.slice A7 x.excepts.length c7,.slice A8 x.totals.length c8]) K.out 5 (.slice B5 x.sources.length d5) rfl)
 obtain ⟨Y5,hY⟩:∃ Y,w5.setCell ⟨b,5,none⟩ (.slice B5 x.sources.length d5)=Y:=⟨_,rfl⟩
 have hz:Y5.heap.size=w5.heap.size:=by rw [← hY];exact World.size_setCell _ _ _
 try rw [hY]
 rw [hY] at L5 R1 R2 R3 R4 R5
 rw [← hz] at HZ5 R5
 clear hY hz K HC y0 z0 f0 L4
 have HC:=Lib.hid (copy_rules x.rules A6 c6 Y5 (Kd.C_below G6.out L5.out.hb) (HSM.out.2.2.2.2.2.1.1) (HSM.out.2.2.2.2.2.1.2))
 have y0:=blk_cell (v:=.slice A6 x.rules.length c6) L5.out.h0 6 rfl
 go_upto_region 7 with (first | (go_at_call 34;((with_reducible refine HC.out.mono ?_);rintro e w6 ⟨v,rfl,r,hb⟩;obtain ⟨B6,d6,rfl⟩:=Kd.R_slice r;have K:=Lib.hid (L5.out.call hb);have R6:=Lib.hid (L5.out.newB r);have R1:=Lib.hid (Kd.R_below R1.out hb);have R2:=Lib.hid (Kd.R_below R2.out hb);have R3:=Lib.hid (Kd.R_below R3.out hb);have R4:=Lib.hid (Kd.R_below R4.out hb);have R5:=Lib.hid (Kd.R_below R5.out hb);have z0:=blk_cell (v:=.slice A6 x.rules.length c6) K.out.h0 6 rfl;have f0:=blk_free K.out.h0 6;have HZ6:=Lib.hid hb.size;clear r hb)))
 have R1:=Lib.hid (K.out.r0 R1.out (fun _ h=>h.1) 6 (.slice B6 x.rules.length d6))
 have R2:=Lib.hid (K.out.r0 R2.out (fun _ h=>h.1) 6 (.slice B6 x.rules.length d6))
 have R3:=Lib.hid (K.out.r0 R3.out (fun _ h=>h.1) 6 (.slice B6 x.rules.length d6))
 have R4:=Lib.hid (K.out.r0 R4.out (fun _ h=>h.1) 6 (.slice B6 x.rules.length d6))
 have R5:=Lib.hid (K.out.r0 R5.out (fun _ h=>h.1) 6 (.slice B6 x.rules.length d6))
 have R6:=Lib.hid (K.out.r0 R6.out (fun _ h=>h.1) 6 (.slice B6 x.rules.length d6))
 have L6:=Lib.hid (Cp.st0 (us:=#[.string x.title,.slice B1 x.kinds.length d1,.slice B2 x.members.length d2,.slice B3 x.preds.length d3,.slice B4 x.classes.length d4,.slice B5 x.sources.length d5,.slice B6 x.rules.length d6,.slice A7 x.excepts.length c7,.slice A8 x.totals.length c8]) K.out 6 (.slice B6 x.rules.length d6) rfl)
 obtain ⟨Y6,hY⟩:∃ Y,w6.setCell ⟨b,6,none⟩ (.slice B6 x.rules.length d6)=Y:=⟨_,rfl⟩
 have hz:Y6.heap.size=w6.heap.size:=by rw [← hY];exact World.size_setCell _ _ _
 try rw [hY]
 rw [hY] at L6 R1 R2 R3 R4 R5 R6
 rw [← hz] at HZ6 R6
 clear hY hz K HC y0 z0 f0 L5
 have HC:=Lib.hid (copy_excepts x.excepts A7 c7 Y6 (Kd.C_below G7.out L6.out.hb) (HSM.out.2.2.2.2.2.2.1))
 have y0:=blk_cell (v:=.slice A7 x.excepts.length c7) L6.out.h0 7 rfl
 go_upto_region 8 with (first | (go_at_call 35;((with_reducible refine HC.out.mono ?_);rintro e w7 ⟨v,rfl,r,hb⟩;obtain ⟨B7,d7,rfl⟩:=Kd.R_slice r;have K:=Lib.hid (L6.out.call hb);have R7:=Lib.hid (L6.out.newB r);have R1:=Lib.hid (Kd.R_below R1.out hb);have R2:=Lib.hid (Kd.R_below R2.out hb);have R3:=Lib.hid (Kd.R_below R3.out hb);have R4:=Lib.hid (Kd.R_below R4.out hb);have R5:=Lib.hid (Kd.R_below R5.out hb);have R6:=Lib.hid (Kd.R_below R6.out hb);have z0:=blk_cell (v:=.slice A7 x.excepts.length c7) K.out.h0 7 rfl;have f0:=blk_free K.out.h0 7;have HZ7:=Lib.hid hb.size;clear r hb)))
 have R1:=Lib.hid (K.out.r0 R1.out (fun _ h=>h.1) 7 (.slice B7 x.excepts.length d7))
 have R2:=Lib.hid (K.out.r0 R2.out (fun _ h=>h.1) 7 (.slice B7 x.excepts.length d7))
 have R3:=Lib.hid (K.out.r0 R3.out (fun _ h=>h.1) 7 (.slice B7 x.excepts.length d7))
 have R4:=Lib.hid (K.out.r0 R4.out (fun _ h=>h.1) 7 (.slice B7 x.excepts.length d7))
 have R5:=Lib.hid (K.out.r0 R5.out (fun _ h=>h.1) 7 (.slice B7 x.excepts.length d7))
 have R6:=Lib.hid (K.out.r0 R6.out (fun _ h=>h.1) 7 (.slice B7 x.excepts.length d7))
 have R7:=Lib.hid (K.out.r0 R7.out (fun _ h=>h.1) 7 (.slice B7 x.excepts.length d7))
 have L7:=Lib.hid (Cp.st0 (us:=#[.string x.title,.slice B1 x.kinds.length d1,.slice B2 x.members.length d2,.slice B3 x.preds.length d3,.slice B4 x.classes.length d4,.slice B5 x.sources.length d5,.slice B6 x.rules.length d6,.slice B7 x.excepts.length d7,.slice A8 x.totals.length c8]) K.out 7 (.slice B7 x.excepts.length d7) rfl)
 obtain ⟨Y7,hY⟩:∃ Y,w7.setCell ⟨b,7,none⟩ (.slice B7 x.excepts.length d7)=Y:=⟨_,rfl⟩
 have hz:Y7.heap.size=w7.heap.size:=by rw [← hY];exact World.size_setCell _ _ _
 try rw [hY]
 rw [hY] at L7 R1 R2 R3 R4 R5 R6 R7
 rw [← hz] at HZ7 R7
 clear hY hz K HC y0 z0 f0 L6
 have HC:=Lib.hid (copy_totals x.totals A8 c8 Y7 (Kd.C_below G8.out L7.out.hb) (HSM.out.2.2.2.2.2.2.2.1) (HSM.out.2.2.2.2.2.2.2.2))
 have y0:=blk_cell (v:=.slice A8 x.totals.length c8) L7.out.h0 8 rfl
 go_upto_region 9 with (first | (go_at_call 36;((with_reducible refine HC.out.mono ?_);rintro e w8 ⟨v,rfl,r,hb⟩;obtain ⟨B8,d8,rfl⟩:=Kd.R_slice r;have K:=Lib.hid (L7.out.call hb);have R8:=Lib.hid (L7.out.newB r);have R1:=Lib.hid (Kd.R_below R1.out hb);have R2:=Lib.hid (Kd.R_below R2.out hb);have R3:=Lib.hid (Kd.R_below R3.out hb);have R4:=Lib.hid (Kd.R_below R4.out hb);have R5:=Lib.hid (Kd.R_below R5.out hb);have R6:=Lib.hid (Kd.R_below R6.out hb);have R7:=Lib.hid (Kd.R_below R7.out hb);have z0:=blk_cell (v:=.slice A8 x.totals.length c8) K.out.h0 8 rfl;have f0:=blk_free K.out.h0 8;have HZ8:=Lib.hid hb.size;clear r hb)))
 have R1:=Lib.hid (K.out.r0 R1.out (fun _ h=>h.1) 8 (.slice B8 x.totals.length d8))
 have R2:=Lib.hid (K.out.r0 R2.out (fun _ h=>h.1) 8 (.slice B8 x.totals.length d8))
 have R3:=Lib.hid (K.out.r0 R3.out (fun _ h=>h.1) 8 (.slice B8 x.totals.length d8))
 have R4:=Lib.hid (K.out.r0 R4.out (fun _ h=>h.1) 8 (.slice B8 x.totals.length d8))
 have R5:=Lib.hid (K.out.r0 R5.out (fun _ h=>h.1) 8 (.slice B8 x.totals.length d8))
 have R6:=Lib.hid (K.out.r0 R6.out (fun _ h=>h.1) 8 (.slice B8 x.totals.length d8))
 have R7:=Lib.hid (K.out.r0 R7.out (fun _ h=>h.1) 8 (.slice B8 x.totals.length d8))
 have R8:=Lib.hid (K.out.r0 R8.out (fun _ h=>h.1) 8 (.slice B8 x.totals.length d8))
 have L8:=Lib.hid (Cp.st0 (us:=#[.string x.title,.slice B1 x.kinds.length d1,.slice B2 x.members.length d2,.slice B3 x.preds.length d3,.slice B4 x.classes.length d4,.slice B5 x.sources.length d5,.slice B6 x.rules.length d6,.slice B7 x.excepts.length d7,.slice B8 x.totals.length d8]) K.out 8 (.slice B8 x.totals.length d8) rfl)
 obtain ⟨Y8,hY⟩:∃ Y,w8.setCell ⟨b,8,none⟩ (.slice B8 x.totals.length d8)=Y:=⟨_,rfl⟩
 have hz:Y8.heap.size=w8.heap.size:=by rw [← hY];exact World.size_setCell _ _ _
 try rw [hY]
 rw [hY] at L8 R1 R2 R3 R4 R5 R6 R7 R8
 rw [← hz] at HZ8 R8
 clear hY hz K HC y0 z0 f0 L7
 have y0:=blk_cell (v:=.string x.title) L8.out.h0 0 rfl
 have u0:=blk_cell (v:=.string ⟨#[]⟩) L8.out.h1 0 rfl
 have f0:=blk_free L8.out.h1 0
 have y1:=blk_cell (v:=.slice B1 x.kinds.length d1) L8.out.h0 1 rfl
 have u1:=blk_cell (v:=.slice none 0 0) L8.out.h1 1 rfl
 have f1:=blk_free L8.out.h1 1
 have y2:=blk_cell (v:=.slice B2 x.members.length d2) L8.out.h0 2 rfl
 have u2:=blk_cell (v:=.slice none 0 0) L8.out.h1 2 rfl
 have f2:=blk_free L8.out.h1 2
 have y3:=blk_cell (v:=.slice B3 x.preds.length d3) L8.out.h0 3 rfl
 have u3:=blk_cell (v:=.slice none 0 0) L8.out.h1 3 rfl
 have f3:=blk_free L8.out.h1 3
 have y4:=blk_cell (v:=.slice B4 x.classes.length d4) L8.out.h0 4 rfl
 have u4:=blk_cell (v:=.slice none 0 0) L8.out.h1 4 rfl
 have f4:=blk_free L8.out.h1 4
 have y5:=blk_cell (v:=.slice B5 x.sources.length d5) L8.out.h0 5 rfl
 have u5:=blk_cell (v:=.slice none 0 0) L8.out.h1 5 rfl
 have f5:=blk_free L8.out.h1 5
 have y6:=blk_cell (v:=.slice B6 x.rules.length d6) L8.out.h0 6 rfl
 have u6:=blk_cell (v:=.slice none 0 0) L8.out.h1 6 rfl
 have f6:=blk_free L8.out.h1 6
 have y7:=blk_cell (v:=.slice B7 x.excepts.length d7) L8.out.h0 7 rfl
 have u7:=blk_cell (v:=.slice none 0 0) L8.out.h1 7 rfl
 have f7:=blk_free L8.out.h1 7
 have y8:=blk_cell (v:=.slice B8 x.totals.length d8) L8.out.h0 8 rfl
 have u8:=blk_cell (v:=.slice none 0 0) L8.out.h1 8 rfl
 have f8:=blk_free L8.out.h1 8
 go_wp2_with fail
 have HE:=Lib.hid (Cp.st1 (us:=#[.string x.title,.slice B1 x.kinds.length d1,.slice B2 x.members.length d2,.slice B3 x.preds.length d3,.slice B4 x.classes.length d4,.slice B5 x.sources.length d5,.slice B6 x.rules.length d6,.slice B7 x.excepts.length d7,.slice B8 x.totals.length d8]) (Cp.st1 (us:=#[.string x.title,.slice B1 x.kinds.length d1,.slice B2 x.members.length d2,.slice B3 x.preds.length d3,.slice B4 x.classes.length d4,.slice B5 x.sources.length d5,.slice B6 x.rules.length d6,.slice B7 x.excepts.length d7,.slice none 0 0]) (Cp.st1 (us:=#[.string x.title,.slice B1 x.kinds.length d1,.slice B2 x.members.length d2,.slice B3 x.preds.length d3,.slice B4 x.classes.length d4,.slice B5 x.sources.length d5,.slice B6 x.rules.length d6,.slice none 0 0,.slice none 0 0]) (Cp.st1 (us:=#[.string x.title,.slice B1 x.kinds.length d1,.slice B2 x.members.length d2,.slice B3 x.preds.length d3,.slice B4 x.classes.length d4,.slice B5 x.sources.length d5,.slice none 0 0,.slice none 0 0,.slice none 0 0]) (Cp.st1 (us:=#[.string x.title,.slice B1 x.kinds.length d1,.slice B2 x.members.length d2,.slice B3 x.preds.length d3,.slice B4 x.classes.length d4,.slice none 0 0,.slice none 0 0,.slice none 0 0,.slice none 0 0]) (Cp.st1 (us:=#[.string x.title,.slice B1 x.kinds.length d1,.slice B2 x.members.length d2,.slice B3 x.preds.length d3,.slice none 0 0,.slice none 0 0,.slice none 0 0,.slice none 0 0,.slice none 0 0]) (Cp.st1 (us:=#[.string x.title,.slice B1 x.kinds.length d1,.slice B2 x.members.length d2,.slice none 0 0,.slice none 0 0,.slice none 0 0,.slice none 0 0,.slice none 0 0,.slice none 0 0]) (Cp.st1 (us:=#[.string x.title,.slice B1 x.kinds.length d1,.slice none 0 0,.slice none 0 0,.slice none 0 0,.slice none 0 0,.slice none 0 0,.slice none 0 0,.slice none 0 0]) (Cp.st1 (us:=#[.string x.title,.slice none 0 0,.slice none 0 0,.slice none 0 0,.slice none 0 0,.slice none 0 0,.slice none 0 0,.slice none 0 0,.slice none 0 0]) L8.out 0 (.string x.title) rfl) 1 (.slice B1 x.kinds.length d1) rfl) 2 (.slice B2 x.members.length d2) rfl) 3 (.slice B3 x.preds.length d3) rfl) 4 (.slice B4 x.classes.length d4) rfl) 5 (.slice B5 x.sources.length d5) rfl) 6 (.slice B6 x.rules.length d6) rfl) 7 (.slice B7 x.excepts.length d7) rfl) 8 (.slice B8 x.totals.length d8) rfl)
 refine bodyPost_ret (results_cell_row rfl _ _ c 32 #[.string x.title,.slice B1 x.kinds.length d1,.slice B2 x.members.length d2,.slice B3 x.preds.length d3,.slice B4 x.classes.length d4,.slice B5 x.sources.length d5,.slice B6 x.rules.length d6,.slice B7 x.excepts.length d7,.slice B8 x.totals.length d8] (0,0) _ rfl HE.out.h1 Tryz.underlying32 rfl rfl) rfl ?_
 have hz1:=HZ1.out
 have hz2:=HZ2.out
 have hz3:=HZ3.out
 have hz4:=HZ4.out
 have hz5:=HZ5.out
 have hz6:=HZ6.out
 have hz7:=HZ7.out
 have hz8:=HZ8.out
 have hn:=HN.out
 have hm:=HM.out
 refine ⟨_,rfl,⟨own8 Y1.heap.size Y2.heap.size Y3.heap.size Y4.heap.size Y5.heap.size Y6.heap.size Y7.heap.size,⟨.slice B1 x.kinds.length d1,.slice B2 x.members.length d2,.slice B3 x.preds.length d3,.slice B4 x.classes.length d4,.slice B5 x.sources.length d5,.slice B6 x.rules.length d6,.slice B7 x.excepts.length d7,.slice B8 x.totals.length d8⟩,rfl,HMM.out,?_,?_,?_,?_,?_,?_,?_,?_⟩,HE.out.hb⟩
 ·exact Kd.R_lower (Kd.R_mono (Cp.r1 (Cp.r1 (Cp.r1 (Cp.r1 (Cp.r1 (Cp.r1 (Cp.r1 (Cp.r1 (Cp.r1 R1.out (fun _ h=>h.1) 0 _) (fun _ h=>h.1) 1 _) (fun _ h=>h.1) 2 _) (fun _ h=>h.1) 3 _) (fun _ h=>h.1) 4 _) (fun _ h=>h.1) 5 _) (fun _ h=>h.1) 6 _) (fun _ h=>h.1) 7 _) (fun _ h=>h.1) 8 _) (fun k hk=>⟨by omega,by unfold own8;rw [if_pos (by omega)]⟩)) (by omega)
 ·exact Kd.R_lower (Kd.R_mono (Cp.r1 (Cp.r1 (Cp.r1 (Cp.r1 (Cp.r1 (Cp.r1 (Cp.r1 (Cp.r1 (Cp.r1 R2.out (fun _ h=>h.1) 0 _) (fun _ h=>h.1) 1 _) (fun _ h=>h.1) 2 _) (fun _ h=>h.1) 3 _) (fun _ h=>h.1) 4 _) (fun _ h=>h.1) 5 _) (fun _ h=>h.1) 6 _) (fun _ h=>h.1) 7 _) (fun _ h=>h.1) 8 _) (fun k hk=>⟨by omega,by unfold own8;rw [if_neg (by omega),if_pos (by omega)]⟩)) (by omega)
 ·exact Kd.R_lower (Kd.R_mono (Cp.r1 (Cp.r1 (Cp.r1 (Cp.r1 (Cp.r1 (Cp.r1 (Cp.r1 (Cp.r1 (Cp.r1 R3.out (fun _ h=>h.1) 0 _) (fun _ h=>h.1) 1 _) (fun _ h=>h.1) 2 _) (fun _ h=>h.1) 3 _) (fun _ h=>h.1) 4 _) (fun _ h=>h.1) 5 _) (fun _ h=>h.1) 6 _) (fun _ h=>h.1) 7 _) (fun _ h=>h.1) 8 _) (fun k hk=>⟨by omega,by unfold own8;rw [if_neg (by omega),if_neg (by omega),if_pos (by omega)]⟩)) (by omega)
 ·exact Kd.R_lower (Kd.R_mono (Cp.r1 (Cp.r1 (Cp.r1 (Cp.r1 (Cp.r1 (Cp.r1 (Cp.r1 (Cp.r1 (Cp.r1 R4.out (fun _ h=>h.1) 0 _) (fun _ h=>h.1) 1 _) (fun _ h=>h.1) 2 _) (fun _ h=>h.1) 3 _) (fun _ h=>h.1) 4 _) (fun _ h=>h.1) 5 _) (fun _ h=>h.1) 6 _) (fun _ h=>h.1) 7 _) (fun _ h=>h.1) 8 _) (fun k hk=>⟨by omega,by unfold own8;rw [if_neg (by omega),if_neg (by omega),if_neg (by omega),if_pos (by omega)]⟩)) (by omega)
 ·exact Kd.R_lower (Kd.R_mono (Cp.r1 (Cp.r1 (Cp.r1 (Cp.r1 (Cp.r1 (Cp.r1 (Cp.r1 (Cp.r1 (Cp.r1 R5.out (fun _ h=>h.1) 0 _) (fun _ h=>h.1) 1 _) (fun _ h=>h.1) 2 _) (fun _ h=>h.1) 3 _) (fun _ h=>h.1) 4 _) (fun _ h=>h.1) 5 _) (fun _ h=>h.1) 6 _) (fun _ h=>h.1) 7 _) (fun _ h=>h.1) 8 _) (fun k hk=>⟨by omega,by unfold own8;rw [if_neg (by omega),if_neg (by omega),if_neg (by omega),if_neg (by omega),if_pos (by omega)]⟩)) (by omega)
 ·exact Kd.R_lower (Kd.R_mono (Cp.r1 (Cp.r1 (Cp.r1 (Cp.r1 (Cp.r1 (Cp.r1 (Cp.r1 (Cp.r1 (Cp.r1 R6.out (fun _ h=>h.1) 0 _) (fun _ h=>h.1) 1 _) (fun _ h=>h.1) 2 _) (fun _ h=>h.1) 3 _) (fun _ h=>h.1) 4 _) (fun _ h=>h.1) 5 _) (fun _ h=>h.1) 6 _) (fun _ h=>h.1) 7 _) (fun _ h=>h.1) 8 _) (fun k hk=>⟨by omega,by unfold own8;rw [if_neg (by omega),if_neg (by omega),if_neg (by omega),if_neg (by omega),if_neg (by omega),if_pos (by omega)]⟩)) (by omega)
 ·exact Kd.R_lower (Kd.R_mono (Cp.r1 (Cp.r1 (Cp.r1 (Cp.r1 (Cp.r1 (Cp.r1 (Cp.r1 (Cp.r1 (Cp.r1 R7.out (fun _ h=>h.1) 0 _) (fun _ h=>h.1) 1 _) (fun _ h=>h.1) 2 _) (fun _ h=>h.1) 3 _) (fun _ h=>h.1) 4 _) (fun _ h=>h.1) 5 _) (fun _ h=>h.1) 6 _) (fun _ h=>h.1) 7 _) (fun _ h=>h.1) 8 _) (fun k hk=>⟨by omega,by unfold own8;rw [if_neg (by omega),if_neg (by omega),if_neg (by omega),if_neg (by omega),if_neg (by omega),if_neg (by omega),if_pos (by omega)]⟩)) (by omega)
 ·exact Kd.R_lower (Kd.R_mono (Cp.r1 (Cp.r1 (Cp.r1 (Cp.r1 (Cp.r1 (Cp.r1 (Cp.r1 (Cp.r1 (Cp.r1 R8.out (fun _ h=>h.1) 0 _) (fun _ h=>h.1) 1 _) (fun _ h=>h.1) 2 _) (fun _ h=>h.1) 3 _) (fun _ h=>h.1) 4 _) (fun _ h=>h.1) 5 _) (fun _ h=>h.1) 6 _) (fun _ h=>h.1) 7 _) (fun _ h=>h.1) 8 _) (fun k hk=>⟨by omega,by unfold own8;rw [if_neg (by omega),if_neg (by omega),if_neg (by omega),if_neg (by omega),if_neg (by omega),if_neg (by omega),if_neg (by omega)]⟩)) (by omega)
end Go.Proofs.YtcakgennlliejaaGreatDoor
