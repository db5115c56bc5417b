import Derived.Test.YtcakgennlliejaaGreatDoorSynK11
import Derived.Test.YtcakgennlliejaaGreatDoorSynK12
import Derived.Test.YtcakgennlliejaaGreatDoorSynK13
set_option maxHeartbeats 8000000
set_option maxRecDepth 100000
namespace Go.Proofs.YtcakgennlliejaaGreatDoor
open Go.Shelf Go.RowKit Go.Lib
open Go.Proofs.YtcakgennlliejaaGreatDoorW.PrintWords
open Go.Proofs.YtcakgennlliejaaGreatDoor.PSyntaxJoined
open Sx
set_option linter.unusedVariables false
set_option linter.unusedSimpArgs false
set_option maxRecDepth 100000 in
theorem blank_enters:∀ args w,(callFunc 76 args).run Tryz.prog w=.ok (.enter 76 args) w:=Go.Proofs.enters_of (f:=76) rfl rfl rfl
set_option maxRecDepth 100000 in
theorem nx1_enters:∀ args w,(callFunc 77 args).run Tryz.prog w=.ok (.enter 77 args) w:=Go.Proofs.enters_of (f:=77) rfl rfl rfl
set_option maxRecDepth 100000 in
theorem nx2_enters:∀ args w,(callFunc 80 args).run Tryz.prog w=.ok (.enter 80 args) w:=Go.Proofs.enters_of (f:=80) rfl rfl rfl
set_option maxRecDepth 100000 in
theorem number_enters:∀ args w,(callFunc 82 args).run Tryz.prog w=.ok (.enter 82 args) w:=Go.Proofs.enters_of (f:=82) rfl rfl rfl
set_option maxRecDepth 100000 in
theorem quote_enters:∀ args w,(callFunc 83 args).run Tryz.prog w=.ok (.enter 83 args) w:=Go.Proofs.enters_of (f:=83) rfl rfl rfl
set_option maxRecDepth 100000 in
theorem remark_enters:∀ args w,(callFunc 84 args).run Tryz.prog w=.ok (.enter 84 args) w:=Go.Proofs.enters_of (f:=84) rfl rfl rfl
set_option maxRecDepth 100000 in
theorem lmark_enters:∀ args w,(callFunc 85 args).run Tryz.prog w=.ok (.enter 85 args) w:=Go.Proofs.enters_of (f:=85) rfl rfl rfl
set_option maxRecDepth 100000 in
theorem inName_enters:∀ args w,(callFunc 79 args).run Tryz.prog w=.ok (.enter 79 args) w:=Go.Proofs.enters_of (f:=79) rfl rfl rfl
set_option maxRecDepth 100000 in
theorem inVar_enters:∀ args w,(callFunc 81 args).run Tryz.prog w=.ok (.enter 81 args) w:=Go.Proofs.enters_of (f:=81) rfl rfl rfl
theorem nx1_calls (sb b:Nat) (s:ByteArray) (p:Nat) (l:List S48) (rm:List ByteArray) (er pl:Int) (tv rv:Value) (hp:p<s.size) (hg:isNm (cls (s[p]'hp).toNat)=true) (w:World) (h:Sn w sb s p l rm er pl tv rv) (hb:w.cell? ⟨b,0,none⟩=some (.pointer (some ⟨sb,0,none⟩))) :
  Calls Tryz.prog 77 #[.pointer (some ⟨b,0,none⟩)] w (Dn (wordS 1 isNm (tl s p) p) sb s p l rm er pl w):=by
 have HC:=Lib.hid (word_calls isNm 79 inName_enters rfl inName_calls sb s p l rm er pl tv rv 1 hp hg w h)
 obtain ⟨st,hst⟩:∃ st,wordS 1 isNm (tl s p) p=st:=⟨_,rfl⟩
 rw [hst] at HC ⊢
 clear h hst
 go_enter Tryz.func77,Tryz.ntmps77
 go_wp2_with (first | (go_at_call 78;((with_reducible refine HC.out.mono ?_);rintro e w8 ⟨tv8,rv8,rfl,hs8,hk8⟩)))
 go_ret
 exact ⟨_,_,rfl,hs8,hk8⟩
theorem nx2_calls (sb b:Nat) (s:ByteArray) (p:Nat) (l:List S48) (rm:List ByteArray) (er pl:Int) (tv rv:Value) (hp:p<s.size) (hg:isVr (cls (s[p]'hp).toNat)=true) (w:World) (h:Sn w sb s p l rm er pl tv rv) (hb:w.cell? ⟨b,0,none⟩=some (.pointer (some ⟨sb,0,none⟩))) :
  Calls Tryz.prog 80 #[.pointer (some ⟨b,0,none⟩)] w (Dn (wordS 2 isVr (tl s p) p) sb s p l rm er pl w):=by
 have HC:=Lib.hid (word_calls isVr 81 inVar_enters rfl inVar_calls sb s p l rm er pl tv rv 2 hp hg w h)
 obtain ⟨st,hst⟩:∃ st,wordS 2 isVr (tl s p) p=st:=⟨_,rfl⟩
 rw [hst] at HC ⊢
 clear h hst
 go_enter Tryz.func80,Tryz.ntmps80
 go_wp2_with (first | (go_at_call 78;((with_reducible refine HC.out.mono ?_);rintro e w8 ⟨tv8,rv8,rfl,hs8,hk8⟩)))
 go_ret
 exact ⟨_,_,rfl,hs8,hk8⟩
def Sx.NxA (K:FuncId) (st:Stp) (sb:Nat) (s:ByteArray) (p:Nat) (l:List S48) (rm:List ByteArray) (er pl:Int) (w:World) (e:Ending) (w':World):Prop :=
 e=.returned (.func (.func K) #[.pointer (some ⟨sb,0,none⟩)] #[])∧Below w.heap.size w w'∧Calls Tryz.prog K #[.pointer (some ⟨sb,0,none⟩)] w' (Dn st sb s p l rm er pl w')
def Sx.NxB (K:FuncId) (st:Stp) (sb:Nat) (s:ByteArray) (p:Nat) (l:List S48) (rm:List ByteArray) (er pl:Int) (w:World) (e:Ending) (w':World):Prop :=
 e=.returned (.func (.func K) #[] #[.pointer (some ⟨w.heap.size,0,none⟩)])∧Below w.heap.size w w'∧Calls Tryz.prog K #[.pointer (some ⟨w.heap.size,0,none⟩)] w' (Dn st sb s p l rm er pl w')
theorem lnext_calls (sb:Nat) (s:ByteArray) (p:Nat) (l:List S48) (rm:List ByteArray) (er pl:Int) (tv rv:Value) (hp:p<s.size) (w:World) (h:Sn w sb s p l rm er pl tv rv) (hgl:∃ m,w.cell? ⟨0,0,none⟩=some (.int .i64 m)) :
  (∃ K,(∀ args w,(callFunc K args).run Tryz.prog w=.ok (.enter K args) w)∧Calls Tryz.prog 52 #[.pointer (some ⟨sb,0,none⟩)] w (NxA K (Sx.step (tl s p) p) sb s p l rm er pl w)) ∨
  (∃ K,(∀ args w,(callFunc K args).run Tryz.prog w=.ok (.enter K args) w)∧Calls Tryz.prog 52 #[.pointer (some ⟨sb,0,none⟩)] w (NxB K (Sx.step (tl s p) p) sb s p l rm er pl w)):=by
 have hst:Sx.step (tl s p) p=Sx.step (s[p]'hp::tl s (p+1)) p:=by rw [← tl_cons hp]
 rw [Sx.step_cons,← tl_cons hp] at hst
 have HS:=Lib.hid h
 have HGL:=Lib.hid hgl
 obtain ⟨X,hX⟩:∃ X,w.alloc (.cells #[.pointer (some ⟨sb,0,none⟩)] 105)=X:=⟨_,rfl⟩
 have HBX:=Lib.hid (show Below w.heap.size w X by rw [← hX];exact (Below.refl _ w).alloc (Nat.le_refl _) _)
 have HBB:=Lib.hid (show X.heap[w.heap.size]?=some (.cells #[.pointer (some ⟨sb,0,none⟩)] 105 (0,0)) by rw [← hX];exact heap_alloc_new w _)
 have HSX:=Lib.hid (HS.out.below HBX.out)
 have HX:=Lib.hid hX
 have b1:(0:Int)≤(p:Int):=by omega
 have b2:(p:Int)<(s.size:Int):=by omega
 have xb:=blk_cell (v:=.pointer (some ⟨sb,0,none⟩)) HBB.out 0 rfl
 have xs:=blk_cell (v:=.string s) HSX.out.blk 0 rfl
 have xp:=blk_cell (v:=.int .i64 p) HSX.out.blk 1 rfl
 clear h hgl hX
 by_cases h1:cls (s[p]'hp).toNat=1
 ·skip
  have HST:=Lib.hid (show Sx.step (tl s p) p=.go (p+1) by rw [hst];rw [if_pos h1])
  have t1:(cls (s[p]'hp).toNat==1)=true:=by simp only [beq_iff_eq];first | exact h1 | omega
  clear h1
  clear hst
  refine .inl ⟨76,blank_enters,?_⟩
  go_enter Tryz.func52,Tryz.ntmps52
  go_upto_region 1 with (fail)
  try rw [HX.out]
  go_quiet ((go_at_call 75;exact Calls.quiet_of_same ((classOf_calls _ _).mono (fun (e:Ending) (w2:World) hh=>⟨hh.1,hh.2.symm⟩))))
  obtain ⟨Y,hY⟩:∃ Y,X.drewN nq=Y:=⟨_,rfl⟩
  have HBY:=Lib.hid (show Below w.heap.size w Y by rw [← hY];exact below_drewn HBX.out _)
  have HBC:=Lib.hid (show Y.heap[w.heap.size]?=some (.cells #[.pointer (some ⟨sb,0,none⟩)] 105 (0,0)) by rw [← hY];exact HBB.out)
  try rw [hY]
  clear hY xb xs xp
  have HSY:=Lib.hid (HS.out.below HBY.out)
  have yb:=blk_cell (v:=.pointer (some ⟨sb,0,none⟩)) HBC.out 0 rfl
  have hmf:∀ (fn:Fn) (first cap:Array Value) (w:World),(Instr.makeFunc fn first cap).run Tryz.prog w=.ok (.func fn first cap) w:=fun _ _ _ _=>rfl
  go_wp2_with fail
  go_ret
  rw [HST.out]
  exact ⟨rfl,HBY.out,(blank_calls sb s p l rm er pl _ _ hp Y HSY.out).mono fun e w9 hh=>⟨_,_,hh.1,hh.2.1,hh.2.2⟩⟩
 by_cases h2:cls (s[p]'hp).toNat=2
 ·skip
  have HST:=Lib.hid (show Sx.step (tl s p) p=wordS 1 isNm (tl s p) p by rw [hst];rw [if_neg h1,if_pos h2])
  have t1:(cls (s[p]'hp).toNat==1)=false:=by simp only [beq_eq_false_iff_ne,ne_eq];first | exact h1 | omega
  have t2:(cls (s[p]'hp).toNat==2)=true:=by simp only [beq_iff_eq];first | exact h2 | omega
  have HG:=Lib.hid (show isNm (cls (s[p]'hp).toNat)=true by rw [h2];rfl)
  clear h1 h2
  clear hst
  refine .inr ⟨77,nx1_enters,?_⟩
  go_enter Tryz.func52,Tryz.ntmps52
  go_upto_region 1 with (fail)
  try rw [HX.out]
  go_quiet ((go_at_call 75;exact Calls.quiet_of_same ((classOf_calls _ _).mono (fun (e:Ending) (w2:World) hh=>⟨hh.1,hh.2.symm⟩))))
  obtain ⟨Y,hY⟩:∃ Y,X.drewN nq=Y:=⟨_,rfl⟩
  have HBY:=Lib.hid (show Below w.heap.size w Y by rw [← hY];exact below_drewn HBX.out _)
  have HBC:=Lib.hid (show Y.heap[w.heap.size]?=some (.cells #[.pointer (some ⟨sb,0,none⟩)] 105 (0,0)) by rw [← hY];exact HBB.out)
  try rw [hY]
  clear hY xb xs xp
  have HSY:=Lib.hid (HS.out.below HBY.out)
  have yb:=blk_cell (v:=.pointer (some ⟨sb,0,none⟩)) HBC.out 0 rfl
  have hmf:∀ (fn:Fn) (first cap:Array Value) (w:World),(Instr.makeFunc fn first cap).run Tryz.prog w=.ok (.func fn first cap) w:=fun _ _ _ _=>rfl
  go_wp2_with fail
  go_ret
  rw [HST.out]
  exact ⟨rfl,HBY.out,nx1_calls sb _ s p l rm er pl _ _ hp HG.out Y HSY.out yb⟩
 by_cases h3:cls (s[p]'hp).toNat=3
 ·skip
  have HST:=Lib.hid (show Sx.step (tl s p) p=wordS 2 isVr (tl s p) p by rw [hst];rw [if_neg h1,if_neg h2,if_pos h3])
  have t1:(cls (s[p]'hp).toNat==1)=false:=by simp only [beq_eq_false_iff_ne,ne_eq];first | exact h1 | omega
  have t2:(cls (s[p]'hp).toNat==2)=false:=by simp only [beq_eq_false_iff_ne,ne_eq];first | exact h2 | omega
  have t3:(cls (s[p]'hp).toNat==3)=true:=by simp only [beq_iff_eq];first | exact h3 | omega
  have HG:=Lib.hid (show isVr (cls (s[p]'hp).toNat)=true by rw [h3];rfl)
  clear h1 h2 h3
  clear hst
  refine .inr ⟨80,nx2_enters,?_⟩
  go_enter Tryz.func52,Tryz.ntmps52
  go_upto_region 1 with (fail)
  try rw [HX.out]
  go_quiet ((go_at_call 75;exact Calls.quiet_of_same ((classOf_calls _ _).mono (fun (e:Ending) (w2:World) hh=>⟨hh.1,hh.2.symm⟩))))
  obtain ⟨Y,hY⟩:∃ Y,X.drewN nq=Y:=⟨_,rfl⟩
  have HBY:=Lib.hid (show Below w.heap.size w Y by rw [← hY];exact below_drewn HBX.out _)
  have HBC:=Lib.hid (show Y.heap[w.heap.size]?=some (.cells #[.pointer (some ⟨sb,0,none⟩)] 105 (0,0)) by rw [← hY];exact HBB.out)
  try rw [hY]
  clear hY xb xs xp
  have HSY:=Lib.hid (HS.out.below HBY.out)
  have yb:=blk_cell (v:=.pointer (some ⟨sb,0,none⟩)) HBC.out 0 rfl
  have hmf:∀ (fn:Fn) (first cap:Array Value) (w:World),(Instr.makeFunc fn first cap).run Tryz.prog w=.ok (.func fn first cap) w:=fun _ _ _ _=>rfl
  go_wp2_with fail
  go_ret
  rw [HST.out]
  exact ⟨rfl,HBY.out,nx2_calls sb _ s p l rm er pl _ _ hp HG.out Y HSY.out yb⟩
 by_cases h4:cls (s[p]'hp).toNat=4
 ·skip
  have HST:=Lib.hid (show Sx.step (tl s p) p=numberS (tl s p) p by rw [hst];rw [if_neg h1,if_neg h2,if_neg h3,if_pos h4])
  have t1:(cls (s[p]'hp).toNat==1)=false:=by simp only [beq_eq_false_iff_ne,ne_eq];first | exact h1 | omega
  have t2:(cls (s[p]'hp).toNat==2)=false:=by simp only [beq_eq_false_iff_ne,ne_eq];first | exact h2 | omega
  have t3:(cls (s[p]'hp).toNat==3)=false:=by simp only [beq_eq_false_iff_ne,ne_eq];first | exact h3 | omega
  have t4:(cls (s[p]'hp).toNat==4)=true:=by simp only [beq_iff_eq];first | exact h4 | omega
  have HG:=Lib.hid (show isDig (cls (s[p]'hp).toNat)=true by rw [h4];rfl)
  clear h1 h2 h3 h4
  clear hst
  refine .inl ⟨82,number_enters,?_⟩
  go_enter Tryz.func52,Tryz.ntmps52
  go_upto_region 1 with (fail)
  try rw [HX.out]
  go_quiet ((go_at_call 75;exact Calls.quiet_of_same ((classOf_calls _ _).mono (fun (e:Ending) (w2:World) hh=>⟨hh.1,hh.2.symm⟩))))
  obtain ⟨Y,hY⟩:∃ Y,X.drewN nq=Y:=⟨_,rfl⟩
  have HBY:=Lib.hid (show Below w.heap.size w Y by rw [← hY];exact below_drewn HBX.out _)
  have HBC:=Lib.hid (show Y.heap[w.heap.size]?=some (.cells #[.pointer (some ⟨sb,0,none⟩)] 105 (0,0)) by rw [← hY];exact HBB.out)
  try rw [hY]
  clear hY xb xs xp
  have HSY:=Lib.hid (HS.out.below HBY.out)
  have yb:=blk_cell (v:=.pointer (some ⟨sb,0,none⟩)) HBC.out 0 rfl
  have hmf:∀ (fn:Fn) (first cap:Array Value) (w:World),(Instr.makeFunc fn first cap).run Tryz.prog w=.ok (.func fn first cap) w:=fun _ _ _ _=>rfl
  go_wp2_with fail
  go_ret
  rw [HST.out]
  exact ⟨rfl,HBY.out,number_calls sb s p l rm er pl _ _ hp HG.out Y HSY.out⟩
 cases h5:(s[p]'hp==(34:UInt8))
 ·cases h6:(s[p]'hp==(35:UInt8))
  ·skip
   have HST:=Lib.hid (show Sx.step (tl s p) p=markS (tl s p) p by rw [hst];rw [if_neg h1,if_neg h2,if_neg h3,if_neg h4,h5,if_neg (by decide),h6,if_neg (by decide)])
   have t1:(cls (s[p]'hp).toNat==1)=false:=by simp only [beq_eq_false_iff_ne,ne_eq];first | exact h1 | omega
   have t2:(cls (s[p]'hp).toNat==2)=false:=by simp only [beq_eq_false_iff_ne,ne_eq];first | exact h2 | omega
   have t3:(cls (s[p]'hp).toNat==3)=false:=by simp only [beq_eq_false_iff_ne,ne_eq];first | exact h3 | omega
   have t4:(cls (s[p]'hp).toNat==4)=false:=by simp only [beq_eq_false_iff_ne,ne_eq];first | exact h4 | omega
   have i34:(((s[p]'hp).toNat:Int)==34)=false:=by
    have g1:s[p]'hp≠34:=by simpa using h5
    simp only [beq_eq_false_iff_ne,ne_eq];intro g2;exact g1 (UInt8.toNat_inj.1 (by show (s[p]'hp).toNat=34;omega))
   have i35:(((s[p]'hp).toNat:Int)==35)=false:=by
    have g1:s[p]'hp≠35:=by simpa using h6
    simp only [beq_eq_false_iff_ne,ne_eq];intro g2;exact g1 (UInt8.toNat_inj.1 (by show (s[p]'hp).toNat=35;omega))
   clear h1 h2 h3 h4 h5 h6
   clear hst
   refine .inl ⟨85,lmark_enters,?_⟩
   go_enter Tryz.func52,Tryz.ntmps52
   go_upto_region 1 with (fail)
   try rw [HX.out]
   go_quiet ((go_at_call 75;exact Calls.quiet_of_same ((classOf_calls _ _).mono (fun (e:Ending) (w2:World) hh=>⟨hh.1,hh.2.symm⟩))))
   obtain ⟨Y,hY⟩:∃ Y,X.drewN nq=Y:=⟨_,rfl⟩
   have HBY:=Lib.hid (show Below w.heap.size w Y by rw [← hY];exact below_drewn HBX.out _)
   have HBC:=Lib.hid (show Y.heap[w.heap.size]?=some (.cells #[.pointer (some ⟨sb,0,none⟩)] 105 (0,0)) by rw [← hY];exact HBB.out)
   try rw [hY]
   clear hY xb xs xp
   have HSY:=Lib.hid (HS.out.below HBY.out)
   have yb:=blk_cell (v:=.pointer (some ⟨sb,0,none⟩)) HBC.out 0 rfl
   have ys:=blk_cell (v:=.string s) HSY.out.blk 0 rfl
   have yp:=blk_cell (v:=.int .i64 p) HSY.out.blk 1 rfl
   go_upto_region 10 with (fail)
   go_quiet (fail)
   obtain ⟨Z,hZ⟩:∃ Z,Y.drewN nq=Z:=⟨_,rfl⟩
   have HBZ:=Lib.hid (show Below w.heap.size w Z by rw [← hZ];exact below_drewn HBY.out _)
   have HZC:=Lib.hid (show Z.heap[w.heap.size]?=some (.cells #[.pointer (some ⟨sb,0,none⟩)] 105 (0,0)) by rw [← hZ];exact HBC.out)
   try rw [hZ]
   clear hZ yb ys yp
   have HSZ:=Lib.hid (HS.out.below HBZ.out)
   have zb:=blk_cell (v:=.pointer (some ⟨sb,0,none⟩)) HZC.out 0 rfl
   have hmf:∀ (fn:Fn) (first cap:Array Value) (w:World),(Instr.makeFunc fn first cap).run Tryz.prog w=.ok (.func fn first cap) w:=fun _ _ _ _=>rfl
   go_wp2_with fail
   go_ret
   rw [HST.out]
   exact ⟨rfl,HBZ.out,lmark_calls sb s p l rm er pl _ _ hp Z HSZ.out⟩
  ·skip
   have HST:=Lib.hid (show Sx.step (tl s p) p=remarkS (tl s (p+1)) p by rw [hst];rw [if_neg h1,if_neg h2,if_neg h3,if_neg h4,h5,if_neg (by decide),h6,if_pos rfl])
   have t1:(cls (s[p]'hp).toNat==1)=false:=by simp only [beq_eq_false_iff_ne,ne_eq];first | exact h1 | omega
   have t2:(cls (s[p]'hp).toNat==2)=false:=by simp only [beq_eq_false_iff_ne,ne_eq];first | exact h2 | omega
   have t3:(cls (s[p]'hp).toNat==3)=false:=by simp only [beq_eq_false_iff_ne,ne_eq];first | exact h3 | omega
   have t4:(cls (s[p]'hp).toNat==4)=false:=by simp only [beq_eq_false_iff_ne,ne_eq];first | exact h4 | omega
   have i34:(((s[p]'hp).toNat:Int)==34)=false:=by
    have g1:s[p]'hp≠34:=by simpa using h5
    simp only [beq_eq_false_iff_ne,ne_eq];intro g2;exact g1 (UInt8.toNat_inj.1 (by show (s[p]'hp).toNat=34;omega))
   have i35:(((s[p]'hp).toNat:Int)==35)=true:=by
    have g1:s[p]'hp=35:=by simpa using h6
    rw [g1];rfl
   clear h1 h2 h3 h4 h5 h6
   clear hst
   refine .inl ⟨84,remark_enters,?_⟩
   go_enter Tryz.func52,Tryz.ntmps52
   go_upto_region 1 with (fail)
   try rw [HX.out]
   go_quiet ((go_at_call 75;exact Calls.quiet_of_same ((classOf_calls _ _).mono (fun (e:Ending) (w2:World) hh=>⟨hh.1,hh.2.symm⟩))))
   obtain ⟨Y,hY⟩:∃ Y,X.drewN nq=Y:=⟨_,rfl⟩
   have HBY:=Lib.hid (show Below w.heap.size w Y by rw [← hY];exact below_drewn HBX.out _)
   have HBC:=Lib.hid (show Y.heap[w.heap.size]?=some (.cells #[.pointer (some ⟨sb,0,none⟩)] 105 (0,0)) by rw [← hY];exact HBB.out)
   try rw [hY]
   clear hY xb xs xp
   have HSY:=Lib.hid (HS.out.below HBY.out)
   have yb:=blk_cell (v:=.pointer (some ⟨sb,0,none⟩)) HBC.out 0 rfl
   have ys:=blk_cell (v:=.string s) HSY.out.blk 0 rfl
   have yp:=blk_cell (v:=.int .i64 p) HSY.out.blk 1 rfl
   go_upto_region 10 with (fail)
   go_quiet (fail)
   obtain ⟨Z,hZ⟩:∃ Z,Y.drewN nq=Z:=⟨_,rfl⟩
   have HBZ:=Lib.hid (show Below w.heap.size w Z by rw [← hZ];exact below_drewn HBY.out _)
   have HZC:=Lib.hid (show Z.heap[w.heap.size]?=some (.cells #[.pointer (some ⟨sb,0,none⟩)] 105 (0,0)) by rw [← hZ];exact HBC.out)
   try rw [hZ]
   clear hZ yb ys yp
   have HSZ:=Lib.hid (HS.out.below HBZ.out)
   have zb:=blk_cell (v:=.pointer (some ⟨sb,0,none⟩)) HZC.out 0 rfl
   have hmf:∀ (fn:Fn) (first cap:Array Value) (w:World),(Instr.makeFunc fn first cap).run Tryz.prog w=.ok (.func fn first cap) w:=fun _ _ _ _=>rfl
   go_wp2_with fail
   go_ret
   rw [HST.out]
   exact ⟨rfl,HBZ.out,remark_calls sb s p l rm er pl _ _ hp Z HSZ.out (HGL.out.imp fun m hm=>keep_cell hm HBZ.out)⟩
 ·skip
  have HST:=Lib.hid (show Sx.step (tl s p) p=quoteS (tl s (p+1)) p by rw [hst];rw [if_neg h1,if_neg h2,if_neg h3,if_neg h4,h5,if_pos rfl])
  have t1:(cls (s[p]'hp).toNat==1)=false:=by simp only [beq_eq_false_iff_ne,ne_eq];first | exact h1 | omega
  have t2:(cls (s[p]'hp).toNat==2)=false:=by simp only [beq_eq_false_iff_ne,ne_eq];first | exact h2 | omega
  have t3:(cls (s[p]'hp).toNat==3)=false:=by simp only [beq_eq_false_iff_ne,ne_eq];first | exact h3 | omega
  have t4:(cls (s[p]'hp).toNat==4)=false:=by simp only [beq_eq_false_iff_ne,ne_eq];first | exact h4 | omega
  have i34:(((s[p]'hp).toNat:Int)==34)=true:=by
   have g1:s[p]'hp=34:=by simpa using h5
   rw [g1];rfl
  clear h1 h2 h3 h4 h5
  clear hst
  refine .inl ⟨83,quote_enters,?_⟩
  go_enter Tryz.func52,Tryz.ntmps52
  go_upto_region 1 with (fail)
  try rw [HX.out]
  go_quiet ((go_at_call 75;exact Calls.quiet_of_same ((classOf_calls _ _).mono (fun (e:Ending) (w2:World) hh=>⟨hh.1,hh.2.symm⟩))))
  obtain ⟨Y,hY⟩:∃ Y,X.drewN nq=Y:=⟨_,rfl⟩
  have HBY:=Lib.hid (show Below w.heap.size w Y by rw [← hY];exact below_drewn HBX.out _)
  have HBC:=Lib.hid (show Y.heap[w.heap.size]?=some (.cells #[.pointer (some ⟨sb,0,none⟩)] 105 (0,0)) by rw [← hY];exact HBB.out)
  try rw [hY]
  clear hY xb xs xp
  have HSY:=Lib.hid (HS.out.below HBY.out)
  have yb:=blk_cell (v:=.pointer (some ⟨sb,0,none⟩)) HBC.out 0 rfl
  have ys:=blk_cell (v:=.string s) HSY.out.blk 0 rfl
  have yp:=blk_cell (v:=.int .i64 p) HSY.out.blk 1 rfl
  go_upto_region 10 with (fail)
  go_quiet (fail)
  obtain ⟨Z,hZ⟩:∃ Z,Y.drewN nq=Z:=⟨_,rfl⟩
  have HBZ:=Lib.hid (show Below w.heap.size w Z by rw [← hZ];exact below_drewn HBY.out _)
  have HZC:=Lib.hid (show Z.heap[w.heap.size]?=some (.cells #[.pointer (some ⟨sb,0,none⟩)] 105 (0,0)) by rw [← hZ];exact HBC.out)
  try rw [hZ]
  clear hZ yb ys yp
  have HSZ:=Lib.hid (HS.out.below HBZ.out)
  have zb:=blk_cell (v:=.pointer (some ⟨sb,0,none⟩)) HZC.out 0 rfl
  have hmf:∀ (fn:Fn) (first cap:Array Value) (w:World),(Instr.makeFunc fn first cap).run Tryz.prog w=.ok (.func fn first cap) w:=fun _ _ _ _=>rfl
  go_wp2_with fail
  go_ret
  rw [HST.out]
  exact ⟨rfl,HBZ.out,quote_calls sb s p l rm er pl _ _ hp Z HSZ.out⟩
theorem info_pd:(Tryz.prog.info? 85).map (fun i=>(i.zero,i.size,i.bytes))=some (some (.agg #[.string ⟨#[]⟩,.int .i64 0,.slice none 0 0,.slice none 0 0]),4,72):=by kernel_rfl
theorem pred_calls (V:Env) (sort:Int) (p SB:Nat) (own:Nat→Nat) (s:Stt) (v:Vs) (w:World) (h:Rd w V p) (lo:Lo V SB) (hs:StB w SB own s v):Calls Tryz.prog 58 #[.pointer (some ⟨V.rb,0,none⟩),.pointer (some ⟨SB,0,none⟩),.int .i64 sort] w (PostS V SB w ((V.pred s.preds.length sort p).bnd fun x q=>.ok { s with preds:=s.preds++[x] } q)):=by
 have hmf:∀ (fn:Fn) (first cap:Array Value) (w:World),(Instr.makeFunc fn first cap).run Tryz.prog w=.ok (.func fn first cap) w:=fun _ _ _ _=>rfl
 obtain ⟨x1,x2,x3,x4,x5,x6,x7,x8⟩:=v
 have e0:=Kd.R_slice hs.r3
 dsimp only at e0
 obtain ⟨A0,c0,rfl⟩:=e0
 obtain ⟨F,hFF⟩:∃ F,((V.pred s.preds.length sort p).bnd fun x q=>.ok { s with preds:=s.preds++[x] } q:Res Stt)=F:=⟨_,rfl⟩
 have hF0:=hFF.symm
 rw [hFF]
 unfold Env.pred at hF0
 have HF0:=Lib.hid hF0
 clear hFF hF0
 have HA0:=Lib.hid (show Bs w w V p p SB own s ⟨x1,x2,.slice A0 s.preds.length c0,x4,x5,x6,x7,x8⟩ from ⟨h,lo,hs,h,Keep.refl _ _⟩)
 clear h lo hs
 go_enter Tryz.func58,Tryz.ntmps58
 have hF1:=HF0.out
 unfold Env.room at hF1
 by_cases hrm:(256:Int)≤(s.preds.length:Int)
 ·rw [if_pos hrm] at hF1
  dsimp only [Res.bnd,Env.stop] at hF1
  have HF1:=Lib.hid hF1
  clear hF1 HF0
  have HC1:=Lib.hid (room_bad V p (s.preds.length:Int) 256 w HA0.out.rd hrm)
  clear hrm
  have yl:=blk_cell (v:=(.slice A0 s.preds.length c0)) HA0.out.blk 3 rfl
  go_wp2_with (first | (go_at_call 55;refine HC1.out.mono ?_;rintro e w2 ⟨rfl,hk2⟩))
  refine ⟨rfl,?_⟩
  rw [HF1.out]
  exact ⟨rfl,Sx.Keep.toS (HA0.out.keep.trans hk2 (fun _ _ h=>h))⟩
 ·rw [if_neg hrm] at hF1
  dsimp only [Res.bnd] at hF1
  have HF1:=Lib.hid hF1
  clear hF1 HF0
  have HRM:=Lib.hid hrm
  have HC1:=Lib.hid (room_ok V p (s.preds.length:Int) 256 w (by have:=HRM.out;omega))
  clear hrm
  have yl:=blk_cell (v:=(.slice A0 s.preds.length c0)) HA0.out.blk 3 rfl
  go_upto_region 1 with (first | (go_at_call 55;refine HC1.out.mono ?_;rintro e w2 ⟨rfl,rfl⟩))
  clear yl HC1
  have HK2:=Lib.hid (fun w1 h1=>name_calls V p w1 h1)
  have hF2:=HF1.out
  generalize hr2:V.name p=r2 at hF2 HK2
  cases r2 with
  | bad er a =>
   dsimp only [Res.bnd] at hF2
   have HF2:=Lib.hid hF2
   clear hF2 HF1 hr2
   go_wp2_with (first | (go_at_call 56;refine (HK2.out w HA0.out.rd).mono ?_;rintro e w2 ⟨rfl,hk2⟩))
   refine ⟨rfl,?_⟩
   rw [HF2.out]
   exact ⟨rfl,Sx.Keep.toS (HA0.out.keep.trans hk2 (fun _ _ h=>h))⟩
  | ok nm q1 =>
   dsimp only [Res.bnd] at hF2
   have HF2:=Lib.hid hF2
   clear hF2 HF1 hr2
   go_upto_region 2 with (first | (go_at_call 56;refine (HK2.out w HA0.out.rd).mono ?_;rintro e w2 ⟨x,rfl,rfl,hr2,hk2⟩;have HC2_0:=Lib.hid (HA0.out.call hr2 hk2)))
   have HD2_0:=Lib.hid (HC2_0.out.alloc (Obj.cells #[(.string nm),(.int .i64 sort),(.slice none 0 0),(.slice none 0 0)] 85))
   have HD2_1:=Lib.hid (Bx.new HA0.out.h0 hr2 HC2_0.out.keep 85 #[(.string nm),(.int .i64 sort),(.slice none 0 0),(.slice none 0 0)])
   obtain ⟨B,hB⟩:∃ B,w2.heap.size=B:=⟨_,rfl⟩
   have HNB:=Lib.hid (show SB≠B by
    rw [← hB]
    have h0:=World.block_lt_of_cell? _ _ (blk_cell (v:=(.string s.title)) HC2_0.out.blk 0 rfl)
    simp only at h0;omega)
   obtain ⟨X2,hX⟩:∃ X,w2.alloc (Obj.cells #[(.string nm),(.int .i64 sort),(.slice none 0 0),(.slice none 0 0)] 85)=X:=⟨_,rfl⟩
   rw [hX] at HD2_0
   rw [hX,hB] at HD2_1
   try rw [hX,hB]
   clear hX hr2 hk2 HK2 hB HA0 HC2_0 
   have HK3:=Lib.hid (fun w1 h1=>brackets_calls V V.name 56 name_enters (name_calls V) q1 w1 h1)
   have hF3:=HF2.out
   generalize hr3:V.brackets V.name q1=r3 at hF3 HK3
   cases r3 with
   | bad er a =>
    dsimp only [Res.bnd] at hF3
    have HF3:=Lib.hid hF3
    clear hF3 HF2 hr3
    go_wp2_with (first | (go_at_call 87;refine (HK3.out X2 HD2_0.out.rd).mono ?_;rintro e w2 ⟨rfl,hk2⟩))
    refine ⟨rfl,?_⟩
    rw [HF3.out]
    exact ⟨rfl,Sx.Keep.toS (HD2_0.out.keep.trans hk2 (fun _ _ h=>h))⟩
   | ok ks q2 =>
    dsimp only [Res.bnd] at hF3
    have HF3:=Lib.hid hF3
    clear hF3 HF2 hr3
    go_upto_region 3 with (first | (go_at_call 87;refine (HK3.out X2 HD2_0.out.rd).mono ?_;rintro e w2 ⟨x,rfl,hx,hr2,hk2⟩;have HC3_0:=Lib.hid (HD2_0.out.call hr2 hk2);have HC3_1:=Lib.hid (HD2_1.out.call hr2 hk2);obtain ⟨A3,c3,rfl⟩:=Kd.R_slice hx;have y2:=blk_cell (v:=(.slice none 0 0)) HC3_1.out.blk 2 rfl;have f2:=blk_free HC3_1.out.blk 2))
    clear y2 f2
    obtain ⟨s3,hs3⟩:∃ s,X2.heap.size=s:=⟨_,rfl⟩
    rw [hs3] at hx
    have HS3:=Lib.hid (show SB<s3∧B<s3∧V.rb<s3 by
     have h0:=World.block_lt_of_cell? _ _ (blk_cell (v:=(.string s.title)) HD2_0.out.blk 0 rfl)
     have h1:=World.block_lt_of_cell? _ _ (blk_cell (v:=(.string nm)) HD2_1.out.blk 0 rfl)
     have h9:=World.block_lt_of_cell? _ _ HD2_0.out.rd.pos
     simp only at h0 h1 h9;omega)
    clear hs3
    have HXn3:=Lib.hid (show Kd.R Kd.string 9 (w2.setCell ⟨B,2,none⟩ (.slice A3 ks.length c3)) s3 (fun k=>s3≤k) (.slice A3 ks.length c3) ks from (Kd.R_far hx (p:=⟨B,2,none⟩) (fun k hk=>by have:=HS3.out;(try simp only);omega) (.slice A3 ks.length c3)))
    clear hx
    have HD3_0:=Lib.hid (show Bs w (w2.setCell ⟨B,2,none⟩ (.slice A3 ks.length c3)) V p q2 SB own s ⟨x1,x2,.slice A0 s.preds.length c0,x4,x5,x6,x7,x8⟩ from HC3_0.out.far HC3_1.out.ge (by have:=HNB.out;omega) 2 (.slice A3 ks.length c3))
    have HD3_1:=Lib.hid (show Bx w (w2.setCell ⟨B,2,none⟩ (.slice A3 ks.length c3)) V p q2 B 85 #[(.string nm),(.int .i64 sort),(.slice A3 ks.length c3),(.slice none 0 0)] from HC3_1.out.set 2 (.slice A3 ks.length c3))
    clear hr2 hk2 HK3 HD2_0 HD2_1 HC3_0 HC3_1 
    have HX3:=HXn3
    clear HXn3
    generalize (w2.setCell ⟨B,2,none⟩ (.slice A3 ks.length c3))=X3 at *
    have hF4:=HF3.out
    by_cases hso:sort=3
    ·subst hso
     rw [if_pos (by decide)] at hF4
     try dsimp only [Res.bnd] at hF4
     have HF4:=Lib.hid hF4
     clear hF4 HF3
     have HGE:=Lib.hid (show w.heap.size≤B from HD3_1.out.ge)
     go_upto_region 4 with (fail)
     have HK5:=Lib.hid (fun w1 h1=>must_calls V q2 6 ⟨#[58]⟩ w1 h1 (by decide))
     have hF5:=HF4.out
     generalize hr5:V.must 6 ⟨#[58]⟩ q2=r5 at hF5 HK5
     cases r5 with
     | bad er a =>
      dsimp only [Res.bnd] at hF5
      have HF5:=Lib.hid hF5
      clear hF5 HF4 hr5
      go_wp2_with (first | (go_at_call 41;refine (HK5.out X3 HD3_0.out.rd).mono ?_;rintro e w2 ⟨rfl,hk2⟩))
      refine ⟨rfl,?_⟩
      rw [HF5.out]
      exact ⟨rfl,Sx.Keep.toS (HD3_0.out.keep.trans hk2 (fun _ _ h=>h))⟩
     | ok _ q3 =>
      dsimp only [Res.bnd] at hF5
      have HF5:=Lib.hid hF5
      clear hF5 HF4 hr5
      go_upto_region 5 with (first | (go_at_call 41;refine (HK5.out X3 HD3_0.out.rd).mono ?_;rintro e X5 ⟨x,rfl,rfl,hr2,hk2⟩;have HC5_0:=Lib.hid (HD3_0.out.call hr2 hk2);have HC5_1:=Lib.hid (HD3_1.out.call hr2 hk2)))
      have HXn3:=Lib.hid (show Kd.R Kd.string 9 X5 s3 (fun k=>s3≤k) (.slice A3 ks.length c3) ks from (Kd.R_step HX3.out (fun i hi hlt=>hk2.block i hlt (fun e=>by have:=HS3.out;unfold ours at e;omega))))
      have HD5_0:=Lib.hid (show Bs w X5 V p q3 SB own s ⟨x1,x2,.slice A0 s.preds.length c0,x4,x5,x6,x7,x8⟩ from HC5_0.out)
      have HD5_1:=Lib.hid (show Bx w X5 V p q3 B 85 #[(.string nm),(.int .i64 3),(.slice A3 ks.length c3),(.slice none 0 0)] from HC5_1.out)
      clear hr2 hk2 HK5 HD3_0 HD3_1 HC5_0 HC5_1 HX3
      have HX3:=HXn3
      clear HXn3
      have HK6:=Lib.hid (fun w1 h1=>list_money_calls V V.money 89 money_enters (money_calls V) 0 64 (by decide) (by decide) q3 w1 h1)
      have hF6:=HF5.out
      generalize hr6:V.list V.money 0 64 q3=r6 at hF6 HK6
      cases r6 with
      | bad er a =>
       dsimp only [Res.bnd] at hF6
       have HF6:=Lib.hid hF6
       clear hF6 HF5 hr6
       go_wp2_with (first | (go_at_call 88;refine (HK6.out X5 HD5_0.out.rd).mono ?_;rintro e w2 ⟨rfl,hk2⟩))
       refine ⟨rfl,?_⟩
       rw [HF6.out]
       exact ⟨rfl,Sx.Keep.toS (HD5_0.out.keep.trans hk2 (fun _ _ h=>h))⟩
      | ok vs q4 =>
       dsimp only [Res.bnd] at hF6
       have HF6:=Lib.hid hF6
       clear hF6 HF5 hr6
       go_upto_region 6 with (first | (go_at_call 88;refine (HK6.out X5 HD5_0.out.rd).mono ?_;rintro e w2 ⟨x,rfl,hx,hr2,hk2⟩;have HC6_0:=Lib.hid (HD5_0.out.call hr2 hk2);have HC6_1:=Lib.hid (HD5_1.out.call hr2 hk2);obtain ⟨A6,c6,rfl⟩:=Kd.R_slice hx;have y3:=blk_cell (v:=(.slice none 0 0)) HC6_1.out.blk 3 rfl;have f3:=blk_free HC6_1.out.blk 3))
       clear y3 f3
       obtain ⟨s6,hs6⟩:∃ s,X5.heap.size=s:=⟨_,rfl⟩
       rw [hs6] at hx
       have HS6:=Lib.hid (show SB<s6∧B<s6∧V.rb<s6 by
        have h0:=World.block_lt_of_cell? _ _ (blk_cell (v:=(.string s.title)) HD5_0.out.blk 0 rfl)
        have h1:=World.block_lt_of_cell? _ _ (blk_cell (v:=(.string nm)) HD5_1.out.blk 0 rfl)
        have h9:=World.block_lt_of_cell? _ _ HD5_0.out.rd.pos
        simp only at h0 h1 h9;omega)
       clear hs6
       have HXn3:=Lib.hid (show Kd.R Kd.string 9 (w2.setCell ⟨B,3,none⟩ (.slice A6 vs.length c6)) s3 (fun k=>s3≤k) (.slice A3 ks.length c3) ks from (Kd.R_far (Kd.R_step HX3.out (fun i hi hlt=>hk2.block i hlt (fun e=>by have:=HS3.out;unfold ours at e;omega))) (p:=⟨B,3,none⟩) (fun k hk=>by have:=HS3.out;(try simp only);omega) (.slice A6 vs.length c6)))
       have HXn6:=Lib.hid (show Kd.R (Kd.int .i64) 86 (w2.setCell ⟨B,3,none⟩ (.slice A6 vs.length c6)) s6 (fun k=>s6≤k) (.slice A6 vs.length c6) vs from (Kd.R_far hx (p:=⟨B,3,none⟩) (fun k hk=>by have:=HS6.out;(try simp only);omega) (.slice A6 vs.length c6)))
       clear hx
       have HD6_0:=Lib.hid (show Bs w (w2.setCell ⟨B,3,none⟩ (.slice A6 vs.length c6)) V p q4 SB own s ⟨x1,x2,.slice A0 s.preds.length c0,x4,x5,x6,x7,x8⟩ from HC6_0.out.far HC6_1.out.ge (by have:=HNB.out;omega) 3 (.slice A6 vs.length c6))
       have HD6_1:=Lib.hid (show Bx w (w2.setCell ⟨B,3,none⟩ (.slice A6 vs.length c6)) V p q4 B 85 #[(.string nm),(.int .i64 3),(.slice A3 ks.length c3),(.slice A6 vs.length c6)] from HC6_1.out.set 3 (.slice A6 vs.length c6))
       clear hr2 hk2 HK6 HD5_0 HD5_1 HC6_0 HC6_1 HX3
       have HX3:=HXn3
       clear HXn3
       have HX6:=HXn6
       clear HXn6
       generalize (w2.setCell ⟨B,3,none⟩ (.slice A6 vs.length c6))=X6 at *
       have HW:=Lib.hid HD6_0.out.drew
       have ys:=blk_cell (v:=(.slice A0 s.preds.length c0)) HW.out.blk 3 rfl
       have ysa:∀ o,(X6.drew.alloc o).cell? ⟨SB,3,none⟩=some (.slice A0 s.preds.length c0):=fun o=>blk_cell (v:=(.slice A0 s.preds.length c0)) (HW.out.alloc o).blk 3 rfl
       have ysb:∀ o,(X6.alloc o).cell? ⟨SB,3,none⟩=some (.slice A0 s.preds.length c0):=fun o=>blk_cell (v:=(.slice A0 s.preds.length c0)) (HD6_0.out.alloc o).blk 3 rfl
       have yb0:X6.drew.cell? ⟨B,0,none⟩=some (.string nm):=blk_cell (v:=(.string nm)) HD6_1.out.blk 0 rfl
       have yb1:X6.drew.cell? ⟨B,1,none⟩=some (.int .i64 3):=blk_cell (v:=(.int .i64 3)) HD6_1.out.blk 1 rfl
       have yb2:X6.drew.cell? ⟨B,2,none⟩=some (.slice A3 ks.length c3):=blk_cell (v:=(.slice A3 ks.length c3)) HD6_1.out.blk 2 rfl
       have yb3:X6.drew.cell? ⟨B,3,none⟩=some (.slice A6 vs.length c6):=blk_cell (v:=(.slice A6 vs.length c6)) HD6_1.out.blk 3 rfl
       have HMM:=Lib.hid (show k85.M X6.drew (SB+1) (fun k=>w.heap.size≤k) ⟨nm,3,ks,vs⟩ [(.string nm),(.int .i64 3),(.slice A3 ks.length c3),(.slice A6 vs.length c6)] from k85_mkM _ _ _ (⟨nm,3,ks,vs⟩:S85) (Kd.R_lower (Kd.R_mono HX3.out (ok':=fun k=>w.heap.size≤k) (fun k hk=>by have:=HS3.out;have:=HW.out.lt;have:=HGE.out;omega)) (base':=SB+1) (by have:=HS3.out;omega)) (Kd.R_lower (Kd.R_mono HX6.out (ok':=fun k=>w.heap.size≤k) (fun k hk=>by have:=HS6.out;have:=HW.out.lt;have:=HGE.out;omega)) (base':=SB+1) (by have:=HS6.out;omega)))
       go_region_law (refine Kd.R_append_step k85 (w0:=X6.drew) (SB+1) (by rfl) (.tmp 36) (.tmp 38) 25 85 (.agg #[.string ⟨#[]⟩,.int .i64 0,.slice none 0 0,.slice none 0 0]) 72 rfl Tryz.underlying25 info_pd rfl (by decide) (by decide) (.slice A0 s.preds.length c0) s.preds ⟨nm,3,ks,vs⟩ [(.string nm),(.int .i64 3),(.slice A3 ks.length c3),(.slice A6 vs.length c6)] (okf SB w.heap.size own 3) (fun k=>w.heap.size≤k) rfl rfl HMM.out (HW.out.okn HW.out.st.r3) (HW.out.fresh 3) (HW.out.row HW.out.st.r3) (Below.refl _ _) HW.out.base (by have h1:=HRM.out;omega) ?_;intro v3 w3 hs3 hb3 hg3 hat3;obtain ⟨A9,c9,rfl⟩:=Kd.R_slice hs3;rw [List.length_append,List.length_singleton] at hs3;have hbk3:=(hb3.block SB (Nat.lt_succ_self _)).trans HW.out.blk;have y3:=blk_cell (v:=(.slice A0 s.preds.length c0)) hbk3 3 rfl;have f3:=blk_free hbk3 3)
       all_goals
        go_wp2_with fail
        go_end0
        rw [HF6.out]
        exact ⟨rfl,HW.out.fin3 hs3 hb3 hg3⟩
    ·have eso:(sort==3)=false:=by simpa using hso
     rw [eso] at hF4
     simp only [Bool.false_eq_true,if_false] at hF4
     try dsimp only [Res.bnd] at hF4
     have HF4:=Lib.hid hF4
     clear hF4 HF3
     have HGE:=Lib.hid (show w.heap.size≤B from HD3_1.out.ge)
     go_upto_region 6 with (fail)
     have HW:=Lib.hid HD3_0.out.drew
     have ys:=blk_cell (v:=(.slice A0 s.preds.length c0)) HW.out.blk 3 rfl
     have ysa:∀ o,(X3.drew.alloc o).cell? ⟨SB,3,none⟩=some (.slice A0 s.preds.length c0):=fun o=>blk_cell (v:=(.slice A0 s.preds.length c0)) (HW.out.alloc o).blk 3 rfl
     have ysb:∀ o,(X3.alloc o).cell? ⟨SB,3,none⟩=some (.slice A0 s.preds.length c0):=fun o=>blk_cell (v:=(.slice A0 s.preds.length c0)) (HD3_0.out.alloc o).blk 3 rfl
     have yb0:X3.drew.cell? ⟨B,0,none⟩=some (.string nm):=blk_cell (v:=(.string nm)) HD3_1.out.blk 0 rfl
     have yb1:X3.drew.cell? ⟨B,1,none⟩=some (.int .i64 sort):=blk_cell (v:=(.int .i64 sort)) HD3_1.out.blk 1 rfl
     have yb2:X3.drew.cell? ⟨B,2,none⟩=some (.slice A3 ks.length c3):=blk_cell (v:=(.slice A3 ks.length c3)) HD3_1.out.blk 2 rfl
     have yb3:X3.drew.cell? ⟨B,3,none⟩=some (.slice none 0 0):=blk_cell (v:=(.slice none 0 0)) HD3_1.out.blk 3 rfl
     have HMM:=Lib.hid (show k85.M X3.drew (SB+1) (fun k=>w.heap.size≤k) ⟨nm,sort,ks,[]⟩ [(.string nm),(.int .i64 sort),(.slice A3 ks.length c3),(.slice none 0 0)] from k85_mkM _ _ _ (⟨nm,sort,ks,[]⟩:S85) (Kd.R_lower (Kd.R_mono HX3.out (ok':=fun k=>w.heap.size≤k) (fun k hk=>by have:=HS3.out;have:=HW.out.lt;have:=HGE.out;omega)) (base':=SB+1) (by have:=HS3.out;omega)) (Kd.R_nil _ _ _ _ _))
     go_region_law (refine Kd.R_append_step k85 (w0:=X3.drew) (SB+1) (by rfl) (.tmp 36) (.tmp 38) 25 85 (.agg #[.string ⟨#[]⟩,.int .i64 0,.slice none 0 0,.slice none 0 0]) 72 rfl Tryz.underlying25 info_pd rfl (by decide) (by decide) (.slice A0 s.preds.length c0) s.preds ⟨nm,sort,ks,[]⟩ [(.string nm),(.int .i64 sort),(.slice A3 ks.length c3),(.slice none 0 0)] (okf SB w.heap.size own 3) (fun k=>w.heap.size≤k) rfl rfl HMM.out (HW.out.okn HW.out.st.r3) (HW.out.fresh 3) (HW.out.row HW.out.st.r3) (Below.refl _ _) HW.out.base (by have h1:=HRM.out;omega) ?_;intro v3 w3 hs3 hb3 hg3 hat3;obtain ⟨A9,c9,rfl⟩:=Kd.R_slice hs3;rw [List.length_append,List.length_singleton] at hs3;have hbk3:=(hb3.block SB (Nat.lt_succ_self _)).trans HW.out.blk;have y3:=blk_cell (v:=(.slice A0 s.preds.length c0)) hbk3 3 rfl;have f3:=blk_free hbk3 3)
     all_goals
      go_wp2_with fail
      go_end0
      rw [HF4.out]
      exact ⟨rfl,HW.out.fin3 hs3 hb3 hg3⟩
end Go.Proofs.YtcakgennlliejaaGreatDoor
