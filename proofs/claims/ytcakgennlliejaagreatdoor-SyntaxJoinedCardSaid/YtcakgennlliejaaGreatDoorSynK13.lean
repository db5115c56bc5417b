import Derived.Shelf.Strings.IndexAnyAll
import Derived.Shelf.Small.Utf8
import Derived.Lib.OthersKept
import Derived.Laws.RangeAny
import Derived.Lib.Hide
import Derived.Below
import Derived.Deep.QuietTactic
import Derived.BigQuiet
import Derived.Deep.Cut
import Derived.Deep.DeepBigQuietO
import Derived.Deep.RegionHeldLaw
import Derived.Test.YtcakgennlliejaaGreatDoorSynK12
set_option maxHeartbeats 8000000
set_option maxRecDepth 100000
namespace Go.Proofs.YtcakgennlliejaaGreatDoor
open Go.Proofs Go.Shelf Go.RowKit Go.Lib Go.BigFrame
set_option linter.unusedVariables false
set_option linter.unusedSimpArgs false
namespace Sx
theorem encode_high (r:Int) (h0:128≤r):(Utf8.encode r).size=3∨(Utf8.encode r).size=4∨∃ a b:UInt8,Utf8.encode r=⟨#[a,b]⟩∧128≤b.toNat:=by
 unfold Utf8.encode
 have hc:∀ c:Nat,128≤c→(let b (n:Nat):UInt8:=UInt8.ofNat n
   if c<0x80 then (⟨#[b c]⟩:ByteArray)
   else if c<0x800 then ⟨#[b (0xC0+c / 64),b (0x80+c % 64)]⟩
   else if c<0x10000 then ⟨#[b (0xE0+c / 4096),b (0x80+c / 64 % 64),b (0x80+c % 64)]⟩
   else ⟨#[b (0xF0+c / 262144),b (0x80+c / 4096 % 64),b (0x80+c / 64 % 64),b (0x80+c % 64)]⟩).size=3∨(let b (n:Nat):UInt8:=UInt8.ofNat n
   if c<0x80 then (⟨#[b c]⟩:ByteArray)
   else if c<0x800 then ⟨#[b (0xC0+c / 64),b (0x80+c % 64)]⟩
   else if c<0x10000 then ⟨#[b (0xE0+c / 4096),b (0x80+c / 64 % 64),b (0x80+c % 64)]⟩
   else ⟨#[b (0xF0+c / 262144),b (0x80+c / 4096 % 64),b (0x80+c / 64 % 64),b (0x80+c % 64)]⟩).size=4∨∃ a2 b2:UInt8,(let b (n:Nat):UInt8:=UInt8.ofNat n
   if c<0x80 then (⟨#[b c]⟩:ByteArray)
   else if c<0x800 then ⟨#[b (0xC0+c / 64),b (0x80+c % 64)]⟩
   else if c<0x10000 then ⟨#[b (0xE0+c / 4096),b (0x80+c / 64 % 64),b (0x80+c % 64)]⟩
   else ⟨#[b (0xF0+c / 262144),b (0x80+c / 4096 % 64),b (0x80+c / 64 % 64),b (0x80+c % 64)]⟩)=⟨#[a2,b2]⟩∧128≤b2.toNat:=by
  intro c h
  dsimp only
  rw [if_neg (by omega)]
  by_cases h2:c<0x800
  ·rw [if_pos h2]
   exact .inr (.inr ⟨_,_,rfl,by rw [UInt8.toNat_ofNat'];omega⟩)
  ·rw [if_neg h2]
   by_cases h3:c<0x10000
   ·rw [if_pos h3];exact .inl rfl
   ·rw [if_neg h3];exact .inr (.inl rfl)
 refine hc _ ?_
 split
 ·omega
 ·decide
theorem iterPos_of {w:World} {k p:Nat} {s:ByteArray} (h:w.heap[k]?=some (.stringIter s p)):w.iterPos k=p:=by
 unfold World.iterPos;rw [h]
theorem get_at (s:ByteArray) (j:Nat) (hj:j<s.size):s.get! j=s[j]'hj:=by
 show s.data[j]! = _
 rw [getElem!_pos s.data j hj]
 rfl
theorem decode_far (s:ByteArray) (i:Nat) (h:i<s.size) (hb:128≤(s[i]'h).toNat):∀ j,i≤j→j<i+(Utf8.decode s i).2→∃ hj:j<s.size,128≤(s[j]'hj).toNat:=by
 have one:∀ j,i≤j→j<i+1→∃ hj:j<s.size,128≤(s[j]'hj).toNat:=fun j h1 h2=>by
  obtain rfl:j=i:=by omega
  exact ⟨h,hb⟩
 have cont:∀ k,(decide (i+k<s.size)&&((s.get! (i+k)).toNat / 64==2))=true→∃ hj:i+k<s.size,128≤(s[i+k]'hj).toNat:=fun k hk=>by
  rw [Bool.and_eq_true,decide_eq_true_eq,beq_iff_eq] at hk
  refine ⟨hk.1,?_⟩
  rw [← get_at s _ hk.1]
  omega
 unfold Utf8.decode
 dsimp only
 split
 ·exact one
 split
 ·rename_i h2
  rw [Bool.and_eq_true] at h2
  split
  ·intro j h3 h4
   have h5:j=i∨j=i+1:=by omega
   rcases h5 with rfl | rfl
   ·exact ⟨h,hb⟩
   ·exact cont 1 h2.2
  ·exact one
 split
 ·rename_i h2
  rw [Bool.and_eq_true,Bool.and_eq_true] at h2
  split
  ·intro j h3 h4
   have h5:j=i∨j=i+1∨j=i+2:=by omega
   rcases h5 with rfl | rfl | rfl
   ·exact ⟨h,hb⟩
   ·exact cont 1 h2.1.2
   ·exact cont 2 h2.2
  ·exact one
 split
 ·rename_i h2
  rw [Bool.and_eq_true,Bool.and_eq_true,Bool.and_eq_true] at h2
  split
  ·intro j h3 h4
   have h5:j=i∨j=i+1∨j=i+2∨j=i+3:=by omega
   rcases h5 with rfl | rfl | rfl | rfl
   ·exact ⟨h,hb⟩
   ·exact cont 1 h2.1.1.2
   ·exact cont 2 h2.1.2
   ·exact cont 3 h2.2
  ·exact one
 ·exact one
theorem noAny_far {s:ByteArray} {i k:Nat} (hn:Lib.NoAny s.data.toList [34,10] i) (hf:∀ j,i≤j→j<i+k→∃ hj:j<s.size,128≤(s[j]'hj).toNat):Lib.NoAny s.data.toList [34,10] (i+k):=fun j b hj hb=>by
 by_cases hlt:j<i
 ·exact hn j b hlt hb
 ·obtain ⟨h1,h2⟩:=hf j (by omega) hj
  have h3:s.data.toList[j]?=some (s[j]'h1):=Lib.data_getElem? s j h1
  rw [h3] at hb
  injection hb with hb
  rw [hb] at h2
  have h4:b≠34:=fun e=>by rw [e] at h2;revert h2;decide
  have h5:b≠10:=fun e=>by rw [e] at h2;revert h2;decide
  simp [h4,h5]
end Sx
variable {P:Program} {ρ:Ren}
theorem bel_drewn {B:Nat} {w w1:World} (h:Below B w w1) (n:Nat):Below B w (w1.drewN n):=⟨h.os,h.tape,h.output,h.size,h.block⟩
set_option maxHeartbeats 4000000 in
set_option maxRecDepth 1000000 in
theorem rune_quote (L:Lays.n152 P ρ) (r:Int) (w:World) (h0:128≤r) (h1:r≤2147483647) :
  Calls P (ρ.f 152) #[.string ⟨#[34,10]⟩,.int .i32 r] w fun e w'=>e=.returned (.int .i64 (-1))∧Below w.heap.size w w':=by
 have mixed:=L.mixed
 have t3:=L.t3;have a3:=L.a3;have z3:=L.z3;have v3:=L.v3
 have t4:=L.t4;have a4:=L.a4;have z4:=L.z4;have v4:=L.v4
 have t5:=L.t5;have a5:=L.a5;have z5:=L.z5;have v5:=L.v5
 have t9:=L.t9;have a9:=L.a9;have z9:=L.z9;have v9:=L.v9
 have t21:=L.t21;have a21:=L.a21;have z21:=L.z21;have v21:=L.v21
 have e137:∀ args w,(callFunc (ρ.f 137) args).run P w=.ok (.enter (ρ.f 137) args) w:=enters_of L.f137 (by kernel_rfl) rfl
 have e119:∀ args w,(callFunc (ρ.f 119) args).run P w=.ok (.enter (ρ.f 119) args) w:=enters_of L.f119 (by kernel_rfl) rfl
 by_cases hr:r=65533
 ·subst hr
  have hn0:=fun ty=>run_next_ascii (P:=P) w ⟨#[34,10]⟩ 0 ty (by decide) (by decide)
  have hn1:=fun ty=>run_next_ascii (P:=P) w ⟨#[34,10]⟩ 1 ty (by decide) (by decide)
  have hn2:=fun ty=>run_next_end (P:=P) w ⟨#[34,10]⟩ 2 ty (by decide)
  go_enter L.f152,Body.n152_ntmps ρ
  go_wp2_with fail
  go_loopw [] (fun wr=>∃ i,wr=w.iter ⟨#[34,10]⟩ i∧i≤2) (fun wr=>2-World.iterPos wr w.heap.size)
  case atStart=>exact ⟨0,rfl,by omega⟩
  case round =>
   obtain ⟨i,rfl,hi⟩:=hrel
   have hc:i=0∨i=1∨i=2:=by omega
   rcases hc with rfl | rfl | rfl
   ·clear hn1 hn2
    go_wp2_with fail
    go_roundw
    case rel=>exact ⟨1,rfl,by omega⟩
    case measure=>(rw [World.iterPos_iter,World.iterPos_iter];omega)
   ·clear hn0 hn2
    go_wp2_with fail
    go_roundw
    case rel=>exact ⟨2,rfl,by omega⟩
    case measure=>(rw [World.iterPos_iter,World.iterPos_iter];omega)
   ·clear hn1 hn0
    go_wp2_with fail
    go_ret
    exact ⟨rfl,(Below.refl _ w).alloc (Nat.le_refl _) _⟩
 ·have hre:(r==65533)=false:=beq_eq_false_iff_ne.2 hr
  have hcv:(convert (ρ.t 21) (ρ.t 9) (.int .i32 r)).run P w=.ok (.string (Utf8.encode r)) w:=by simp [convert,go_sem,run_underlying t21,run_underlying t9,Conv.intToString]
  have hE:=Sx.encode_high r h0
  generalize Utf8.encode r=E at hcv hE
  rcases hE with hE | hE | ⟨a,b,rfl,hE⟩
  ·have e1:(E.size:Int)=3:=by omega
   go_enter L.f152,Body.n152_ntmps ρ
   go_wp2_with (go_at_fn (ρ.f 119);refine (Any.utf8_ValidRune { L with } _ _).mono ?_;rintro e w' ⟨rfl,hw⟩;rw [hw])
   ·go_ret
    exact ⟨rfl,Below.refl _ _⟩
   ·go_step3
    go_wp2_with fail
    go_loop [9] (fun u9=>u9=.int .i64 2) (fun _=>0)
    case atStart=>rfl
    case round =>
     subst hrel
     go_wp2_with fail
     go_ret
     exact ⟨rfl,Below.refl _ _⟩
  ·have e1:(E.size:Int)=4:=by omega
   go_enter L.f152,Body.n152_ntmps ρ
   go_wp2_with (go_at_fn (ρ.f 119);refine (Any.utf8_ValidRune { L with } _ _).mono ?_;rintro e w' ⟨rfl,hw⟩;rw [hw])
   ·go_ret
    exact ⟨rfl,Below.refl _ _⟩
   ·go_step3
    go_wp2_with fail
    go_loop [9] (fun u9=>u9=.int .i64 3) (fun _=>0)
    case atStart=>rfl
    case round =>
     subst hrel
     go_wp2_with fail
     go_ret
     exact ⟨rfl,Below.refl _ _⟩
  ·have hIB:∀ (c:Int) (w:World),Calls P (ρ.f 137) #[.string ByteArray.empty,.int .u8 c] w fun e w'=>e=.returned (.int .i64 (-1))∧w'=w:=fun c w=>Any.strings_IndexByte { L with } ByteArray.empty c w
   have hv:((((⟨#[34,10]⟩:ByteArray)[1]'(by decide)).toNat:Int) != (((⟨#[a,b]⟩:ByteArray)[1]'(Nat.lt_succ_self 1)).toNat:Int))=true:=by
    show (((10:Nat):Int) != (b.toNat:Int))=true
    simp only [bne_iff_ne,ne_eq];omega
   go_enter L.f152,Body.n152_ntmps ρ
   go_wp2_with (go_at_fn (ρ.f 119);refine (Any.utf8_ValidRune { L with } _ _).mono ?_;rintro e w' ⟨rfl,hw⟩;rw [hw])
   ·go_ret
    exact ⟨rfl,Below.refl _ _⟩
   ·go_step3
    go_wp2_with fail
    go_loopw [9] (fun u9 wr=>u9=.int .i64 1∧wr=w) (fun _ _=>0)
    case atStart=>first | rfl | exact ⟨rfl,rfl⟩
    case round =>
     obtain ⟨rfl,rfl⟩:=hrel
     go_upto_region 6 with (fail)
     go_step3
     go_upto_region 6 with (fail)
     go_big_quiet_o (fail)
     go_upto_region 7 with (fail)
     obtain ⟨w3,hw3⟩:∃ X,wr.drewN nq=X:=⟨_,rfl⟩
     rw [hw3]
     have HW3:=Lib.hid hw3
     clear hw3
     go_big_quiet_o ((go_at_fn (ρ.f 137);exact Calls.quiet_of_same (hIB _ _)))
     go_wp2_with fail
     rw [Exit.noGoto_ret]
     simp +zetaDelta only [Exit.noGoto_ret,Exit.inBlock,Exit.then]
     go_ret
     exact ⟨rfl,by rw [← HW3.out];repeat (first | exact Below.refl _ _ | refine bel_drewn ?_ _)⟩
set_option maxHeartbeats 8000000 in
set_option maxRecDepth 1000000 in
theorem quote_short (L:Lays.n153 P ρ) (s:ByteArray) (w:World) (h8:s.size≤8) :
  Calls P (ρ.f 153) #[.string s,.string ⟨#[34,10]⟩] w fun e w'=>e=.returned (.int .i64 (Lib.indexAny s.data.toList [34,10]))∧Below w.heap.size w w':=by
 have h8z:decide ((8:Int)<(s.size:Int))=false:=decide_eq_false (by omega)
 have t3:=L.t3;have a3:=L.a3;have z3:=L.z3;have v3:=L.v3
 have t4:=L.t4;have a4:=L.a4;have z4:=L.z4;have v4:=L.v4
 have t5:=L.t5;have a5:=L.a5;have z5:=L.z5;have v5:=L.v5
 have t9:=L.t9;have a9:=L.a9;have z9:=L.z9;have v9:=L.v9
 have t21:=L.t21;have a21:=L.a21;have z21:=L.z21;have v21:=L.v21
 have e152:∀ args w,(callFunc (ρ.f 152) args).run P w=.ok (.enter (ρ.f 152) args) w:=enters_of L.f152 (by kernel_rfl) rfl
 have e226:∀ args w,(callFunc (ρ.f 226) args).run P w=.ok (.enter (ρ.f 226) args) w:=enters_of L.f226 (by kernel_rfl) rfl
 go_enter L.f153,Body.n153_ntmps ρ
 go_wp2_with (go_at_fn (ρ.f 226);refine (Any.strings_shouldUseASCIISet { L with } _ _).mono ?_;rintro e w' ⟨rfl,hw⟩;rw [hw,h8z])
 go_loopw [9,10] (fun _ _ wx=>∃ i:Nat,i≤s.size∧wx.heap[w.heap.size]?=some (.stringIter s i)∧Below w.heap.size w wx∧Lib.NoAny s.data.toList [34,10] i) (fun _ _ wx=>s.size-World.iterPos wx w.heap.size)
 case atStart=>exact ⟨0,by omega,World.iter_heap w s 0,(Below.refl _ w).alloc (Nat.le_refl _) _,Lib.NoAny.zero _ _⟩
 case round =>
  obtain ⟨i,hi,hit,hbw,hno⟩:=hrel
  have HN:=Lib.hid hno
  have HB:=Lib.hid hbw
  have HI:=Lib.hid hit
  have hkw:w.heap.size<wr.heap.size:=(Array.getElem?_eq_some_iff.1 hit).1
  have HKW:=Lib.hid hkw
  by_cases hlt:i<s.size
  ·have HBI:∀ p,RowKit.Hid (Below w.heap.size w (wr.iterAt w.heap.size s p)):=fun p=>Lib.hid ⟨HB.out.os,HB.out.tape,HB.out.output,by rw [Lib.iterAt_size];exact HB.out.size,fun j hj=>by rw [Lib.iterAt_other _ _ _ _ _ (by omega)];exact HB.out.block j hj⟩
   have HII:∀ p,RowKit.Hid ((wr.iterAt w.heap.size s p).heap[w.heap.size]?=some (.stringIter s p)):=fun p=>Lib.hid (Lib.iterAt_heap wr w.heap.size s i p hit)
   obtain ⟨x,hx⟩:∃ x:UInt8,s[i]'hlt=x:=⟨_,rfl⟩
   by_cases hx128:x.toNat<128
   ·have hnx:=fun ty=>Lib.run_next_ascii_at (P:=P) wr w.heap.size s i ty hit hlt (by rw [hx];exact hx128)
    rw [hx] at hnx
    have Hx:=Lib.hid (show s.data.toList[i]?=some x by rw [← hx];exact Lib.data_getElem? s i hlt)
    have hcon:=Lib.contains_iff_indexByte [34,10] x
    have hback:((x.toNat:Int)).toNat.toUInt8=x:=by simp
    have hc1:(0:Int)≤(x.toNat:Int):=by omega
    have hc2:(x.toNat:Int)<128:=by omega
    clear hx hit hbw hno
    cases hin:([34,10]:List UInt8).contains x
    ·rw [hin] at hcon
     have hlt0:¬ ((0:Int)≤Lib.indexByte [34,10] x):=of_decide_eq_false hcon.symm
     have HIN:=Lib.hid hin
     clear hcon hin
     go_wp2_with (go_at_fn (ρ.f 152);refine (Any.strings_IndexRune_ascii { L with } _ _ _ hc1 hc2).mono ?_;rintro e w' ⟨rfl,hw⟩;rw [hw,hback])
     go_roundw
     case rel=>exact ⟨i+1,hlt,(HII _).out,(HBI _).out,HN.out.succ Hx.out HIN.out⟩
     case measure =>
      rw [Sx.iterPos_of (HII _).out,Sx.iterPos_of HI.out];omega
    ·rw [hin] at hcon
     have hge:(0:Int)≤Lib.indexByte [34,10] x:=of_decide_eq_true hcon.symm
     have HIN:=Lib.hid hin
     clear hcon hin
     go_wp2_with (go_at_fn (ρ.f 152);refine (Any.strings_IndexRune_ascii { L with } _ _ _ hc1 hc2).mono ?_;rintro e w' ⟨rfl,hw⟩;rw [hw,hback])
     go_ret
     exact ⟨by rw [Lib.indexAny_hit HN.out Hx.out HIN.out];rfl,(HBI _).out⟩
   ·have hnx:=fun ty=>Lib.run_next_any_at (P:=P) wr w.heap.size s i ty hit hlt
    have hd:=decode_high s i hlt (by rw [hx];omega)
    have hd2:=decode_le s i
    have HF:=Lib.hid (Sx.noAny_far hno (Sx.decode_far s i hlt (by rw [hx];omega)))
    have HLE:=Lib.hid (show i+(Utf8.decode s i).2≤s.size from by
     have h1:=Sx.decode_far s i hlt (by rw [hx];omega) (i+(Utf8.decode s i).2-1) (by omega) (by omega)
     obtain ⟨h2,_⟩:=h1
     omega)
    generalize Utf8.decode s i=d at *
    obtain ⟨r,n⟩:=d
    have hr1:(128:Int)≤(r:Int):=by have:=hd.1;simp only at this;omega
    have hr2:(r:Int)≤2147483647:=by simp only at hd2;omega
    have HN1:=Lib.hid (show 1≤n from hd.2)
    clear hx hit hbw hno hd hd2
    dsimp only at HF HLE hnx
    go_wp2_with (go_at_fn (ρ.f 152);refine (rune_quote { L with } _ _ hr1 hr2).mono ?_;rintro e w' ⟨rfl,hw⟩)
    go_roundw
    case rel => 
     exact ⟨i+n,HLE.out,(hw.block w.heap.size (by rw [Lib.iterAt_size];exact HKW.out)).trans (HII _).out,(HBI _).out.trans (hw.mono (HBI _).out.size),HF.out⟩
    case measure =>
     rw [Sx.iterPos_of ((hw.block w.heap.size (by rw [Lib.iterAt_size];exact HKW.out)).trans (HII _).out),Sx.iterPos_of HI.out]
     have:=HN1.out
     omega
  ·have hnx:=fun ty=>Lib.run_next_end_at (P:=P) wr w.heap.size s i ty hit hlt
   have HE:=Lib.hid (show i=s.size by omega)
   clear hit hbw hno
   go_wp2_with fail
   go_ret
   exact ⟨by rw [Lib.indexAny_none (by rw [← Lib.size_eq,← HE.out];exact HN.out)];rfl,HB.out⟩
theorem quote_any (L:Lays.n153 P ρ) (h116:(P.info? (ρ.t 116)).map (fun i=>(i.zero,i.size))=some (some (.agg (Array.replicate 256 (.bool false))),256)) (s:ByteArray) (w:World) (hs:s.size<4294967281) :
  Calls P (ρ.f 153) #[.string s,.string ⟨#[34,10]⟩] w fun e w'=>e=.returned (.int .i64 (Lib.indexAny s.data.toList [34,10]))∧Below w.heap.size w w':=by
 by_cases h8:s.size≤8
 ·exact quote_short L s w h8
 ·refine (Any.strings_IndexAny_long L (zero_of_info h116).1 (zero_of_info h116).2 s ⟨#[34,10]⟩ w (by decide) (by omega) hs (by decide) (fun j b hb=>?_)).mono fun e w' ⟨h1,h2⟩=>⟨h1,?_⟩
  ·have h3:b∈([34,10]:List UInt8):=List.mem_of_getElem? hb
   simp at h3
   rcases h3 with rfl | rfl <;> decide
  ·rw [h2]
   exact ((Below.refl _ _).alloc (Nat.le_refl _) _).alloc (by simp) _
open Go.Shelf Go.RowKit Go.Lib
open Go.Proofs.YtcakgennlliejaaGreatDoorW.PrintWords
open Go.Proofs.YtcakgennlliejaaGreatDoor.PSyntaxJoined
open Sx
theorem Sx.w64 (n:Nat) (h:n≤1400000):IntKind.i64.wrap (n:Int)=n∧wrap64 (n:Int)=n:=⟨IntWalk.i64_in _ (by omega),IntWalk.wrap64_in _ (by omega)⟩
theorem Sx.quote_idx:∀ r:List UInt8,(Lib.indexAny r [34,10]=-1∧r.drop (r.takeWhile inQ).length=[])∨∃ (m:Nat) (c:UInt8) (t:List UInt8),Lib.indexAny r [34,10]=(m:Int)∧(r.takeWhile inQ).length=m∧r.takeWhile inQ=r.take m∧r.drop m=c::t∧(c=34∨c=10)
 | []=>.inl ⟨rfl,rfl⟩
 | b::r=>by
  have hb:([34,10]:List UInt8).contains b=!(inQ b):=by
   unfold inQ
   cases h1:(b==(34:UInt8)) <;> cases h2:(b==(10:UInt8)) <;> simp_all
  cases hq:inQ b
  ·rw [hq] at hb
   have hor:b=34∨b=10:=by
    unfold inQ at hq
    cases h1:(b==(34:UInt8))
    ·cases h2:(b==(10:UInt8))
     ·rw [h1,h2] at hq;cases hq
     ·exact .inr (by simpa using h2)
    ·exact .inl (by simpa using h1)
   refine .inr ⟨0,b,r,?_,?_,?_,rfl,hor⟩
   ·rw [Lib.indexAny,hb];rfl
   ·rw [List.takeWhile_cons,hq];rfl
   ·rw [List.takeWhile_cons,hq];rfl
  ·rw [hq] at hb
   have e1:(b::r).takeWhile inQ=b::r.takeWhile inQ:=by rw [List.takeWhile_cons,hq];rfl
   rcases quote_idx r with ⟨h1,h2⟩ | ⟨m,c,t,h1,h2,h3,h4,h5⟩
   ·refine .inl ⟨by rw [Lib.indexAny,hb,h1];rfl,by rw [e1];exact h2⟩
   ·refine .inr ⟨m+1,c,t,?_,by rw [e1];show (r.takeWhile inQ).length+1=_;rw [h2],by rw [e1,h3];rfl,h4,h5⟩
    rw [Lib.indexAny,hb,h1]
    have h6:((m:Int)==-1)=false:=by simp only [beq_eq_false_iff_ne,ne_eq];omega
    rw [h6]
    show (m:Int)+1=_
    omega
theorem Sx.quote_none {r:List UInt8} (p:Nat) (h:r.drop (r.takeWhile inQ).length=[]):quoteS r p=.no 42 p:=by unfold quoteS;rw [h]
theorem Sx.quote_line {r t:List UInt8} (p m:Nat) (h2:(r.takeWhile inQ).length=m) (h4:r.drop m=10::t):quoteS r p=.no 42 p:=by unfold quoteS;rw [h2,h4];rfl
theorem Sx.quote_ok {s:ByteArray} {t:List UInt8} (p p1 a m:Nat) (hp1:p+1=p1) (ha:p1+m=a) (h2:((tl s p1).takeWhile inQ).length=m) (h3:(tl s p1).takeWhile inQ=(tl s p1).take m) (h4:(tl s p1).drop m=34::t):quoteS (tl s p1) p=.tok ⟨5,s.extract p1 a,p⟩ (a+1):=by
 unfold quoteS
 rw [h2,h4,h3,extract_eq,show a-p1=m by omega,show p+m+2=a+1 by omega]
 rfl
theorem quote_calls (sb:Nat) (s:ByteArray) (p:Nat) (l:List S48) (rm:List ByteArray) (er pl:Int) (tv rv:Value) (hp:p<s.size) (w:World) (h:Sn w sb s p l rm er pl tv rv) :
  Calls Tryz.prog 83 #[.pointer (some ⟨sb,0,none⟩)] w (Dn (quoteS (tl s (p+1)) p) sb s p l rm er pl w):=by
 have e0:=Kd.R_slice h.rt
 obtain ⟨A0,c0,rfl⟩:=e0
 obtain ⟨p1,hp1⟩:∃ p1,p+1=p1:=⟨_,rfl⟩
 rw [hp1]
 have HS:=Lib.hid h
 have hz:=h.z
 have HP1:=Lib.hid hp1
 have HQC:=Lib.hid (fun w:World=>show Calls Tryz.prog 102 #[.string (s.extract p1 s.size),.string ⟨#[34,10]⟩] w fun e w'=>e=.returned (.int .i64 (Lib.indexAny (s.extract p1 s.size).data.toList [34,10]))∧Below w.heap.size w w' from quote_any Tryz.lays153 (by kernel_rfl) (s.extract p1 s.size) w (by rw [ByteArray.size_extract];omega))
 have hcell:∀ X:World,Below w.heap.size w X→X.cell? ⟨sb,0,none⟩=some (.string s)∧X.cell? ⟨sb,1,none⟩=some (.int .i64 p):=fun X hb=>⟨blk_cell (v:=.string s) (h.below hb).blk 0 rfl,blk_cell (v:=.int .i64 p) (h.below hb).blk 1 rfl⟩
 have HCE:=Lib.hid hcell
 have HK0:=Lib.hid (hcell w.drew (Below.refl _ w).drew)
 have b1:(0:Int)≤(p:Int):=by omega
 have b2:(0:Int)≤(p1:Int):=by omega
 have b3:(p1:Int)≤(s.size:Int):=by omega
 have c1:¬ ((p1:Int)<0):=by omega
 have c2:¬ ((s.size:Int)<(p1:Int)):=by omega
 have e1:(p:Int)+1=(p1:Int):=by omega
 have U1:=Lib.hid (w64 p1 (by omega))
 have hlen:(tl s p1).length=s.size-p1:=by unfold tl;rw [List.length_drop];rfl
 rcases quote_idx (tl s p1) with ⟨hx,hd⟩ | ⟨m,c,t,hx,hm,htk,hd,hc⟩
 ·rw [extract_tl,hx] at HQC
  have HPE:=Lib.hid (quote_none p hd)
  obtain ⟨u1,u2⟩:=U1.out
  clear hcell h hp hz hp1 hx hd hlen
  go_enter Tryz.func83,Tryz.ntmps83
  go_upto_region 1 with (fail)
  go_region_held_law (fun w9=>w9.cell? ⟨sb,0,none⟩=some (.string s)∧w9.cell? ⟨sb,1,none⟩=some (.int .i64 p)) (first | exact HK0.out | exact HCE.out _ HBX.out) ((go_at_call 102;((with_reducible refine (HQC.out _).mono ?_);rintro e X ⟨rfl,hbx⟩;have HBX:=Lib.hid (show Below w.heap.size w X from (Below.refl _ w).drew.trans hbx);clear hbx)))
  have HS1:=Lib.hid (HS.out.below HBX.out)
  have xs:=blk_cell (v:=.string s) HS1.out.blk 0 rfl
  have xp:=blk_cell (v:=.int .i64 p) HS1.out.blk 1 rfl
  go_upto_region 2 with (fail)
  go_quiet (fail)
  obtain ⟨Y,hY⟩:∃ Y,X.drewN nq=Y:=⟨_,rfl⟩
  have HBY:=Lib.hid (show Below w.heap.size w Y by rw [← hY];exact below_drewn HBX.out _)
  have HSY:=Lib.hid (HS.out.below HBY.out)
  have ya:=blk_cell (v:=.int .i64 p) HSY.out.blk 1 rfl
  try rw [hY]
  clear hY xs xp
  go_wp2_with (first | (go_at_call 51;((with_reducible refine (fail_calls sb s p l rm er pl _ rv 42 p _ HSY.out).mono ?_);rintro e w8 ⟨rfl,hs8,hk8⟩)))
  go_ret
  rw [HPE.out]
  exact Dn.behind ⟨_,_,rfl,hs8,hk8⟩ HBY.out
 ·rw [extract_tl,hx] at HQC
  have hml:m<(tl s p1).length:=by
   have h1:=congrArg List.length hd
   rw [List.length_drop,List.length_cons] at h1
   omega
  obtain ⟨a,ha⟩:∃ a,p1+m=a:=⟨_,rfl⟩
  have has:a<s.size:=by omega
  have hsa:s[a]'has=c:=by
   have h1:=tl_drop s p1 m
   rw [hd,ha,tl_cons has] at h1
   injection h1 with h2 _
   exact h2.symm
  have e2:(p1:Int)+(m:Int)=(a:Int):=by omega
  have U3:=Lib.hid (w64 a (by omega))
  have d1:(0:Int)≤(m:Int):=by omega
  have d2:(0:Int)≤(a:Int):=by omega
  have d3:(a:Int)<(s.size:Int):=by omega
  have d4:¬ ((m:Int)<0):=by omega
  have d5:decide ((m:Int)<0)=false:=decide_eq_false d4
  rcases hc with rfl | rfl
  ·have hne:(((s[a]'has).toNat:Int)==10)=false:=by rw [hsa];rfl
   have HPE:=Lib.hid (quote_ok p p1 a m hp1 ha hm htk hd)
   obtain ⟨q,hq⟩:∃ q,a+1=q:=⟨_,rfl⟩
   rw [hq] at HPE
   obtain ⟨m2,hm2⟩:∃ m2,m+2=m2:=⟨_,rfl⟩
   have e3:(m:Int)+2=(m2:Int):=by omega
   have e4:(p:Int)+(m2:Int)=(q:Int):=by omega
   have U5:=Lib.hid (w64 m2 (by omega))
   have U7:=Lib.hid (w64 q (by omega))
   have HQ:=Lib.hid (show p<q∧q≤s.size by omega)
   have HLL:=Lib.hid (show (l.length+1)*32≤140737488355328 by have:=h.nt;omega)
   have f1:(p1:Int)≤(a:Int):=by omega
   have f2:(a:Int)≤(s.size:Int):=by omega
   have f3:¬ ((a:Int)<(p1:Int)):=by omega
   have f4:¬ ((s.size:Int)<(a:Int)):=by omega
   have f5:p1≤a:=by omega
   have HE2:=Lib.hid e2
   have HD3:=Lib.hid d3
   have HNE:=Lib.hid hne
   have HG3:=Lib.hid (And.intro e3 (And.intro e4 (And.intro U5.out.1 (And.intro U5.out.2 (And.intro U7.out.1 U7.out.2)))))
   clear hcell h hp hz hp1 hx hd hlen hml ha hsa hm htk hq hm2 e2 d3 hne e3 e4 U5 U7
   obtain ⟨u1,u2⟩:=U1.out
   go_enter Tryz.func83,Tryz.ntmps83
   go_upto_region 1 with (fail)
   go_region_held_law (fun w9=>w9.cell? ⟨sb,0,none⟩=some (.string s)∧w9.cell? ⟨sb,1,none⟩=some (.int .i64 p)) (first | exact HK0.out | exact HCE.out _ HBX.out) ((go_at_call 102;((with_reducible refine (HQC.out _).mono ?_);rintro e X ⟨rfl,hbx⟩;have HBX:=Lib.hid (show Below w.heap.size w X from (Below.refl _ w).drew.trans hbx);clear hbx)))
   have HS1:=Lib.hid (HS.out.below HBX.out)
   have xs:=blk_cell (v:=.string s) HS1.out.blk 0 rfl
   have xp:=blk_cell (v:=.int .i64 p) HS1.out.blk 1 rfl
   have e2:=HE2.out
   obtain ⟨u3,u4⟩:=U3.out
   have d3:=HD3.out
   have hne:=HNE.out
   go_upto_region 2 with (fail)
   go_quiet (fail)
   obtain ⟨Y,hY⟩:∃ Y,X.drewN nq=Y:=⟨_,rfl⟩
   have HBY:=Lib.hid (show Below w.heap.size w Y by rw [← hY];exact below_drewn HBX.out _)
   have HSX:=Lib.hid (HS.out.below HBY.out)
   try rw [hY]
   clear hY xs xp
   have HD:=Lib.hid (HSX.out.below ((Below.refl _ Y).drew))
   have ytd:=blk_cell (v:=.slice A0 l.length c0) HD.out.blk 2 rfl
   have HLB:=Lib.hid (show sb+1≤Y.drew.heap.size from HSX.out.lt)
   have HKC:=Lib.hid (fun o=>show ((Y.drew).alloc o).cell? ⟨sb,0,none⟩=some (.string s)∧((Y.drew).alloc o).cell? ⟨sb,1,none⟩=some (.int .i64 p)∧((Y.drew).alloc o).cell? ⟨sb,2,none⟩=some (.slice A0 l.length c0) from by
    have h7:=HD.out.below ((Below.refl _ Y.drew).alloc (Nat.le_refl _) o)
    exact ⟨blk_cell (v:=.string s) h7.blk 0 rfl,blk_cell (v:=.int .i64 p) h7.blk 1 rfl,blk_cell (v:=.slice A0 l.length c0) h7.blk 2 rfl⟩)
   have yta:((Y.alloc (.cells #[.int .i64 5,.string (s.extract p1 a),.int .i64 p] 48)).drew).cell? ⟨sb,2,none⟩=some (.slice A0 l.length c0):=(HKC.out (.cells #[.int .i64 5,.string (s.extract p1 a),.int .i64 p] 48)).2.2
   have HKD:=Lib.hid (show Y.drew.cell? ⟨sb,0,none⟩=some (.string s)∧Y.drew.cell? ⟨sb,1,none⟩=some (.int .i64 p) from ⟨blk_cell (v:=.string s) HD.out.blk 0 rfl,blk_cell (v:=.int .i64 p) HD.out.blk 1 rfl⟩)
   go_upto_region 4 with (fail)
   refine wp_region_held_drew (S:=fun w9=>w9.cell? ⟨sb,0,none⟩=some (.string s)∧w9.cell? ⟨sb,1,none⟩=some (.int .i64 p)) (by kernel_rfl) ?_ (fun hHeld=>?_)
   ·(try dsimp only);exact HKD.out
   refine wpAnyH_take (i:=0) (oi:=⟨some 38,_,_,_,_,_⟩) (v:=?_) rfl (by kernel_rfl) (by kernel_rfl) (by kernel_rfl) (fun _ _ _ h=>h) (Or.inl ⟨by rfl,?_⟩) (by assumption) ?_
   rotate_left
   ·intro w hSw;(try dsimp only at hSw);go_simp;try with_reducible rfl
   try simp only [Act.put,List.setIfInBounds_toArray,List.set_cons_zero,List.set_cons_succ]
   refine wpAnyH_take (i:=1) (oi:=⟨some 39,_,_,_,_,_⟩) (v:=?_) rfl (by kernel_rfl) (by kernel_rfl) (by kernel_rfl) (fun _ _ _ h=>h) (Or.inl ⟨by rfl,?_⟩) (by assumption) ?_
   rotate_left
   ·intro w hSw;(try dsimp only at hSw);go_simp;try with_reducible rfl
   try simp only [Act.put,List.setIfInBounds_toArray,List.set_cons_zero,List.set_cons_succ]
   refine wpAnyH_take (i:=2) (oi:=⟨some 40,_,_,_,_,_⟩) (v:=?_) rfl (by kernel_rfl) (by kernel_rfl) (by kernel_rfl) (fun _ _ _ h=>h) (Or.inl ⟨by rfl,?_⟩) (by assumption) ?_
   rotate_left
   ·intro w hSw;(try dsimp only at hSw);go_simp;try with_reducible rfl
   try simp only [Act.put,List.setIfInBounds_toArray,List.set_cons_zero,List.set_cons_succ]
   refine wpAnyH_take (i:=3) (oi:=⟨some 41,_,_,_,_,_⟩) (v:=?_) rfl (by kernel_rfl) (by kernel_rfl) (by kernel_rfl) (fun _ _ _ h=>h) (Or.inl ⟨by rfl,?_⟩) (by assumption) ?_
   rotate_left
   ·intro w hSw;(try dsimp only at hSw);go_simp;try with_reducible rfl
   try simp only [Act.put,List.setIfInBounds_toArray,List.set_cons_zero,List.set_cons_succ]
   refine wpAnyH_take (i:=5) (oi:=⟨some 43,_,_,_,_,_⟩) (v:=?_) rfl (by kernel_rfl) (by kernel_rfl) (by kernel_rfl) (fun _ _ _ h=>h) (Or.inl ⟨by rfl,?_⟩) (by assumption) ?_
   rotate_left
   ·intro w hSw;(try dsimp only at hSw);go_simp;try with_reducible rfl
   try simp only [Act.put,List.setIfInBounds_toArray,List.set_cons_zero,List.set_cons_succ]
   refine wpAnyH_take (i:=6) (oi:=⟨some 44,_,_,_,_,_⟩) (v:=?_) rfl (by kernel_rfl) (by kernel_rfl) (by kernel_rfl) (fun _ _ _ h=>h) (Or.inl ⟨by rfl,?_⟩) (by assumption) ?_
   rotate_left
   ·intro w hSw;(try dsimp only at hSw);go_simp;try with_reducible rfl
   try simp only [Act.put,List.setIfInBounds_toArray,List.set_cons_zero,List.set_cons_succ]
   refine wpAnyH_take (i:=7) (oi:=⟨some 45,_,_,_,_,_⟩) (v:=?_) rfl (by kernel_rfl) (by kernel_rfl) (by kernel_rfl) (fun _ _ _ h=>h) (Or.inl ⟨by rfl,?_⟩) (by assumption) ?_
   rotate_left
   ·intro w hSw;(try dsimp only at hSw);go_simp;try with_reducible rfl
   try simp only [Act.put,List.setIfInBounds_toArray,List.set_cons_zero,List.set_cons_succ]
   refine wpAnyH_take (i:=8) (oi:=⟨some 46,_,_,_,_,_⟩) (v:=?_) rfl (by kernel_rfl) (by kernel_rfl) (by kernel_rfl) (fun _ _ _ h=>h) (Or.inl ⟨by rfl,?_⟩) (by assumption) ?_
   rotate_left
   ·intro w hSw;(try dsimp only at hSw);go_simp;try with_reducible rfl
   try simp only [Act.put,List.setIfInBounds_toArray,List.set_cons_zero,List.set_cons_succ]
   refine wpAnyH_take (i:=9) (oi:=⟨some 47,_,_,_,_,_⟩) (v:=?_) rfl (by kernel_rfl) (by kernel_rfl) (by kernel_rfl) (fun _ _ _ h=>h) (Or.inl ⟨by rfl,?_⟩) (by assumption) ?_
   rotate_left
   ·intro w hSw;(try dsimp only at hSw);go_simp;try with_reducible rfl
   try simp only [Act.put,List.setIfInBounds_toArray,List.set_cons_zero,List.set_cons_succ]
   refine wpAnyH_take (i:=10) (oi:=⟨some 48,_,_,_,_,_⟩) (v:=?_) rfl (by kernel_rfl) (by kernel_rfl) (by kernel_rfl) (fun _ _ _ h=>h) (Or.inl ⟨by rfl,?_⟩) (by assumption) ?_
   rotate_left
   ·intro w hSw;(try dsimp only at hSw);go_simp;try with_reducible rfl
   try simp only [Act.put,List.setIfInBounds_toArray,List.set_cons_zero,List.set_cons_succ]
   refine wpAnyH_take (i:=11) (oi:=⟨some 49,_,_,_,_,_⟩) (v:=?_) rfl (by kernel_rfl) (by kernel_rfl) (by kernel_rfl) (fun _ _ _ h=>h) (Or.inl ⟨by rfl,?_⟩) (by assumption) ?_
   rotate_left
   ·intro w hSw;(try dsimp only at hSw);go_simp;try with_reducible rfl
   try simp only [Act.put,List.setIfInBounds_toArray,List.set_cons_zero,List.set_cons_succ]
   refine wpAnyH_take (i:=12) (oi:=⟨some 50,_,_,_,_,_⟩) (v:=?_) rfl (by kernel_rfl) (by kernel_rfl) (by kernel_rfl) (fun _ _ _ h=>h) (Or.inl ⟨by rfl,?_⟩) (by assumption) ?_
   rotate_left
   ·intro w hSw;(try dsimp only at hSw);go_simp;try with_reducible rfl
   try simp only [Act.put,List.setIfInBounds_toArray,List.set_cons_zero,List.set_cons_succ]
   refine wpAnyH_take (i:=13) (oi:=⟨some 51,_,_,_,_,_⟩) (v:=?_) rfl (by kernel_rfl) (by kernel_rfl) (by kernel_rfl) (fun _ _ _ h=>h) (Or.inl ⟨by rfl,?_⟩) (by assumption) ?_
   rotate_left
   ·intro w hSw;(try dsimp only at hSw);go_simp;try with_reducible rfl
   try simp only [Act.put,List.setIfInBounds_toArray,List.set_cons_zero,List.set_cons_succ]
   refine wpAnyH_take (i:=14) (oi:=⟨some 52,_,_,_,_,_⟩) (v:=?_) rfl (by kernel_rfl) (by kernel_rfl) (by kernel_rfl) (fun _ _ _ h=>h) (Or.inl ⟨by rfl,?_⟩) (by assumption) ?_
   rotate_left
   ·intro w hSw;(try dsimp only at hSw);go_simp;try with_reducible rfl
   try simp only [Act.put,List.setIfInBounds_toArray,List.set_cons_zero,List.set_cons_succ]
   refine wpAnyH_take (i:=15) (oi:=⟨some 53,_,_,_,_,_⟩) (v:=?_) rfl (by kernel_rfl) (by kernel_rfl) (by kernel_rfl) (fun _ _ _ h=>h) (Or.inl ⟨by rfl,?_⟩) (by assumption) ?_
   rotate_left
   ·intro w hSw;(try dsimp only at hSw);go_simp;try with_reducible rfl
   try simp only [Act.put,List.setIfInBounds_toArray,List.set_cons_zero,List.set_cons_succ]
   refine wpAnyH_take (i:=16) (oi:=⟨some 54,_,_,_,_,_⟩) (v:=?_) rfl (by kernel_rfl) (by kernel_rfl) (by kernel_rfl) (fun _ _ _ h=>h) (Or.inl ⟨by rfl,?_⟩) (by assumption) ?_
   rotate_left
   ·intro w hSw;(try dsimp only at hSw);go_simp;try with_reducible rfl
   try simp only [Act.put,List.setIfInBounds_toArray,List.set_cons_zero,List.set_cons_succ]
   refine wpAnyH_take (i:=17) (oi:=⟨some 55,_,_,_,_,_⟩) (v:=?_) rfl (by kernel_rfl) (by kernel_rfl) (by kernel_rfl) (fun _ _ _ h=>h) (Or.inl ⟨by rfl,?_⟩) (by assumption) ?_
   rotate_left
   ·intro w hSw;(try dsimp only at hSw);go_simp;try with_reducible rfl
   try simp only [Act.put,List.setIfInBounds_toArray,List.set_cons_zero,List.set_cons_succ]
   refine wpAnyH_take (i:=18) (oi:=⟨some 56,_,_,_,_,_⟩) (v:=?_) rfl (by kernel_rfl) (by kernel_rfl) (by kernel_rfl) (fun _ _ _ h=>h) (Or.inl ⟨by rfl,?_⟩) (by assumption) ?_
   rotate_left
   ·intro w hSw;(try dsimp only at hSw);go_simp;try with_reducible rfl
   try simp only [Act.put,List.setIfInBounds_toArray,List.set_cons_zero,List.set_cons_succ]
   refine wpAnyH_take (i:=19) (oi:=⟨some 57,_,_,_,_,_⟩) (v:=?_) rfl (by kernel_rfl) (by kernel_rfl) (by kernel_rfl) (fun _ _ _ h=>h) (Or.inl ⟨by rfl,?_⟩) (by assumption) ?_
   rotate_left
   ·intro w hSw;(try dsimp only at hSw);go_simp;try with_reducible rfl
   try simp only [Act.put,List.setIfInBounds_toArray,List.set_cons_zero,List.set_cons_succ]
   refine wpAnyH_take (i:=20) (oi:=⟨some 58,_,_,_,_,_⟩) (v:=?_) rfl (by kernel_rfl) (by kernel_rfl) (by kernel_rfl) (fun _ _ _ h=>h) (Or.inl ⟨by rfl,?_⟩) (by assumption) ?_
   rotate_left
   ·intro w hSw;(try dsimp only at hSw);go_simp;try with_reducible rfl
   try simp only [Act.put,List.setIfInBounds_toArray,List.set_cons_zero,List.set_cons_succ]
   refine wpAnyH_take (i:=21) (oi:=⟨some 59,_,_,_,_,_⟩) (v:=?_) rfl (by kernel_rfl) (by kernel_rfl) (by kernel_rfl) (fun _ _ _ h=>h) (Or.inl ⟨by rfl,?_⟩) (by assumption) ?_
   rotate_left
   ·intro w hSw;(try dsimp only at hSw);go_simp;try with_reducible rfl
   try simp only [Act.put,List.setIfInBounds_toArray,List.set_cons_zero,List.set_cons_succ]
   refine wpAnyH_take (i:=22) (oi:=⟨some 60,_,_,_,_,_⟩) (v:=?_) rfl (by kernel_rfl) (by kernel_rfl) (by kernel_rfl) (fun _ _ _ h=>h) (Or.inl ⟨by rfl,?_⟩) (by assumption) ?_
   rotate_left
   ·intro w hSw;(try dsimp only at hSw);go_simp;try with_reducible rfl
   try simp only [Act.put,List.setIfInBounds_toArray,List.set_cons_zero,List.set_cons_succ]
   refine wpAnyH_take (i:=23) (oi:=⟨some 61,_,_,_,_,_⟩) (v:=?_) rfl (by kernel_rfl) (by kernel_rfl) (by kernel_rfl) (fun _ _ _ h=>h) (Or.inl ⟨by rfl,?_⟩) (by assumption) ?_
   rotate_left
   ·intro w hSw;(try dsimp only at hSw);go_simp;try with_reducible rfl
   try simp only [Act.put,List.setIfInBounds_toArray,List.set_cons_zero,List.set_cons_succ]
   refine wpAnyH_take (i:=24) (oi:=⟨some 62,_,_,_,_,_⟩) (v:=?_) rfl (by kernel_rfl) (by kernel_rfl) (by kernel_rfl) (fun _ _ _ h=>h) (Or.inl ⟨by rfl,?_⟩) (by assumption) ?_
   rotate_left
   ·intro w hSw;(try dsimp only at hSw);go_simp;try with_reducible rfl
   try simp only [Act.put,List.setIfInBounds_toArray,List.set_cons_zero,List.set_cons_succ]
   refine wpAnyH_take (i:=25) (oi:=⟨some 63,_,_,_,_,_⟩) (v:=?_) rfl (by kernel_rfl) (by kernel_rfl) (by kernel_rfl) (fun _ _ _ h=>h) (Or.inl ⟨by rfl,?_⟩) (by assumption) ?_
   rotate_left
   ·intro w hSw;(try dsimp only at hSw);go_simp;try with_reducible rfl
   try simp only [Act.put,List.setIfInBounds_toArray,List.set_cons_zero,List.set_cons_succ]
   refine wpAnyH_take (i:=26) (oi:=⟨some 64,_,_,_,_,_⟩) (v:=?_) rfl (by kernel_rfl) (by kernel_rfl) (by kernel_rfl) (fun _ _ _ h=>h) (Or.inl ⟨by rfl,?_⟩) (by assumption) ?_
   rotate_left
   ·intro w hSw;(try dsimp only at hSw);go_simp;try with_reducible rfl
   try simp only [Act.put,List.setIfInBounds_toArray,List.set_cons_zero,List.set_cons_succ]
   refine wpAnyH_ready (rs:=[4,27]) (by kernel_rfl) (by simp) ?_
   refine AllReadyH.cons rfl (fun K hK=>?_) (AllReadyH.cons rfl (fun K hK=>?_) AllReadyH.nil)
   go_simp
   refine hK.out _ _ ?_ (fun hH2=>?_)
   ·(try dsimp only);exact HKD.out
   clear hK K hHeld
   have hHeld:=hH2
   clear hH2
   refine wpAnyH_ready (rs:=[27]) (by kernel_rfl) (by simp) ?_
   refine AllReadyH.cons rfl (fun K hK=>?_) AllReadyH.nil
   go_simp
   refine hK.out _ _ ?_ (fun hH2=>?_)
   ·(try dsimp only);exact ⟨(HKC.out _).1,(HKC.out _).2.1⟩
   clear hK K hHeld
   have hHeld:=hH2
   clear hH2
   refine wpAnyH_ready (rs:=[28]) (by kernel_rfl) (by simp) ?_
   refine AllReadyH.cons rfl (fun K hK=>?_) AllReadyH.nil
   refine Kd.R_append_step k48 (w0:=Y.drew) (sb+1) (by rfl) (.tmp 42) (.tmp 65) 40 48 (.agg #[.int .i64 0,.string ⟨#[]⟩,.int .i64 0]) 32 rfl Tryz.underlying40 info_tk rfl (by decide) (by decide) (.slice A0 l.length c0) l (⟨5,(s.extract p1 a),p⟩:S48) [.int .i64 5,.string (s.extract p1 a),.int .i64 p] (fun k=>sb<k) (fun _=>False) rfl rfl (k48_mkM _ _ _ ⟨5,(s.extract p1 a),p⟩) (fun _ hk=>hk.elim) (fun k hk=>Nat.lt_of_lt_of_le HLB.out hk) HD.out.rt (Below.refl _ _) HLB.out HLL.out ?_
   intro v3 w3 hs3 hb3 hg3 hat3
   obtain ⟨A9,c9,rfl⟩:=Kd.R_slice hs3
   rw [List.length_append,List.length_singleton] at hs3
   have hbk3:=(hb3.block sb (Nat.lt_succ_self _)).trans HD.out.blk
   have z0:=blk_cell (v:=.string s) hbk3 0 rfl
   have z1:=blk_cell (v:=.int .i64 p) hbk3 1 rfl
   have y3:=blk_cell (v:=.slice A0 l.length c0) hbk3 2 rfl
   have f3:=blk_free hbk3 2
   have HS3:=Lib.hid hs3
   have HB3:=Lib.hid hb3
   have HG3:=Lib.hid hg3
   have HBK3:=Lib.hid hbk3
   clear hs3 hb3 hg3 hat3 hbk3
   refine hK.out _ _ ?_ (fun hH2=>?_)
   ·(try dsimp only);exact ⟨z0,z1⟩
   clear hK K hHeld
   have hHeld:=hH2
   clear hH2
   refine wpAnyH_take (i:=29) (oi:=⟨some 67,_,_,_,_,_⟩) (v:=?_) rfl (by kernel_rfl) (by kernel_rfl) (by kernel_rfl) (fun _ _ _ h=>h) (Or.inl ⟨by rfl,?_⟩) (by assumption) ?_
   rotate_left
   ·intro w hSw;(try dsimp only at hSw);go_simp;try with_reducible rfl
   try simp only [Act.put,List.setIfInBounds_toArray,List.set_cons_zero,List.set_cons_succ]
   refine wpAnyH_take (i:=30) (oi:=⟨some 68,_,_,_,_,_⟩) (v:=?_) rfl (by kernel_rfl) (by kernel_rfl) (by kernel_rfl) (fun _ _ _ h=>h) (Or.inl ⟨by rfl,?_⟩) (by assumption) ?_
   rotate_left
   ·intro w hSw;(try dsimp only at hSw);go_simp;try with_reducible rfl
   try simp only [Act.put,List.setIfInBounds_toArray,List.set_cons_zero,List.set_cons_succ]
   refine wpAnyH_ready (rs:=[31]) (by kernel_rfl) (by simp) ?_
   refine AllReadyH.cons rfl (fun K hK=>?_) AllReadyH.nil
   go_simp
   refine hK.out _ _ ?_ (fun hH2=>?_)
   ·(try dsimp only);exact ⟨(World.cell?_setCell_other _ _ _ _ (by simp)).trans (blk_cell (v:=.string s) HBK3.out 0 rfl),(World.cell?_setCell_other _ _ _ _ (by simp)).trans (blk_cell (v:=.int .i64 p) HBK3.out 1 rfl)⟩
   clear hK K hHeld
   have hHeld:=hH2
   clear hH2
   refine wpAnyH_done (by kernel_rfl) ?_ _
   rotate_left
   go_simp
   refine hK.out _ _ ?_ (fun hH2=>?_)
   ·(try dsimp only);exact ⟨(HKC.out _).1,(HKC.out _).2.1⟩
   clear hK K hHeld
   have hHeld:=hH2
   clear hH2
   refine wpAnyH_ready (rs:=[4]) (by kernel_rfl) (by simp) ?_
   refine AllReadyH.cons rfl (fun K hK=>?_) AllReadyH.nil
   go_simp
   refine hK.out _ _ ?_ (fun hH2=>?_)
   ·(try dsimp only);exact ⟨(HKC.out _).1,(HKC.out _).2.1⟩
   clear hK K hHeld
   have hHeld:=hH2
   clear hH2
   refine wpAnyH_ready (rs:=[28]) (by kernel_rfl) (by simp) ?_
   refine AllReadyH.cons rfl (fun K hK=>?_) AllReadyH.nil
   refine Kd.R_append_step k48 (w0:=Y.drew) (sb+1) (by rfl) (.tmp 42) (.tmp 65) 40 48 (.agg #[.int .i64 0,.string ⟨#[]⟩,.int .i64 0]) 32 rfl Tryz.underlying40 info_tk rfl (by decide) (by decide) (.slice A0 l.length c0) l (⟨5,(s.extract p1 a),p⟩:S48) [.int .i64 5,.string (s.extract p1 a),.int .i64 p] (fun k=>sb<k) (fun _=>False) rfl rfl (k48_mkM _ _ _ ⟨5,(s.extract p1 a),p⟩) (fun _ hk=>hk.elim) (fun k hk=>Nat.lt_of_lt_of_le HLB.out hk) HD.out.rt (Below.refl _ _) HLB.out HLL.out ?_
   intro v3 w3 hs3 hb3 hg3 hat3
   obtain ⟨A9,c9,rfl⟩:=Kd.R_slice hs3
   rw [List.length_append,List.length_singleton] at hs3
   have hbk3:=(hb3.block sb (Nat.lt_succ_self _)).trans HD.out.blk
   have z0:=blk_cell (v:=.string s) hbk3 0 rfl
   have z1:=blk_cell (v:=.int .i64 p) hbk3 1 rfl
   have y3:=blk_cell (v:=.slice A0 l.length c0) hbk3 2 rfl
   have f3:=blk_free hbk3 2
   have HS3:=Lib.hid hs3
   have HB3:=Lib.hid hb3
   have HG3:=Lib.hid hg3
   have HBK3:=Lib.hid hbk3
   clear hs3 hb3 hg3 hat3 hbk3
   refine hK.out _ _ ?_ (fun hH2=>?_)
   ·(try dsimp only);exact ⟨z0,z1⟩
   clear hK K hHeld
   have hHeld:=hH2
   clear hH2
   refine wpAnyH_take (i:=29) (oi:=⟨some 67,_,_,_,_,_⟩) (v:=?_) rfl (by kernel_rfl) (by kernel_rfl) (by kernel_rfl) (fun _ _ _ h=>h) (Or.inl ⟨by rfl,?_⟩) (by assumption) ?_
   rotate_left
   ·intro w hSw;(try dsimp only at hSw);go_simp;try with_reducible rfl
   try simp only [Act.put,List.setIfInBounds_toArray,List.set_cons_zero,List.set_cons_succ]
   refine wpAnyH_take (i:=30) (oi:=⟨some 68,_,_,_,_,_⟩) (v:=?_) rfl (by kernel_rfl) (by kernel_rfl) (by kernel_rfl) (fun _ _ _ h=>h) (Or.inl ⟨by rfl,?_⟩) (by assumption) ?_
   rotate_left
   ·intro w hSw;(try dsimp only at hSw);go_simp;try with_reducible rfl
   try simp only [Act.put,List.setIfInBounds_toArray,List.set_cons_zero,List.set_cons_succ]
   refine wpAnyH_ready (rs:=[31]) (by kernel_rfl) (by simp) ?_
   refine AllReadyH.cons rfl (fun K hK=>?_) AllReadyH.nil
   go_simp
   refine hK.out _ _ ?_ (fun hH2=>?_)
   ·(try dsimp only);exact ⟨(World.cell?_setCell_other _ _ _ _ (by simp)).trans (blk_cell (v:=.string s) HBK3.out 0 rfl),(World.cell?_setCell_other _ _ _ _ (by simp)).trans (blk_cell (v:=.int .i64 p) HBK3.out 1 rfl)⟩
   clear hK K hHeld
   have hHeld:=hH2
   clear hH2
   refine wpAnyH_done (by kernel_rfl) ?_ _
   all_goals
    have HP:=Lib.hid (HD.out.pushed HS3.out HB3.out HG3.out q HQ.out.1 HQ.out.2)
    obtain ⟨Z,hZ⟩:∃ Z,w3.setCell ⟨sb,2,none⟩ (.slice A9 (l.length+1) c9)=Z:=⟨_,rfl⟩
    have y1:Z.cell? ⟨sb,1,none⟩=some (.int .i64 p):=by rw [← hZ];exact (World.cell?_setCell_other _ _ _ _ (by simp)).trans (blk_cell (v:=.int .i64 p) HBK3.out 1 rfl)
    have g1:Z.frozen? ⟨sb,1,none⟩=false:=by rw [← hZ,World.frozen?_setCell];exact blk_free HBK3.out 1
    rw [hZ] at HP
    try rw [hZ]
    clear hZ ytd yta z0 z1 y3 hHeld HS3 HB3 HG3 HBK3
    have hkw:Keep (sF sb) w Y.drew:=Keep.of_below (HBY.out.drew)
    have HKW:=Lib.hid (hkw.trans HP.out.2 (fun _ _ h=>h))
    clear hkw
    obtain ⟨e3,e4,u5,u6,u7,u8⟩:=HG3.out
    go_wp2_with fail
    go_ret
    rw [HPE.out]
    exact ⟨_,_,rfl,HP.out.1,HKW.out⟩
  ·have hne:(((s[a]'has).toNat:Int)==10)=true:=by rw [hsa];rfl
   have HPE:=Lib.hid (quote_line p m hm hd)
   have HE2:=Lib.hid e2
   have HD3:=Lib.hid d3
   have HNE:=Lib.hid hne
   clear hcell h hp hz hp1 hx hd hlen hml ha hsa hm htk e2 d3 hne
   obtain ⟨u1,u2⟩:=U1.out
   go_enter Tryz.func83,Tryz.ntmps83
   go_upto_region 1 with (fail)
   go_region_held_law (fun w9=>w9.cell? ⟨sb,0,none⟩=some (.string s)∧w9.cell? ⟨sb,1,none⟩=some (.int .i64 p)) (first | exact HK0.out | exact HCE.out _ HBX.out) ((go_at_call 102;((with_reducible refine (HQC.out _).mono ?_);rintro e X ⟨rfl,hbx⟩;have HBX:=Lib.hid (show Below w.heap.size w X from (Below.refl _ w).drew.trans hbx);clear hbx)))
   have HS1:=Lib.hid (HS.out.below HBX.out)
   have xs:=blk_cell (v:=.string s) HS1.out.blk 0 rfl
   have xp:=blk_cell (v:=.int .i64 p) HS1.out.blk 1 rfl
   have e2:=HE2.out
   obtain ⟨u3,u4⟩:=U3.out
   have d3:=HD3.out
   have hne:=HNE.out
   go_upto_region 2 with (fail)
   go_quiet (fail)
   obtain ⟨Y,hY⟩:∃ Y,X.drewN nq=Y:=⟨_,rfl⟩
   have HBY:=Lib.hid (show Below w.heap.size w Y by rw [← hY];exact below_drewn HBX.out _)
   have HSY:=Lib.hid (HS.out.below HBY.out)
   have ya:=blk_cell (v:=.int .i64 p) HSY.out.blk 1 rfl
   try rw [hY]
   clear hY xs xp
   go_wp2_with (first | (go_at_call 51;((with_reducible refine (fail_calls sb s p l rm er pl _ rv 42 p _ HSY.out).mono ?_);rintro e w8 ⟨rfl,hs8,hk8⟩)))
   go_ret
   rw [HPE.out]
   exact Dn.behind ⟨_,_,rfl,hs8,hk8⟩ HBY.out
end Go.Proofs.YtcakgennlliejaaGreatDoor
