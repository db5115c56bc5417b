import Derived.Below
import Derived.OwnWalk
import Derived.Maps.OwnSet
import Derived.Maps.OwnOps
import Derived.Deep.Draws
import Derived.StillTailTactics
import Derived.Test.YtcakgennlliejaaGreatDoorProg
import Derived.WideLaws
import Derived.Lib.Hide
import Derived.WalkSpells
import Derived.WalkLawsBesides
import Derived.Deep.QuietTactic
import Derived.WalkKit
import Derived.BigQuiet
import Derived.Test.YtcakgennlliejaaGreatDoorShelf
import Derived.Lib.AsciiSet
import Derived.Lib.TrimByte
import Derived.Lib.Strings
import Derived.Lib.Walk
import Derived.Deep.WholeRow
import Derived.Lib.Builder
import Derived.Laws.Strings3
import Derived.RegionTactic
import Derived.Deep.RegionWith
import Derived.Lib.Bytealg
import Derived.Lib.ParseIntB
import Derived.Deep.DeepCutAuto
import Derived.Deep.Cut
import Derived.Lib.SmallJoins
set_option maxHeartbeats 8000000
set_option maxRecDepth 100000
namespace Go.Proofs.YtcakgennlliejaaGreatDoor
open Go.RowKit
structure Keep (F:Nat→Prop) (w w':World):Prop where
 os:w'.os=w.os
 tape:w'.tape=w.tape
 output:w'.output=w.output
 size:w.heap.size≤w'.heap.size
 block:∀ i,i<w.heap.size→¬ F i→w'.heap[i]?=w.heap[i]?
namespace Keep
variable {F G:Nat→Prop} {w w1 w2:World}
theorem refl (F:Nat→Prop) (w:World):Keep F w w:=⟨rfl,rfl,rfl,Nat.le_refl _,fun _ _ _=>rfl⟩
theorem mono (h:Keep F w w1) (hf:∀ i,i<w.heap.size→F i→G i):Keep G w w1:=⟨h.os,h.tape,h.output,h.size,fun i hi hg=>h.block i hi (fun x=>hg (hf i hi x))⟩
theorem trans (h:Keep F w w1) (k:Keep G w1 w2) (hg:∀ i,i<w.heap.size→G i→F i):Keep F w w2 :=
 ⟨k.os.trans h.os,k.tape.trans h.tape,k.output.trans h.output,Nat.le_trans h.size k.size,fun i hi hn=>(k.block i (Nat.lt_of_lt_of_le hi h.size) (fun x=>hn (hg i hi x))).trans (h.block i hi hn)⟩
theorem drew (h:Keep F w w1):Keep F w w1.drew:=⟨h.os,h.tape,h.output,h.size,h.block⟩
theorem drewN (h:Keep F w w1) (n:Nat):Keep F w (w1.drewN n):=⟨h.os,h.tape,h.output,h.size,h.block⟩
theorem alloc (h:Keep F w w1) (o:Obj):Keep F w (w1.alloc o) :=
 ⟨h.os,h.tape,h.output,Nat.le_trans h.size (by simp),fun i hi hn=>(Below.heap_alloc _ _ _ (Nat.lt_of_lt_of_le hi h.size)).trans (h.block i hi hn)⟩
theorem setCell (h:Keep F w w1) {p:Addr} (hp:p.block<w.heap.size→F p.block) (u:Value):Keep F w (w1.setCell p u) :=
 ⟨h.os,h.tape,h.output,Nat.le_trans h.size (by simp [World.setCell]),fun i hi hn=>(Below.heap_setCell _ _ _ _ (fun e=>by subst e;exact hn (hp hi))).trans (h.block i hi hn)⟩
theorem below (h:Keep F w w1) (hb:Below w1.heap.size w1 w2):Keep F w w2 :=
 ⟨hb.os.trans h.os,hb.tape.trans h.tape,hb.output.trans h.output,Nat.le_trans h.size hb.size,fun i hi hn=>(hb.block i (Nat.lt_of_lt_of_le hi h.size)).trans (h.block i hi hn)⟩
theorem of_below (hb:Below w.heap.size w w1):Keep F w w1:=(Keep.refl F w).below hb
theorem grown {row:Option Nat} (h:Keep F w w1) (hg:w1.grownBy w2 row) (hr:∀ k,row=some k→k<w.heap.size→F k):Keep F w w2 :=
 ⟨hg.os.trans h.os,hg.tape.trans h.tape,hg.output.trans h.output,Nat.le_trans h.size hg.size,fun i hi hn=>(hg.block i (Nat.lt_of_lt_of_le hi h.size) (fun e=>hn (hr i e.symm hi))).trans (h.block i hi hn)⟩
theorem blk (h:Keep F w w1) {i:Nat} {o:Obj} (hi:w.heap[i]?=some o) (hn:¬ F i):w1.heap[i]?=some o :=
 (h.block i (Array.getElem?_eq_some_iff.1 hi).1 hn).trans hi
theorem cell (h:Keep F w w1) {a:Addr} {v:Value} (hc:w.cell? a=some v) (hn:¬ F a.block):w1.cell? a=some v :=
 (World.cell?_of_block (w:=w) (h.block a.block (World.block_lt_of_cell? w a hc) hn)).trans hc
theorem row {base:Nat} {e:TypeId} {size:Nat} {v:Value} {n:Nat} {xs:List Value} (h:Keep F w w1) (ho:w.ownsRow base e size v n xs) (hn:∀ k,v.ownBlock=some k→¬ F k):w1.ownsRow base e size v n xs:=by
 obtain ⟨h1,h2⟩:=ho
 refine ⟨h1,?_⟩
 rcases h2 with h2 | ⟨g,cap,cur,rfl,hg,hh,r⟩
 ·exact Or.inl h2
 ·exact Or.inr ⟨g,cap,cur,rfl,hg,h.blk hh (hn g rfl),r⟩
theorem map {H:Type} {P:Program} {k:TypeId} {R:Value→Option (DataW H × List MemPlace)} {b n:Nat} {D:DataW H} (h:Keep F w w1) (ho:w.ownsMap P k R b n D) (hn:¬ F b):w1.ownsMap P k R b n D:=by
 obtain ⟨es,clock,hb,r⟩:=ho
 exact ⟨es,clock,h.blk hb hn,r⟩
end Keep
theorem blk_cell {w:World} {b:Nat} {vs:Array Value} {t:TypeId} {f:Nat × Nat} (h:w.heap[b]?=some (.cells vs t f)) (j:Nat) {v:Value} (hv:vs[j]?=some v):w.cell? ⟨b,j,none⟩=some v:=by
 simp [World.cell?,h,hv]
theorem blk_free {w:World} {b:Nat} {vs:Array Value} {t:TypeId} (h:w.heap[b]?=some (.cells vs t (0,0))) (j:Nat):w.frozen? ⟨b,j,none⟩=false:=by
 simp [World.frozen?,h]
theorem heap_setCell_same {w:World} {b:Nat} {vs:Array Value} {t:TypeId} {f:Nat × Nat} (h:w.heap[b]?=some (.cells vs t f)) (j:Nat) (v:Value) :
  (w.setCell ⟨b,j,none⟩ v).heap[b]?=some (.cells (vs.setIfInBounds j v) t f):=by
 simp [World.setCell,Array.getElem?_modify,h]
theorem heap_alloc_new (w:World) (o:Obj):(w.alloc o).heap[w.heap.size]?=some o:=by
 show (w.heap.push o)[w.heap.size]?=_
 simp
theorem blk_lt {w:World} {b:Nat} {o:Obj} (h:w.heap[b]?=some o):b<w.heap.size:=(Array.getElem?_eq_some_iff.1 h).1
theorem add_at (g j:Nat):(⟨g,0,none⟩:Addr).add j=⟨g,j,none⟩:=by unfold Addr.add;split <;> simp_all
theorem still_tail {P:Program} {id:Nat} {Q:Exit→Act→World→Prop} {a:Act} {w:World} {l:List Oper} (n:Nat) (hm:P.follows .mixedOrders=true) (hB:Region.lexTailB .any l.toArray n=true)
  (h:wpStill P l.toArray w.drew (fun a'=>wpList P l.toArray Q (l.drop n) a' w.drew) (l.take n) a):(Code.region id l.toArray true).wp P Q a w:=wp_region_still_tail n hm hB h
end Go.Proofs.YtcakgennlliejaaGreatDoor
namespace Go.Proofs.YtcakgennlliejaaGreatDoor
open Go.RowKit Go.Lib
set_option linter.unusedVariables false
set_option linter.unusedSimpArgs false
def Mo.chk (m:Int):Int:=if m < -1000000000000000∨1000000000000000<m then 22 else 0
theorem check_calls (m:Int) (w:World):Calls Tryz.prog 125 #[.int .i64 m] w fun e w'=>e=.returned (.int .i64 (Mo.chk m))∧w=w':=by
 unfold Mo.chk
 by_cases h1:m < -1000000000000000
 ·have d1:decide (m < -1000000000000000)=true:=decide_eq_true h1
  rw [if_pos (.inl h1)]
  go_enter Tryz.func125,Tryz.ntmps125
  go_wp2
  go_ret
  exact ⟨rfl,rfl⟩
 ·have d1:decide (m < -1000000000000000)=false:=decide_eq_false h1
  by_cases h2:1000000000000000<m
  ·have d2:decide (1000000000000000<m)=true:=decide_eq_true h2
   rw [if_pos (.inr h2)]
   go_enter Tryz.func125,Tryz.ntmps125
   go_wp2
   go_ret
   exact ⟨rfl,rfl⟩
  ·have d2:decide (1000000000000000<m)=false:=decide_eq_false h2
   rw [if_neg (by rintro (h | h) <;> contradiction)]
   go_enter Tryz.func125,Tryz.ntmps125
   go_wp2
   go_ret
   exact ⟨rfl,rfl⟩
end Go.Proofs.YtcakgennlliejaaGreatDoor
namespace Go.Proofs.YtcakgennlliejaaGreatDoor
open Go.RowKit Go.Lib
set_option linter.unusedVariables false
set_option linter.unusedSimpArgs false
set_option maxHeartbeats 2000000 in
set_option maxRecDepth 1000000 in
theorem trimLeftASCII_calls (s:ByteArray) (l:List UInt8) (b:Nat) (w:World) (hc:∀ x:UInt8,w.cell? ⟨b,x.toNat,none⟩=some (.bool (l.contains x))) :
  Calls Tryz.prog 146 #[.string s,.pointer (some ⟨b,0,none⟩)] w fun e w'=>e=.returned (.string ⟨(s.data.toList.dropWhile (fun x=>l.contains x)).toArray⟩)∧w=w':=by
 have HC:=Lib.hid hc
 clear hc
 go_enter Tryz.func146,Tryz.ntmps146
 go_wp2
 go_loopw [0] (fun v wr=>∃ k:Nat,k≤s.size∧v=.string ⟨(s.data.toList.drop k).toArray⟩∧s.data.toList.dropWhile (fun x=>l.contains x)=(s.data.toList.drop k).dropWhile (fun x=>l.contains x)∧wr=w) (fun v _=>Lib.strSize v)
 case atStart=>exact ⟨0,Nat.zero_le _,by simp,by simp⟩
 case round =>
  obtain ⟨k,hk,rfl,hd,rfl⟩:=hrel
  have hts:(⟨(s.data.toList.drop k).toArray⟩:ByteArray).size=s.size-k:=by rw [Lib.size_mk,List.length_drop,← Lib.size_eq]
  have HD:=Lib.hid hd
  have hx1:(⟨(s.data.toList.drop k).toArray⟩:ByteArray).extract 1 (s.size-k)=⟨(s.data.toList.drop (k+1)).toArray⟩:=by
   rw [Lib.extract_mk,List.drop_drop,List.take_of_length_le (by simp;omega)]
  clear hd
  by_cases h0:k<s.size
  ·have hkl:k<s.data.toList.length:=by rw [← Lib.size_eq];exact h0
   obtain ⟨x,hx⟩:∃ x,s.data.toList[k]?=some x:=⟨_,List.getElem?_eq_getElem hkl⟩
   have hdrop:s.data.toList.drop k=x::s.data.toList.drop (k+1):=by
    rw [List.drop_eq_getElem_cons hkl];congr;rw [List.getElem?_eq_getElem hkl] at hx;exact Option.some.inj hx
   have hb0:∀ h,(⟨(s.data.toList.drop k).toArray⟩:ByteArray)[0]'h=x:=fun h=>by
    have:=Lib.getElem_mk (s.data.toList.drop k) 0 h
    rw [List.getElem?_drop] at this
    rw [Nat.add_zero,hx] at this
    exact (Option.some.inj this).symm
   have HDR:=Lib.hid hdrop
   clear hdrop hx
   generalize ht:(⟨(s.data.toList.drop k).toArray⟩:ByteArray)=t at hts hb0 hx1 ⊢
   have HT:=Lib.hid ht
   clear ht
   have h1:0<t.size:=by omega
   have h2:(0:Int)<(t.size:Int):=by omega
   have hb1:=hb0 h1
   clear hb0
   have hcon:=HC.out x
   cases hin:l.contains x with
   | true =>
    rw [hin] at hcon
    have hA:=Lib.hid (Tryz.asciiSet_contains b x true wr hcon)
    have HIN:=Lib.hid hin
    clear hcon hin
    go_wp2_with (first | (go_at_call 119;refine hA.out.mono ?_;rintro e w' ⟨rfl,rfl⟩))
    refine ⟨⟨k+1,by omega,rfl,?_,trivial⟩,?_⟩
    ·rw [HD.out,HDR.out,List.dropWhile_cons,if_pos (by simpa using HIN.out)]
    ·rw [Lib.strSize_string,Lib.strSize_string,Lib.size_mk,List.length_drop,← Lib.size_eq];omega
   | false =>
    rw [hin] at hcon
    have hA:=Lib.hid (Tryz.asciiSet_contains b x false wr hcon)
    have HIN:=Lib.hid hin
    clear hcon hin
    go_wp2_with (first | (go_at_call 119;refine hA.out.mono ?_;rintro e w' ⟨rfl,rfl⟩))
    go_ret
    refine ⟨?_,rfl⟩
    show Ending.returned (Value.string t)=_
    rw [← HT.out,HD.out,HDR.out,List.dropWhile_cons,if_neg (by simpa using HIN.out)]
  ·have hk2:k=s.size:=by omega
   have he:s.data.toList.drop k=[]:=List.drop_eq_nil_of_le (by rw [← Lib.size_eq];omega)
   rw [he] at hts hx1 ⊢
   rw [he] at HD
   have h1:(⟨([]:List UInt8).toArray⟩:ByteArray).size=0:=rfl
   clear hx1 hts
   go_wp2
   go_ret
   exact ⟨by rw [HD.out];rfl,rfl⟩
theorem cell_of_set (w:World) (l:List UInt8) (t:TypeId) (x:UInt8):(w.alloc (.cells (Lib.setCells l) t)).cell? ⟨w.heap.size,x.toNat,none⟩=some (.bool (l.contains x)):=blk_cell (heap_alloc_new w _) _ (Lib.setCells_at l x)
def Mo.tens:List UInt8:=[48,49,50,51,52,53,54,55,56,57]
def Mo.tensS:ByteArray:=⟨#[48,49,50,51,52,53,54,55,56,57]⟩
theorem zero104:∀ w,(zeroValue 178).run Tryz.prog w=.ok (.agg (Array.replicate 256 (.bool false))) w:=fun w=>by kernel_rfl
set_option maxHeartbeats 2000000 in
set_option maxRecDepth 1000000 in
theorem trimLeft_calls (s:ByteArray) (w:World) :
  Calls Tryz.prog 136 #[.string s,.string Mo.tensS] w fun e w'=>e=.returned (.string ⟨(s.data.toList.dropWhile (fun x=>Mo.tens.contains x)).toArray⟩)∧Below w.heap.size w w':=by
 have hascii:∀ (j:Nat) b,(⟨#[48,49,50,51,52,53,54,55,56,57]⟩:ByteArray).data.toList[j]?=some b→b.toNat<128:=fun j b hj=>by
  have:=List.mem_of_getElem? hj
  revert b
  intro b _ hb
  simp at hb
  rcases hb with rfl | rfl | rfl | rfl | rfl | rfl | rfl | rfl | rfl | rfl <;> decide
 have hM:=Lib.hid (Tryz.strings_makeASCIISet zero104 ⟨#[48,49,50,51,52,53,54,55,56,57]⟩ w (by decide) hascii)
 clear hascii
 unfold Mo.tensS Mo.tens
 have hsz:=Lib.setCells_size [48,49,50,51,52,53,54,55,56,57]
 have hi104:(Tryz.prog.info? 178).map (·.size)=some 256:=by kernel_rfl
 have hz:Tryz.zeroCells178.size=256:=by kernel_rfl
 have hsc:(storeCells ⟨w.heap.size+1,0,none⟩ (Lib.setCells [48,49,50,51,52,53,54,55,56,57]).toList 0).run Tryz.prog ((w.alloc (.cells (Lib.setCells [48,49,50,51,52,53,54,55,56,57]) 178)).alloc (.cells Tryz.zeroCells178 178))=.ok () ((w.alloc (.cells (Lib.setCells [48,49,50,51,52,53,54,55,56,57]) 178)).alloc (.cells (Lib.setCells [48,49,50,51,52,53,54,55,56,57]) 178)):=by
  have:=run_storeCells_new (P:=Tryz.prog) (w.alloc (.cells (Lib.setCells [48,49,50,51,52,53,54,55,56,57]) 178)) 178 Tryz.zeroCells178 (Lib.setCells [48,49,50,51,52,53,54,55,56,57]) (by rw [hsz];exact hi104) (by rw [hsz,hz]) (Lib.setCells_one _)
  simpa using this
 have hcells:∀ x:UInt8,((w.alloc (.cells (Lib.setCells [48,49,50,51,52,53,54,55,56,57]) 178)).alloc (.cells (Lib.setCells [48,49,50,51,52,53,54,55,56,57]) 178)).cell? ⟨w.heap.size+1,x.toNat,none⟩=some (.bool ([48,49,50,51,52,53,54,55,56,57].contains x)):=fun x=>by
  have:=cell_of_set (w.alloc (.cells (Lib.setCells [48,49,50,51,52,53,54,55,56,57]) 178)) [48,49,50,51,52,53,54,55,56,57] 178 x
  simpa using this
 have hT:=Lib.hid (trimLeftASCII_calls s [48,49,50,51,52,53,54,55,56,57] (w.heap.size+1) _ hcells)
 have hb:=Lib.hid (((Below.refl w.heap.size w).alloc (Nat.le_refl _) (.cells (Lib.setCells [48,49,50,51,52,53,54,55,56,57]) 178)).alloc (by simp) (.cells (Lib.setCells [48,49,50,51,52,53,54,55,56,57]) 178))
 clear hcells hi104 hz
 cases hs:s.toList.isEmpty with
 | true =>
  have hl:s.data.toList=[]:=by rw [← Lib.toList_data];simpa using hs
  go_enter Tryz.func136,Tryz.ntmps136
  go_wp2
  go_ret
  refine ⟨?_,Below.refl _ _⟩
  have:s=⟨#[]⟩:=by
   cases s with | mk d=>cases d with | mk l=>simp at hl;subst hl;rfl
  subst this
  rfl
 | false =>
  generalize (List.dropWhile (fun x=>[48,49,50,51,52,53,54,55,56,57].contains x) s.data.toList)=t at hT ⊢
  go_enter Tryz.func136,Tryz.ntmps136
  go_wp2_with (first | (go_at_call 118;refine hM.out.mono ?_;rintro e w' ⟨rfl,rfl⟩))
  go_wp2_with (first | (go_at_call 146;refine hT.out.mono ?_;rintro e w' ⟨rfl,rfl⟩))
  go_ret
  exact ⟨rfl,hb.out⟩
def Mo.digB (l:List UInt8):Bool:=!l.isEmpty&&l.all (fun x=>Mo.tens.contains x)
theorem Mo.drop_nil (l:List UInt8) (p:UInt8→Bool):(l.dropWhile p).isEmpty=l.all p:=by
 induction l with
 | nil=>rfl
 | cons a l ih =>
  rw [List.dropWhile_cons,List.all_cons]
  cases h:p a with
  | true=>simpa using ih
  | false=>simp
set_option maxHeartbeats 2000000 in
set_option maxRecDepth 1000000 in
theorem digits_calls (s:ByteArray) (w:World) :
  Calls Tryz.prog 123 #[.string s] w fun e w'=>e=.returned (.bool (Mo.digB s.data.toList))∧Below w.heap.size w w':=by
 have hT:=Lib.hid (trimLeft_calls s w)
 unfold Mo.tensS at hT
 unfold Mo.digB
 rw [← Mo.drop_nil]
 generalize (s.data.toList.dropWhile (fun x=>Mo.tens.contains x))=t at hT ⊢
 cases hs:s.data.toList.isEmpty with
 | true =>
  have hs1:s.toList.isEmpty=true:=by rw [Lib.toList_data];exact hs
  go_enter Tryz.func123,Tryz.ntmps123
  go_wp2
  go_ret
  exact ⟨rfl,Below.refl _ _⟩
 | false =>
  have hs1:s.toList.isEmpty=false:=by rw [Lib.toList_data];exact hs
  have ht1:(⟨t.toArray⟩:ByteArray).toList=t:=by rw [Lib.toList_data]
  go_enter Tryz.func123,Tryz.ntmps123
  go_wp2_with (first | (go_at_call 136;refine hT.out.mono ?_;rintro e w' ⟨rfl,hb⟩))
  go_ret
  exact ⟨by show Ending.returned (Value.bool t.isEmpty)=_;simp,hb⟩
end Go.Proofs.YtcakgennlliejaaGreatDoor
namespace Go.Proofs.YtcakgennlliejaaGreatDoor
open Go.RowKit Go.Lib
set_option linter.unusedVariables false
set_option linter.unusedSimpArgs false
namespace Mo
def S (l:List UInt8):ByteArray:=⟨l.toArray⟩
theorem S_data (l:List UInt8):(S l).data.toList=l:=rfl
theorem S_toList (l:List UInt8):(S l).toList=l:=by rw [Lib.toList_data];rfl
theorem S_size (l:List UInt8):(S l).size=l.length:=by simp [S,ByteArray.size]
theorem S_get (l:List UInt8) (i:Nat) (x:UInt8) (hx:l[i]?=some x) (h:i<(S l).size):(S l)[i]'h=x:=by
 have h':i<l.length:=by rw [S_size] at h;exact h
 rw [List.getElem?_eq_getElem h'] at hx
 exact Option.some.inj hx
theorem S_extract (l:List UInt8) (a b:Nat):(S l).extract a b=S ((l.drop a).take (b-a)):=Lib.extract_mk l a b
def cutDot (l:List UInt8):List UInt8 × List UInt8 × Bool :=
 if Lib.indexByte l 46<0 then (l,[],false) else (l.take (Lib.indexByte l 46).toNat,l.drop ((Lib.indexByte l 46).toNat+1),true)
theorem indexByte_lt (l:List UInt8) (c:UInt8):Lib.indexByte l c<l.length∨Lib.indexByte l c=-1:=by
 induction l with
 | nil=>right;rfl
 | cons b l ih =>
  unfold Lib.indexByte
  have hg:=Lib.indexByte_ge l c
  split
  ·left;simp
  ·split
   ·right;rfl
   ·rename_i h
    left
    simp at h
    simp only [List.length_cons]
    omega
def dg (c:UInt8):Nat:=c.toNat-48
theorem dg_eq (c:UInt8):dg c=c.toNat-48:=rfl
attribute [irreducible] dg
def val (acc:Nat):List UInt8→Nat
 | []=>acc
 | c::r=>val (acc*10+dg c) r
theorem val_nil (acc:Nat):val acc []=acc:=rfl
theorem val_cons (acc:Nat) (c:UInt8) (r:List UInt8):val acc (c::r)=val (acc*10+dg c) r:=rfl
attribute [irreducible] val
theorem tens_iff (x:UInt8):tens.contains x=true↔48≤x.toNat∧x.toNat≤57:=by
 constructor
 ·intro h
  simp [tens] at h
  rcases h with rfl | rfl | rfl | rfl | rfl | rfl | rfl | rfl | rfl | rfl <;> decide
 ·rintro ⟨h1,h2⟩
  have:x=UInt8.ofNat x.toNat:=by simp
  rw [this]
  have h3:x.toNat<58:=by omega
  generalize x.toNat=n at *
  revert h1 h2 h3
  clear this
  have:∀ n,n<58→48≤n→n≤57→tens.contains (UInt8.ofNat n)=true:=by decide
  exact fun h1 h2 h3=>this n h3 h1 h2
theorem val_le (l:List UInt8):∀ acc:Nat,l.all (fun x=>tens.contains x)=true→val acc l<(acc+1)*10 ^ l.length:=by
 induction l with
 | nil =>
  intro acc _
  rw [val_nil,List.length_nil,Nat.pow_zero]
  omega
 | cons c r ih =>
  intro acc h
  rw [List.all_cons,Bool.and_eq_true] at h
  have h1:=(tens_iff c).1 h.1
  have h0:=dg_eq c
  have h2:=ih (acc*10+dg c) h.2
  have h3:=val_cons acc c r
  have h4:acc*10+dg c+1≤(acc+1)*10:=by omega
  have h5:=Nat.mul_le_mul_right (10 ^ r.length) h4
  have h6:(acc+1)*10 ^ (c::r).length=(acc+1)*10*10 ^ r.length:=by
   rw [List.length_cons,Nat.pow_succ,Nat.mul_assoc,Nat.mul_comm 10]
  rw [h3,h6]
  exact Nat.lt_of_lt_of_le h2 h5
theorem val_ge (l:List UInt8):∀ acc:Nat,acc≤val acc l:=by
 induction l with
 | nil=>intro acc;rw [val_nil];exact Nat.le_refl _
 | cons c r ih =>
  intro acc
  have:=ih (acc*10+dg c)
  rw [val_cons]
  exact Nat.le_trans (by omega) this
theorem parse_step (M acc:Nat) (c:UInt8) (r:List UInt8) (h1:48≤c.toNat∧c.toNat≤57) (g1:¬ 1844674407370955162≤acc) (g2:¬ M<acc*10+dg c) :
  Lib.parseUintM M acc (c::r)=Lib.parseUintM M (acc*10+dg c) r:=by
 rw [dg_eq] at g2 ⊢
 rw [Lib.parseUintM,if_pos h1,if_neg g1,if_neg g2]
theorem parseU (M T:Nat) (hM:T≤M) (hT:T≤1844674407370955162) (l:List UInt8):∀ acc:Nat,l.all (fun x=>tens.contains x)=true→val acc l<T→Lib.parseUintM M acc l=.ok (val acc l):=by
 induction l with
 | nil=>intro acc _ _;rw [val_nil];rfl
 | cons c r ih =>
  intro acc h hv
  rw [List.all_cons,Bool.and_eq_true] at h
  have h1:=(tens_iff c).1 h.1
  have h0:=dg_eq c
  have h2:=val_ge r (acc*10+dg c)
  have h3:=val_cons acc c r
  rw [h3] at hv ⊢
  have g1:¬ 1844674407370955162≤acc:=fun h=>by omega
  have g2:¬ M<acc*10+dg c:=fun h=>by omega
  rw [parse_step M acc c r h1 g1 g2]
  exact ih _ h.2 hv
theorem parseI (l:List UInt8) (h:digB l=true) (hl:l.length≤14):Lib.parseIntB 64 l=.ok (val 0 l:Nat):=by
 unfold digB at h
 simp only [Bool.and_eq_true] at h
 obtain ⟨h1,h2⟩:=h
 have hv:=val_le l 0 h2
 have hp:10 ^ l.length≤10 ^ 14:=Nat.pow_le_pow_right (by omega) hl
 have hv2:val 0 l<1000000000000000000:=by
  have:(10:Nat) ^ 14=100000000000000:=by decide
  omega
 match l,h1,h2,hv2 with
 | c::r,_,h2,hv2 =>
  have hc:=h2
  simp only [List.all_cons,Bool.and_eq_true] at hc
  have hd:=(tens_iff c).1 hc.1
  unfold Lib.parseIntB
  simp only []
  rw [if_neg (by omega)]
  unfold Lib.parseUintB
  rw [if_neg (by simp),parseU _ 1000000000000000000 (by decide) (by decide) _ _ h2 hv2]
  simp only []
  rw [if_neg (by rintro ⟨_,h⟩;have:(2:Nat) ^ (64-1)=9223372036854775808:=(by decide);omega),if_neg (by rintro ⟨h,_⟩;omega),if_neg (by omega)]
end Mo
theorem cut_calls (l:List UInt8) (hl:l.length≤9223372036854775000) (w:World) :
  Calls Tryz.prog 103 #[.string (Mo.S l),.string ⟨#[46]⟩] w fun e w'=>e=.returned (.tuple #[.string (Mo.S (Mo.cutDot l).1),.string (Mo.S (Mo.cutDot l).2.1),.bool (Mo.cutDot l).2.2])∧∃ n,w'=w.drewN n:=by
 have hI:=Lib.hid (Tryz.stringslite_Index_one (Mo.S l) 46 w)
 have hi:Calls Tryz.prog 120 #[.string (Mo.S l),.string ⟨#[46]⟩] w fun e w'=>e=.returned (.tuple #[.string (Mo.S (Mo.cutDot l).1),.string (Mo.S (Mo.cutDot l).2.1),.bool (Mo.cutDot l).2.2])∧∃ n,w'=w.drewN n:=by
  unfold Mo.cutDot
  rw [Mo.S_data] at hI
  have hg:=Lib.indexByte_ge l 46
  have hlt:=Mo.indexByte_lt l 46
  generalize Lib.indexByte l 46=i at *
  have hsz:=Mo.S_size l
  by_cases h:i<0
  ·obtain rfl:i=-1:=by omega
   simp only [h,if_true]
   clear hlt hg h
   go_enter Tryz.func120,Tryz.ntmps120
   go_wp2_with (first | (go_at_call 126;refine hI.out.mono ?_;rintro e w' ⟨rfl,rfl⟩))
   refine bodyPost_ret (v:=.tuple #[.string (Mo.S l),.string (Mo.S []),.bool false]) (by simp [results,Tryz.results120,go_sem];rfl) rfl ⟨rfl,0,rfl⟩
  ·simp only [h,if_false]
   obtain ⟨k,rfl⟩:=Int.eq_ofNat_of_zero_le (show 0≤i by omega)
   have hk:k<l.length:=by omega
   have h1:decide ((0:Int)≤(k:Int))=true:=decide_eq_true (by omega)
   have h2:(0:Int)≤(k:Int):=by omega
   have h3:(k:Int)≤((Mo.S l).size:Int):=by rw [hsz];omega
   have h4:IntKind.i64.wrap ((k:Int)+1)=(k:Int)+1:=IntWalk.i64_in _ (by omega)
   have h5:(0:Int)≤(k:Int)+1:=by omega
   have h6:(k:Int)+1≤((Mo.S l).size:Int):=by rw [hsz];omega
   have e1:(Mo.S l).extract 0 k=Mo.S (l.take k):=by rw [Mo.S_extract];simp
   have e2:(Mo.S l).extract (k+1) l.length=Mo.S (l.drop (k+1)):=by rw [Mo.S_extract,List.take_of_length_le (by simp)]
   clear hlt hg h
   go_enter Tryz.func120,Tryz.ntmps120
   go_wp2_with (first | (go_at_call 126;refine hI.out.mono ?_;rintro e w' ⟨rfl,rfl⟩))
   go_quiet (fail)
   go_wp2
   refine bodyPost_ret (v:=.tuple #[.string (Mo.S (l.take k)),.string (Mo.S (l.drop (k+1))),.bool true]) (by simp [results,Tryz.results120,go_sem]) rfl ⟨rfl,_,rfl⟩
 have HI:=Lib.hid hi
 clear hi hI
 go_enter Tryz.func103,Tryz.ntmps103
 go_wp2_with (first | (go_at_call 120;refine HI.out.mono ?_;rintro e w' ⟨rfl,n,rfl⟩))
 refine bodyPost_ret (v:=.tuple #[.string (Mo.S (Mo.cutDot l).1),.string (Mo.S (Mo.cutDot l).2.1),.bool (Mo.cutDot l).2.2]) (by simp [results,Tryz.results103,go_sem]) rfl ⟨rfl,n,rfl⟩
end Go.Proofs.YtcakgennlliejaaGreatDoor
namespace Go.Proofs.YtcakgennlliejaaGreatDoor
open Go.RowKit Go.Lib
set_option linter.unusedVariables false
set_option linter.unusedSimpArgs false
namespace Mo
def c1 (wh:List UInt8):Bool:=!digB wh||(decide (1<wh.length)&&(wh[0]?==some 48))
def c2 (ha:Bool) (ce:List UInt8):Bool:=ha&&(ce.length != 2||!digB ce||ce==[48,48])
def c3 (neg:Bool) (wh:List UInt8) (ha:Bool):Bool:=neg&&wh==[48]&&!ha
def cents (wh:List UInt8) (ha:Bool) (ce:List UInt8):Int:=(val 0 wh:Int)*100+(if ha then (dg (ce.getD 0 0):Int)*10+(dg (ce.getD 1 0):Int) else 0)
def parse3 (neg:Bool) (wh ce:List UInt8) (ha:Bool):Int × Int :=
 if c1 wh=true then (0,21) else if c2 ha ce=true then (0,21) else if c3 neg wh ha=true then (0,21) else if 14<wh.length then (0,22)
 else if chk (if neg then -cents wh ha ce else cents wh ha ce)=0 then ((if neg then -cents wh ha ce else cents wh ha ce),0) else (0,22)
def parse (l:List UInt8):Int × Int :=
 parse3 (Lib.hasPrefix l [45]) (cutDot (Lib.trimPrefix l [45])).1 (cutDot (Lib.trimPrefix l [45])).2.1 (cutDot (Lib.trimPrefix l [45])).2.2
theorem val_lt (l:List UInt8) (h:digB l=true) (hl:l.length≤14):val 0 l<100000000000000:=by
 unfold digB at h
 simp only [Bool.and_eq_true] at h
 have hv:=val_le l 0 h.2
 have hp:10 ^ l.length≤10 ^ 14:=Nat.pow_le_pow_right (by omega) hl
 have:(10:Nat) ^ 14=100000000000000:=by decide
 omega
theorem cut_len (l:List UInt8):(cutDot l).1.length≤l.length∧(cutDot l).2.1.length≤l.length:=by
 unfold cutDot
 split
 ·simp
 ·simp;omega
theorem trim_len (l:List UInt8):(Lib.trimPrefix l [45]).length≤l.length:=by
 unfold Lib.trimPrefix
 split
 ·simp
 ·exact Nat.le_refl _
end Mo
theorem below_drewn {B:Nat} {w w1:World} (h:Below B w w1) (n:Nat):Below B w (w1.drewN n):=⟨h.os,h.tape,h.output,h.size,h.block⟩
theorem below_bytes (w:World) (t:ByteArray):Below w.heap.size w (Lib.bytesWorld w 5 t) :=
 Go.Joins.below_bytesWorld _ _ _ _ (Nat.le_refl _)
theorem parse_calls (l:List UInt8) (hl:l.length≤9223372036854770000) (w:World) :
  Calls Tryz.prog 106 #[.string (Mo.S l)] w fun e w'=>e=.returned (.tuple #[.int .i64 (Mo.parse l).1,.int .i64 (Mo.parse l).2])∧Below w.heap.size w w':=by
 have hP:=Tryz.strings_CutPrefix (Mo.S l) ⟨#[45]⟩ w
 have hl1:=Mo.trim_len l
 have hC:=fun w=>cut_calls (Lib.trimPrefix l [45]) (by omega) w
 have hl2:=Mo.cut_len (Lib.trimPrefix l [45])
 rw [Mo.S_data] at hP
 unfold Mo.parse
 have e1:(⟨#[45]⟩:ByteArray).data.toList=[45]:=rfl
 rw [e1] at hP
 generalize Lib.hasPrefix l [45]=neg at *
 generalize hb:Lib.trimPrefix l [45]=b at *
 generalize (Mo.cutDot b).1=wh at *
 generalize (Mo.cutDot b).2.1=ce at *
 generalize (Mo.cutDot b).2.2=ha at *
 have HP:=Lib.hid (hP.mono (fun e w' (h:_∧_)=>And.intro h.1 h.2.symm))
 have HC:=Lib.hid hC
 have HW:=Lib.hid hl2
 clear hP hC hb e1
 go_enter Tryz.func106,Tryz.ntmps106
 go_upto_region 3 with (first | (go_at_call 122;refine HP.out.mono ?_;rintro e w' ⟨rfl,rfl⟩) | (go_at_call 103;refine (HC.out _).mono ?_;rintro e w' ⟨rfl,n1,rfl⟩))
 have hb1:=Lib.hid (below_drewn (Below.refl w.heap.size w) n1)
 clear HP HC
 have hsz:=Mo.S_size wh
 have hsc:=Mo.S_size ce
 go_cut [22] (fun v W=>v=.bool (Mo.c1 wh)∧Below w.heap.size w W)
 case first =>
  have hD:=fun W=>digits_calls (Mo.S wh) W
  rw [Mo.S_data] at hD
  have hnil:Mo.digB wh=true→wh≠[]:=by rintro h rfl;simp [Mo.digB] at h
  cases hd:Mo.digB wh with
  | false =>
   rw [hd] at hD
   have HD:=Lib.hid hD
   have hc:=Lib.hid (show Mo.c1 wh=true by simp [Mo.c1,hd])
   clear hD
   go_wp2_with (first | (go_at_call 123;refine (HD.out _).mono ?_;rintro e W ⟨rfl,hB⟩))
   go_meet
   exact ⟨by rw [hc.out],hb1.out.trans (hB.mono hb1.out.size)⟩
  | true =>
   rw [hd] at hD
   have HD:=Lib.hid hD
   clear hD
   by_cases hlen:1<wh.length
   ·have d1:decide ((1:Int)<(wh.length:Int))=true:=decide_eq_true (by omega)
    have d2:decide (1<wh.length)=true:=decide_eq_true hlen
    obtain ⟨x,hx⟩:∃ x,wh[0]?=some x:=⟨_,List.getElem?_eq_getElem (by omega)⟩
    have hsz0:0<(Mo.S wh).size:=by omega
    have hsz1:(0:Int)<((Mo.S wh).size:Int):=by omega
    have hg:=Mo.S_get wh 0 x hx
    by_cases hx0:x.toNat=48
    ·have hc:=Lib.hid (show Mo.c1 wh=true by
      have:x=48:=UInt8.toNat_inj.1 hx0
      simp [Mo.c1,hd,hlen,hx,this])
     have d3:((x.toNat:Int)==48)=true:=by rw [hx0];rfl
     generalize hT:Mo.S wh=T at *
     have hg2:=hg hsz0
     clear hg
     go_wp2_with (first | (go_at_call 123;refine (HD.out _).mono ?_;rintro e W ⟨rfl,hB⟩))
     go_meet
     exact ⟨by rw [hc.out],hb1.out.trans (hB.mono hb1.out.size)⟩
    ·have hc:=Lib.hid (show Mo.c1 wh=false by
      have:¬ x=48:=fun e=>hx0 (by rw [e];rfl)
      simp [Mo.c1,hd,hlen,hx,this])
     have d3:((x.toNat:Int)==48)=false:=by simp;omega
     generalize hT:Mo.S wh=T at *
     have hg2:=hg hsz0
     clear hg
     go_wp2_with (first | (go_at_call 123;refine (HD.out _).mono ?_;rintro e W ⟨rfl,hB⟩))
     go_meet
     exact ⟨by rw [hc.out],hb1.out.trans (hB.mono hb1.out.size)⟩
   ·have d1:decide ((1:Int)<(wh.length:Int))=false:=decide_eq_false (by omega)
    have d2:decide (1<wh.length)=false:=decide_eq_false hlen
    have hc:=Lib.hid (show Mo.c1 wh=false by simp [Mo.c1,hd,d2])
    go_wp2_with (first | (go_at_call 123;refine (HD.out _).mono ?_;rintro e W ⟨rfl,hB⟩))
    go_meet
    exact ⟨by rw [hc.out],hb1.out.trans (hB.mono hb1.out.size)⟩
 case rest =>
  obtain ⟨rfl,hb2⟩:=hcut
  have HB2:=Lib.hid hb2
  clear hb1 hb2
  cases h1:Mo.c1 wh with
  | true =>
   have hr:=Lib.hid (show Mo.parse3 neg wh ce ha=(0,21) by simp [Mo.parse3,h1])
   go_wp2
   go_ret2
   exact ⟨by rw [hr.out];rfl,HB2.out⟩
  | false =>
   have hdw:Mo.digB wh=true:=by
    cases h:Mo.digB wh with
    | true=>rfl
    | false=>simp [Mo.c1,h] at h1
   go_upto_region 5 with (fail)
   go_cut [36] (fun v W=>v=.bool (Mo.c2 ha ce)∧Below w.heap.size w W)
   case first =>
    cases ha with
    | false =>
     have hc:=Lib.hid (show Mo.c2 false ce=false by simp [Mo.c2])
     go_wp2
     go_meet
     exact ⟨by rw [hc.out],HB2.out⟩
    | true =>
     by_cases hlen:ce.length=2
     ·have d1:((ce.length:Int) != 2)=false:=by rw [hlen];rfl
      have d2:(ce.length != 2)=false:=by rw [hlen];rfl
      have hD:=fun W=>digits_calls (Mo.S ce) W
      rw [Mo.S_data] at hD
      cases hd:Mo.digB ce with
      | false =>
       rw [hd] at hD
       have HD:=Lib.hid hD
       have hc:=Lib.hid (show Mo.c2 true ce=true by simp [Mo.c2,hd])
       clear hD
       go_wp2_with (first | (go_at_call 123;refine (HD.out _).mono ?_;rintro e W ⟨rfl,hB⟩))
       go_meet
       exact ⟨by rw [hc.out],HB2.out.trans (hB.mono HB2.out.size)⟩
      | true =>
       rw [hd] at hD
       have HD:=Lib.hid hD
       have d3:((Mo.S ce).toList==[48,48])=(ce==[48,48]):=by rw [Mo.S_toList]
       have hc:=Lib.hid (show Mo.c2 true ce=(ce==[48,48]) by simp [Mo.c2,hd,hlen])
       clear hD
       go_wp2_with (first | (go_at_call 123;refine (HD.out _).mono ?_;rintro e W ⟨rfl,hB⟩))
       go_meet
       exact ⟨by rw [hc.out,← d3],HB2.out.trans (hB.mono HB2.out.size)⟩
     ·have d1:((ce.length:Int) != 2)=true:=by simpa using fun h=>hlen (by omega)
      have d2:(ce.length != 2)=true:=by simpa using hlen
      have hc:=Lib.hid (show Mo.c2 true ce=true by simp [Mo.c2,hlen])
      go_wp2
      go_meet
      exact ⟨by rw [hc.out],HB2.out⟩
   case rest =>
    obtain ⟨rfl,hb3⟩:=hcut
    have HB3:=Lib.hid hb3
    clear HB2 hb3
    cases h2:Mo.c2 ha ce with
    | true =>
     have hr:=Lib.hid (show Mo.parse3 neg wh ce ha=(0,21) by simp [Mo.parse3,h1,h2])
     go_wp2
     go_ret2
     exact ⟨by rw [hr.out];rfl,HB3.out⟩
    | false =>
     go_upto_region 7 with (fail)
     go_cut [52] (fun v W=>v=.bool (Mo.c3 neg wh ha)∧Below w.heap.size w W)
     case first =>
      have d3:((Mo.S wh).toList==[48])=(wh==[48]):=by rw [Mo.S_toList]
      cases neg <;> cases hw:(wh==[48]) <;> cases ha
      all_goals
       rw [hw] at d3
       have HW3:=Lib.hid hw
       clear hw
       go_wp2
       go_meet
      all_goals exact ⟨by simp [Mo.c3,HW3.out],HB3.out⟩
     case rest =>
      obtain ⟨rfl,hb4⟩:=hcut
      have HB4:=Lib.hid hb4
      clear HB3 hb4
      cases h3:Mo.c3 neg wh ha with
      | true =>
       have hr:=Lib.hid (show Mo.parse3 neg wh ce ha=(0,21) by simp [Mo.parse3,h1,h2,h3])
       go_wp2
       go_ret2
       exact ⟨by rw [hr.out];rfl,HB4.out⟩
      | false =>
       by_cases h4:14<wh.length
       ·have hr:=Lib.hid (show Mo.parse3 neg wh ce ha=(0,22) by simp [Mo.parse3,h1,h2,h3,h4])
        have d1:decide ((14:Int)<(wh.length:Int))=true:=decide_eq_true (by omega)
        have d2:decide (14<wh.length)=true:=decide_eq_true h4
        go_wp2
        go_ret2
        exact ⟨by rw [hr.out];rfl,HB4.out⟩
       ·have d1:decide ((14:Int)<(wh.length:Int))=false:=decide_eq_false (by omega)
        have d2:decide (14<wh.length)=false:=decide_eq_false h4
        have hN:=Lib.hid (Tryz.strconv_ParseInt_10_at64_ok (Mo.S wh) (by rw [hsz];omega) (Mo.val 0 wh:Nat) (by rw [Mo.S_data];exact Mo.parseI wh hdw (by omega)) wc)
        have hr:=Lib.hid (show Mo.parse3 neg wh ce ha=if Mo.chk (if neg then -Mo.cents wh ha ce else Mo.cents wh ha ce)=0 then ((if neg then -Mo.cents wh ha ce else Mo.cents wh ha ce),0) else (0,22) by simp [Mo.parse3,h1,h2,h3,h4])
        have hv:=Mo.val_lt wh hdw (by omega)
        generalize hV:Mo.val 0 wh=V at *
        have HV:=Lib.hid hV
        have m1:IntKind.i64.wrap ((V:Int)*100)=(V:Int)*100:=IntWalk.i64_in _ (by omega)
        clear hV
        go_upto_region 13 with (first | (go_at_call 124;refine hN.out.mono ?_;rintro e W ⟨rfl,hW⟩))
        have HB5:=Lib.hid (show Below w.heap.size w W by
         rcases hW with rfl | ⟨t,rfl⟩
         ·exact HB4.out
         ·exact HB4.out.trans ((below_bytes _ _).mono HB4.out.size))
        clear hW hN HB4
        cases ha with
        | false =>
         have hT:=Lib.hid (show Mo.cents wh false ce=(V:Int)*100 by simp [Mo.cents,HV.out])
         have hb:(0:Int)≤(V:Int)*100∧(V:Int)*100<10000000000000000:=by omega
         have hneg:IntKind.i64.wrap (-((V:Int)*100))=-((V:Int)*100):=IntWalk.i64_in _ (by omega)
         cases neg with
         | false =>
          have hr2:=hr.out
          rw [hT.out] at hr2
          simp only [Bool.false_eq_true,if_false] at hr2
          cases hk:(Mo.chk ((V:Int)*100)==0)
          all_goals
           have HR:=Lib.hid hr2
           have HK:=Lib.hid hk
           have hk2:(Mo.chk ((V:Int)*100) != 0)=!(Mo.chk ((V:Int)*100)==0):=rfl
           rw [hk] at hk2
           clear hr2
           go_wp2_with (first | (go_at_call 125;refine (check_calls _ _).mono ?_;rintro e W2 ⟨rfl,rfl⟩))
           go_ret2
           refine ⟨?_,HB5.out⟩
           rw [HR.out]
           have:=HK.out
           simp at this
           simp [this]
         | true =>
          have hr2:=hr.out
          rw [hT.out] at hr2
          simp only [if_true] at hr2
          cases hk:(Mo.chk (-((V:Int)*100))==0)
          all_goals
           have HR:=Lib.hid hr2
           have HK:=Lib.hid hk
           have hk2:(Mo.chk (-((V:Int)*100)) != 0)=!(Mo.chk (-((V:Int)*100))==0):=rfl
           rw [hk] at hk2
           clear hr2
           go_wp2_with (first | (go_at_call 125;refine (check_calls _ _).mono ?_;rintro e W2 ⟨rfl,rfl⟩))
           go_ret2
           refine ⟨?_,HB5.out⟩
           rw [HR.out]
           have:=HK.out
           simp at this
           simp [this]
        | true =>
         obtain ⟨x0,x1,rfl,q0,q1⟩:∃ x0 x1,ce=[x0,x1]∧(48≤x0.toNat∧x0.toNat≤57)∧(48≤x1.toNat∧x1.toNat≤57):=by
          simp only [Mo.c2,Bool.true_and,Bool.or_eq_false_iff] at h2
          obtain ⟨⟨g1,g2⟩,-⟩:=h2
          have g1':ce.length=2:=by simpa using g1
          match ce,g1' with
          | [x0,x1],_ =>
           have g3:Mo.digB [x0,x1]=true:=by simpa using g2
           simp only [Mo.digB,List.all_cons,List.all_nil,Bool.and_true,Bool.and_eq_true] at g3
           exact ⟨x0,x1,rfl,(Mo.tens_iff x0).1 g3.2.1,(Mo.tens_iff x1).1 g3.2.2⟩
         have w0:=Mo.dg_eq x0
         have w1:=Mo.dg_eq x1
         have hT:=Lib.hid (show Mo.cents wh true [x0,x1]=(V:Int)*100+(((x0.toNat:Int)-48)*10+((x1.toNat:Int)-48)) by simp [Mo.cents,HV.out];omega)
         have hb:(0:Int)≤(V:Int)*100+(((x0.toNat:Int)-48)*10+((x1.toNat:Int)-48))∧(V:Int)*100+(((x0.toNat:Int)-48)*10+((x1.toNat:Int)-48))<20000000000000000:=by omega
         have hneg:IntKind.i64.wrap (-((V:Int)*100+(((x0.toNat:Int)-48)*10+((x1.toNat:Int)-48))))=-((V:Int)*100+(((x0.toNat:Int)-48)*10+((x1.toNat:Int)-48))):=IntWalk.i64_in _ (by omega)
         have s0:IntKind.u8.wrap ((x0.toNat:Int)-48)=(x0.toNat:Int)-48:=by rw [IntKind.wrap_u8];omega
         have s1:IntKind.u8.wrap ((x1.toNat:Int)-48)=(x1.toNat:Int)-48:=by rw [IntKind.wrap_u8];omega
         have s2:IntKind.i64.wrap ((x0.toNat:Int)-48)=(x0.toNat:Int)-48:=IntWalk.i64_in _ (by omega)
         have s3:IntKind.i64.wrap ((x1.toNat:Int)-48)=(x1.toNat:Int)-48:=IntWalk.i64_in _ (by omega)
         have s4:IntKind.i64.wrap (((x0.toNat:Int)-48)*10)=((x0.toNat:Int)-48)*10:=IntWalk.i64_in _ (by omega)
         have s5:IntKind.i64.wrap (((x0.toNat:Int)-48)*10+((x1.toNat:Int)-48))=((x0.toNat:Int)-48)*10+((x1.toNat:Int)-48):=IntWalk.i64_in _ (by omega)
         have s6:IntKind.i64.wrap ((V:Int)*100+(((x0.toNat:Int)-48)*10+((x1.toNat:Int)-48)))=(V:Int)*100+(((x0.toNat:Int)-48)*10+((x1.toNat:Int)-48)):=IntWalk.i64_in _ (by omega)
         have k0:0<(Mo.S [x0,x1]).size:=by rw [Mo.S_size];simp
         have k1:1<(Mo.S [x0,x1]).size:=by rw [Mo.S_size];simp
         have k2:(0:Int)<((Mo.S [x0,x1]).size:Int):=by omega
         have k3:(1:Int)<((Mo.S [x0,x1]).size:Int):=by omega
         have k4:(Mo.S [x0,x1])[0]'k0=x0:=Mo.S_get _ 0 x0 rfl k0
         have k5:(Mo.S [x0,x1])[1]'k1=x1:=Mo.S_get _ 1 x1 rfl k1
         generalize Mo.S [x0,x1]=C at *
         cases neg with
         | false =>
          have hr2:=hr.out
          rw [hT.out] at hr2
          simp only [Bool.false_eq_true,if_false] at hr2
          cases hk:(Mo.chk ((V:Int)*100+(((x0.toNat:Int)-48)*10+((x1.toNat:Int)-48)))==0)
          all_goals
           have HR:=Lib.hid hr2
           have HK:=Lib.hid hk
           have hk2:(Mo.chk ((V:Int)*100+(((x0.toNat:Int)-48)*10+((x1.toNat:Int)-48))) != 0)=!(Mo.chk ((V:Int)*100+(((x0.toNat:Int)-48)*10+((x1.toNat:Int)-48)))==0):=rfl
           rw [hk] at hk2
           clear hr2 hsc
           go_wp2
           go_quiet (fail)
           go_wp2_with (first | (go_at_call 125;refine (check_calls _ _).mono ?_;rintro e W2 ⟨rfl,rfl⟩))
           go_ret2
           refine ⟨?_,below_drewn HB5.out _⟩
           rw [HR.out]
           have:=HK.out
           simp at this
           simp [this]
         | true =>
          have hr2:=hr.out
          rw [hT.out] at hr2
          simp only [if_true] at hr2
          cases hk:(Mo.chk (-((V:Int)*100+(((x0.toNat:Int)-48)*10+((x1.toNat:Int)-48))))==0)
          all_goals
           have HR:=Lib.hid hr2
           have HK:=Lib.hid hk
           have hk2:(Mo.chk (-((V:Int)*100+(((x0.toNat:Int)-48)*10+((x1.toNat:Int)-48)))) != 0)=!(Mo.chk (-((V:Int)*100+(((x0.toNat:Int)-48)*10+((x1.toNat:Int)-48))))==0):=rfl
           rw [hk] at hk2
           clear hr2 hsc
           go_wp2
           go_quiet (fail)
           go_wp2_with (first | (go_at_call 125;refine (check_calls _ _).mono ?_;rintro e W2 ⟨rfl,rfl⟩))
           go_ret2
           refine ⟨?_,below_drewn HB5.out _⟩
           rw [HR.out]
           have:=HK.out
           simp at this
           simp [this]
end Go.Proofs.YtcakgennlliejaaGreatDoor
namespace Go.Proofs.YtcakgennlliejaaGreatDoor
open Go.Shelf Go.RowKit Go.Lib
set_option linter.unusedVariables false
set_option linter.unusedSimpArgs false
theorem below_next {w w1 w2:World} (b1:Below w.heap.size w w1) (b2:Below w1.heap.size w1 w2):Below w.heap.size w w2:=b1.trans (b2.mono b1.size)
theorem keep_cell {w w1:World} {p:Addr} {v:Value} (h:w.cell? p=some v) (b:Below w.heap.size w w1):w1.cell? p=some v:=(b.cell (World.block_lt_of_cell? w p h)).trans h
namespace Sx
structure Tok where
 k:Int
 t:ByteArray
 a:Int
def noTok:Tok:=⟨0,⟨#[]⟩,0⟩
inductive Res (α:Type) where
 | ok (v:α) (p:Nat)
 | bad (e a:Int)
def Res.bnd {α β:Type} (r:Res α) (f:α→Nat→Res β):Res β:=match r with
 | .ok v p=>f v p
 | .bad e a=>.bad e a
structure Env where
 rb:Nat
 A:Option Addr
 c:Nat
 T:List Tok
 E:Int
namespace Env
variable (V:Env)
def place (p:Nat):Int:=if p<V.T.length then (V.T.getD p noTok).a else V.E
def next (p:Nat):Tok:=V.T.getD p noTok
def isT (k:Int) (s:ByteArray) (p:Nat):Bool:=(V.next p).k==k&&((V.next p).t.toList==s.toList)
def stop {α:Type} (e:Int) (p:Nat):Res α:=.bad e (V.place p)
def must (k:Int) (s:ByteArray) (p:Nat):Res Unit:=if V.isT k s p then .ok () (p+1) else V.stop 51 p
def room (n most:Int) (p:Nat):Res Unit:=if most≤n then V.stop 3 p else .ok () p
end Env
def flt (e a:Int):List PanicEntry:=[{ v:=.iface 58 (.agg #[.int .i64 e,.int .i64 a]),recovered:=false }]
structure Rd (w:World) (V:Env) (p:Nat):Prop where
 l:w.cell? ⟨V.rb,0,none⟩=some (.slice V.A V.T.length V.c)
 pos:w.cell? ⟨V.rb,1,none⟩=some (.int .i64 p)
 e:w.cell? ⟨V.rb,2,none⟩=some (.int .i64 V.E)
 f:w.frozen? ⟨V.rb,1,none⟩=false
 t:∀ i,i<V.T.length→∃ a,V.A=some a∧a.block≠V.rb∧w.cell? (a.add (i*3))=some (.int .i64 (V.next i).k)∧w.cell? ⟨(a.add (i*3)).block,(a.add (i*3)).off+1,none⟩=some (.string (V.next i).t)∧w.cell? ⟨(a.add (i*3)).block,(a.add (i*3)).off+2,none⟩=some (.int .i64 (V.next i).a)
 n:V.T.length≤65536
 le:p≤V.T.length
 z:∀ i,(V.next i).t.size≤65536
 gl:∃ m,w.cell? ⟨0,0,none⟩=some (.int .i64 m)
def ours (V:Env):Nat→Prop:=fun k=>k=V.rb
theorem Rd.below {w w1:World} {V:Env} {p:Nat} (h:Rd w V p) (b:Below w.heap.size w w1):Rd w1 V p:=by
 have kc:∀ {q:Addr} {v:Value},w.cell? q=some v→w1.cell? q=some v:=fun {q v} hc=>(b.cell (World.block_lt_of_cell? w q hc)).trans hc
 have hlt:V.rb<w.heap.size:=World.block_lt_of_cell? w _ h.pos
 refine ⟨kc h.l,kc h.pos,kc h.e,?_,fun i hi=>?_,h.n,h.le,h.z,h.gl.imp fun _ hm=>kc hm⟩
 ·rw [← h.f];unfold World.frozen?;rw [b.block _ hlt]
 ·obtain ⟨a,ha,hne,h0,h1,h2⟩:=h.t i hi
  exact ⟨a,ha,hne,kc h0,kc h1,kc h2⟩
theorem add_block (a:Addr) (i:Nat):(a.add i).block=a.block:=by cases i <;> simp [Addr.add]
theorem Rd.step {w:World} {V:Env} {p:Nat} (h:Rd w V p) (q:Nat) (hq:q≤V.T.length):Rd (w.setCell ⟨V.rb,1,none⟩ (.int .i64 q)) V q:=by
 have ko:∀ {x:Addr} {v:Value},x≠⟨V.rb,1,none⟩→w.cell? x=some v→(w.setCell ⟨V.rb,1,none⟩ (.int .i64 q)).cell? x=some v:=fun {x v} hx hc=>(World.cell?_setCell_other _ _ _ _ (fun e=>hx e.symm)).trans hc
 refine ⟨ko (by intro e;injection e with _ e2;omega) h.l,World.cell?_setCell_same _ _ _ h.pos,ko (by intro e;injection e with _ e2;omega) h.e,by rw [World.frozen?_setCell];exact h.f,fun i hi=>?_,h.n,hq,h.z,h.gl.imp fun _ hm=>ko (by intro e;injection e with _ e2;omega) hm⟩
 obtain ⟨a,ha,hne,h0,h1,h2⟩:=h.t i hi
 have hb:(a.add (i*3)).block≠V.rb:=by rw [add_block];exact hne
 exact ⟨a,ha,hne,ko (fun e=>hb (by rw [e])) h0,ko (fun e=>by injection e with e1;exact hb e1) h1,ko (fun e=>by injection e with e1;exact hb e1) h2⟩
end Sx
open Sx
set_option maxRecDepth 100000 in
theorem place_calls (V:Env) (p:Nat) (w:World) (h:Rd w V p):Calls Tryz.prog 54 #[.pointer (some ⟨V.rb,0,none⟩)] w fun e w'=>e=.returned (.int .i64 (V.place p))∧Below w.heap.size w w':=by
 have hl:=h.l
 have hp:=h.pos
 have he:=h.e
 have HT:=Lib.hid h.t
 by_cases hlt:p<V.T.length
 ·have z1:decide ((p:Int)<(V.T.length:Int))=true:=decide_eq_true (by omega)
  have z1n:decide (p<V.T.length)=true:=decide_eq_true hlt
  have y1:(p:Int)<(V.T.length:Int):=by omega
  have y2:(0:Int)≤p:=by omega
  obtain ⟨a,ha,_,t0,t1,t2⟩:=HT.out p hlt
  rw [ha] at hl
  have HF:=Lib.hid (show V.place p=(V.next p).a from if_pos hlt)
  clear ha h
  go_enter Tryz.func54,Tryz.ntmps54
  go_upto_region 1 with (fail)
  go_quiet (fail)
  go_upto_region 2 with (fail)
  go_quiet (fail)
  go_wp2_with fail
  go_ret
  exact ⟨by rw [HF.out];rfl,by repeat (first | exact Below.refl _ _ | refine below_drewn ?_ _)⟩
 ·have z1:decide ((p:Int)<(V.T.length:Int))=false:=decide_eq_false (by omega)
  have z1n:decide (p<V.T.length)=false:=decide_eq_false hlt
  have HF:=Lib.hid (show V.place p=V.E from if_neg hlt)
  clear h HT
  go_enter Tryz.func54,Tryz.ntmps54
  go_upto_region 1 with (fail)
  go_quiet (fail)
  go_wp2_with fail
  go_ret
  exact ⟨by rw [HF.out];rfl,by repeat (first | exact Below.refl _ _ | refine below_drewn ?_ _)⟩
theorem stop_calls (V:Env) (p:Nat) (er:Int) (w:World) (h:Rd w V p):Calls Tryz.prog 40 #[.pointer (some ⟨V.rb,0,none⟩),.int .i64 er] w fun e w'=>e=.panicked (flt er (V.place p))∧Below w.heap.size w w':=by
 have HP:=Lib.hid (place_calls V p w h)
 clear h
 go_enter Tryz.func40,Tryz.ntmps40
 go_wp2_with (first | (go_at_call 54;refine HP.out.mono ?_;rintro e w1 ⟨rfl,hb⟩))
 exact ⟨rfl,rfl,hb⟩
def Sx.tv (t:Tok):Value:=.agg #[.int .i64 t.k,.string t.t,.int .i64 t.a]
set_option maxRecDepth 100000 in
theorem next_calls (V:Env) (p:Nat) (w:World) (h:Rd w V p):Calls Tryz.prog 39 #[.pointer (some ⟨V.rb,0,none⟩)] w fun e w'=>e=.returned (Sx.tv (V.next p))∧Below w.heap.size w w':=by
 obtain ⟨W,hW⟩:∃ W,w.alloc (.cells #[.int .i64 0,.string ⟨#[]⟩,.int .i64 0] 48)=W:=⟨_,rfl⟩
 have bW:Below w.heap.size w W:=by rw [← hW];exact (Below.refl _ w).alloc (Nat.le_refl _) _
 have hWb:W.heap[w.heap.size]?=some (.cells #[.int .i64 0,.string ⟨#[]⟩,.int .i64 0] 48 (0,0)):=by rw [← hW];exact heap_alloc_new w _
 have h2:=h.below bW
 have hl:=h2.l
 have hp:=h2.pos
 have HT:=Lib.hid h2.t
 have HWB:=Lib.hid hWb
 have HB:=Lib.hid bW
 have x0:=blk_cell (v:=.int .i64 0) hWb 0 rfl
 have x1:=blk_cell (v:=.string ⟨#[]⟩) hWb 1 rfl
 have x2:=blk_cell (v:=.int .i64 0) hWb 2 rfl
 have g0:=blk_free hWb 0
 have g1:=blk_free hWb 1
 have g2:=blk_free hWb 2
 by_cases hlt:p<V.T.length
 ·have z1:decide ((p:Int)<(V.T.length:Int))=true:=decide_eq_true (by omega)
  have z1n:decide (p<V.T.length)=true:=decide_eq_true hlt
  have y1:(p:Int)<(V.T.length:Int):=by omega
  have y2:(0:Int)≤p:=by omega
  obtain ⟨a,ha,_,t0,t1,t2⟩:=HT.out p hlt
  rw [ha] at hl
  clear ha h h2 bW hWb
  go_enter Tryz.func39,Tryz.ntmps39
  go_upto_region 1 with (fail)
  try rw [hW]
  clear hW
  go_quiet (fail)
  go_upto_region 2 with (fail)
  refine still_tail 10 (by kernel_rfl) (by kernel_rfl) ?_
  simp only [List.take_succ_cons,List.take_zero,List.drop_succ_cons,List.drop_zero]
  repeat still_step
  refine wpStill_nil ?_
  go_wp2_with fail
  refine bodyPost_ret (results_cell_row rfl _ _ w.heap.size 48 #[.int .i64 (V.next p).k,.string (V.next p).t,.int .i64 (V.next p).a] (0,0) _ rfl (heap_setCell_same (heap_setCell_same (heap_setCell_same (show (W.drewN nq).drew.heap[w.heap.size]?=_ from HWB.out) 0 _) 1 _) 2 _) Tryz.underlying48 rfl rfl) rfl ⟨rfl,?_⟩
  exact (((((below_drewn HB.out nq).drew)).setCell (p:=⟨w.heap.size,0,none⟩) (Nat.le_refl _) _).setCell (p:=⟨w.heap.size,1,none⟩) (Nat.le_refl _) _).setCell (p:=⟨w.heap.size,2,none⟩) (Nat.le_refl _) _
 ·have z1:decide ((p:Int)<(V.T.length:Int))=false:=decide_eq_false (by omega)
  have z1n:decide (p<V.T.length)=false:=decide_eq_false hlt
  have HF:=Lib.hid (show V.next p=noTok from by unfold Env.next;rw [List.getD_eq_getElem?_getD,List.getElem?_eq_none (by omega)];rfl)
  clear h h2 bW hWb HT
  go_enter Tryz.func39,Tryz.ntmps39
  go_upto_region 1 with (fail)
  try rw [hW]
  clear hW
  go_quiet (fail)
  go_wp2_with fail
  rw [HF.out]
  refine bodyPost_ret (results_cell_row rfl _ _ w.heap.size 48 #[.int .i64 0,.string ⟨#[]⟩,.int .i64 0] (0,0) _ rfl (heap_setCell_same (heap_setCell_same (heap_setCell_same (show (W.drewN nq).heap[w.heap.size]?=_ from HWB.out) 0 _) 1 _) 2 _) Tryz.underlying48 rfl rfl) rfl ⟨rfl,?_⟩
  exact ((((below_drewn HB.out nq)).setCell (p:=⟨w.heap.size,0,none⟩) (Nat.le_refl _) _).setCell (p:=⟨w.heap.size,1,none⟩) (Nat.le_refl _) _).setCell (p:=⟨w.heap.size,2,none⟩) (Nat.le_refl _) _
end Go.Proofs.YtcakgennlliejaaGreatDoor
namespace Go.Proofs.YtcakgennlliejaaGreatDoor
open Go.Shelf Go.RowKit Go.Lib
open Sx
set_option linter.unusedVariables false
set_option linter.unusedSimpArgs false
set_option maxRecDepth 100000 in
theorem is_calls (V:Env) (p:Nat) (k:Int) (s:ByteArray) (w:World) (h:Rd w V p):Calls Tryz.prog 53 #[.pointer (some ⟨V.rb,0,none⟩),.int .i64 k,.string s] w fun e w'=>e=.returned (.bool (V.isT k s p))∧Below w.heap.size w w':=by
 have HN:=Lib.hid (next_calls V p w h)
 unfold Sx.tv at HN
 have HF:=Lib.hid (show V.isT k s p=((V.next p).k==k&&((V.next p).t.toList==s.toList)) from rfl)
 generalize V.next p=t at *
 clear h
 go_enter Tryz.func53,Tryz.ntmps53
 go_wp2_with (first | (go_at_call 39;refine HN.out.mono ?_;rintro e w1 ⟨rfl,hb⟩))
 all_goals
  rename_i hk
  go_ret
  exact ⟨by rw [HF.out];simp [hk],below_next hb ((Below.refl _ w1).alloc (Nat.le_refl _) _)⟩
theorem Sx.isT_lt {V:Env} {k:Int} {s:ByteArray} {p:Nat} (h:V.isT k s p=true) (hk:k≠0):p<V.T.length:=by
 rcases Nat.lt_or_ge p V.T.length with c | c
 ·exact c
 ·have e:V.next p=noTok:=by unfold Env.next;rw [List.getD_eq_getElem?_getD,List.getElem?_eq_none c];rfl
  unfold Env.isT at h
  rw [e] at h
  simp [noTok] at h
  exact absurd h.1.symm hk
theorem Sx.Rd.keep {w w1:World} {V:Env} {p q:Nat} (h:Rd w V p) (b:Below w.heap.size w w1) (hq:q≤V.T.length):Rd (w1.setCell ⟨V.rb,1,none⟩ (.int .i64 q)) V q∧Keep (ours V) w (w1.setCell ⟨V.rb,1,none⟩ (.int .i64 q)) :=
 ⟨(h.below b).step q hq,Keep.setCell (F:=ours V) (Keep.of_below b) (p:=⟨V.rb,1,none⟩) (fun _=>rfl) _⟩
set_option maxRecDepth 100000 in
theorem mark_calls (V:Env) (p:Nat) (s:ByteArray) (w:World) (h:Rd w V p):Calls Tryz.prog 109 #[.pointer (some ⟨V.rb,0,none⟩),.string s] w fun e w'=>e=.returned (.bool (V.isT 6 s p))∧Below w.heap.size w w':=by
 have HN:=Lib.hid (is_calls V p 6 s w h)
 clear h
 go_enter Tryz.func109,Tryz.ntmps109
 go_wp2_with (first | (go_at_call 53;refine HN.out.mono ?_;rintro e w1 ⟨rfl,hb⟩))
 go_ret
 exact ⟨rfl,hb⟩
set_option maxRecDepth 100000 in
theorem skip_no (V:Env) (p:Nat) (k:Int) (s:ByteArray) (w:World) (h:Rd w V p) (hn:V.isT k s p=false):Calls Tryz.prog 38 #[.pointer (some ⟨V.rb,0,none⟩),.int .i64 k,.string s] w fun e w'=>e=.returned (.bool false)∧Rd w' V p∧Keep (ours V) w w':=by
 have HN:=is_calls V p k s w h
 rw [hn] at HN
 have HN:=Lib.hid HN
 have HR:=Lib.hid h
 clear h hn
 go_enter Tryz.func38,Tryz.ntmps38
 go_wp2_with (first | (go_at_call 53;refine HN.out.mono ?_;rintro e w1 ⟨rfl,hb⟩))
 go_ret
 exact ⟨rfl,HR.out.below hb,Keep.of_below hb⟩
set_option maxRecDepth 100000 in
theorem skip_yes (V:Env) (p:Nat) (k:Int) (s:ByteArray) (w:World) (h:Rd w V p) (hn:V.isT k s p=true) (hk:k≠0):Calls Tryz.prog 38 #[.pointer (some ⟨V.rb,0,none⟩),.int .i64 k,.string s] w fun e w'=>e=.returned (.bool true)∧Rd w' V (p+1)∧Keep (ours V) w w':=by
 have HN:=is_calls V p k s w h
 rw [hn] at HN
 have HN:=Lib.hid HN
 have HR:=Lib.hid h
 have HL:=Lib.hid (Sx.isT_lt hn hk)
 have wz:IntKind.i64.wrap ((p:Int)+1)=((p+1:Nat):Int):=by have h1:=h.n;have h2:=HL.out;rw [IntWalk.i64_in _ (by omega)];omega
 clear h hn
 go_enter Tryz.func38,Tryz.ntmps38
 go_wp2_with (first | (go_at_call 53;refine HN.out.mono ?_;rintro e w1 ⟨rfl,hb⟩;have HB:=Lib.hid hb;have hp:=(HR.out.below hb).pos;have hf:=(HR.out.below hb).f;clear hb))
 go_ret
 exact ⟨rfl,HR.out.keep HB.out HL.out⟩
set_option maxRecDepth 100000 in
theorem must_ok (V:Env) (p:Nat) (k:Int) (s:ByteArray) (w:World) (h:Rd w V p) (hn:V.isT k s p=true) (hk:k≠0):Calls Tryz.prog 41 #[.pointer (some ⟨V.rb,0,none⟩),.int .i64 k,.string s] w fun e w'=>e=.returned (.tuple #[])∧Rd w' V (p+1)∧Keep (ours V) w w':=by
 have HN:=Lib.hid (skip_yes V p k s w h hn hk)
 clear h hn
 go_enter Tryz.func41,Tryz.ntmps41
 go_wp2_with (first | (go_at_call 38;refine HN.out.mono ?_;rintro e w1 ⟨rfl,hr,hk⟩))
 go_end0
 exact ⟨rfl,hr,hk⟩
set_option maxRecDepth 100000 in
theorem must_bad (V:Env) (p:Nat) (k:Int) (s:ByteArray) (w:World) (h:Rd w V p) (hn:V.isT k s p=false):Calls Tryz.prog 41 #[.pointer (some ⟨V.rb,0,none⟩),.int .i64 k,.string s] w fun e w'=>e=.panicked (flt 51 (V.place p))∧Keep (ours V) w w':=by
 have HN:=Lib.hid (skip_no V p k s w h hn)
 clear h hn
 go_enter Tryz.func41,Tryz.ntmps41
 go_wp2_with (first | (go_at_call 38;refine HN.out.mono ?_;rintro e w1 ⟨rfl,hr,hk⟩) | (go_at_call 40;refine (stop_calls V p 51 w1 hr).mono ?_;rintro e w2 ⟨rfl,hb⟩))
 exact ⟨rfl,rfl,hk.below hb⟩
set_option maxRecDepth 100000 in
theorem room_ok (V:Env) (p:Nat) (n most:Int) (w:World) (hn:n<most):Calls Tryz.prog 55 #[.pointer (some ⟨V.rb,0,none⟩),.int .i64 n,.int .i64 most] w fun e w'=>e=.returned (.tuple #[])∧w=w':=by
 have d1:decide (most≤n)=false:=decide_eq_false (by omega)
 clear hn
 go_enter Tryz.func55,Tryz.ntmps55
 go_wp2_with fail
 go_end0
 exact ⟨rfl,rfl⟩
set_option maxRecDepth 100000 in
theorem room_bad (V:Env) (p:Nat) (n most:Int) (w:World) (h:Rd w V p) (hn:most≤n):Calls Tryz.prog 55 #[.pointer (some ⟨V.rb,0,none⟩),.int .i64 n,.int .i64 most] w fun e w'=>e=.panicked (flt 3 (V.place p))∧Keep (ours V) w w':=by
 have d1:decide (most≤n)=true:=decide_eq_true (by omega)
 have HR:=Lib.hid h
 clear hn h
 go_enter Tryz.func55,Tryz.ntmps55
 go_wp2_with (first | (go_at_call 40;refine (stop_calls V p 3 w HR.out).mono ?_;rintro e w2 ⟨rfl,hb⟩))
 exact ⟨rfl,rfl,Keep.of_below hb⟩
end Go.Proofs.YtcakgennlliejaaGreatDoor
namespace Go.Proofs.YtcakgennlliejaaGreatDoor
open Go.Shelf Go.RowKit Go.Lib
open Sx
set_option linter.unusedVariables false
set_option linter.unusedSimpArgs false
def Sx.words:List (List UInt8):=[[115,116,97,116,117,116,101],[107,105,110,100],[109,101,109,98,101,114],[112,114,101,100],[110,117,109,98,101,114],[97,109,111,117,110,116],[99,108,97,115,115],[115,111,117,114,99,101],[114,97,110,107],[114,117,108,101],[111,102],[97,116],[117,110,116,105,108],[101,120,99,101,112,116,105,111,110],[116,111],[116,111,116,97,108],[99,97,112]]
def Sx.reserved (s:ByteArray):Bool:=words.any (fun x=>s.toList==x)
theorem reserved_calls (s:ByteArray) (w:World):Calls Tryz.prog 86 #[.string s] w fun e w'=>e=.returned (.bool (Sx.reserved s))∧w=w':=by
 have HF:=Lib.hid (show Sx.reserved s=words.any (fun x=>s.toList==x) from rfl)
 go_enter Tryz.func86,Tryz.ntmps86
 go_wp2_with fail
 all_goals first
  | (exfalso;simp_all;done)
  | (go_ret;exact ⟨by rw [HF.out];simp_all [words],rfl⟩)
def Sx.isName (t:Tok):Bool:=t.k==1&&!(Sx.reserved t.t)
namespace Sx.Env
variable (V:Env)
def name (p:Nat):Res ByteArray:=if isName (V.next p) then .ok (V.next p).t (p+1) else V.stop 51 p
def arg (p:Nat):Res ByteArray:=if (V.next p).k==2 then .ok (V.next p).t (p+1) else V.name p
end Sx.Env
theorem Sx.next_lt {V:Env} {p:Nat} (h:(V.next p).k≠0):p<V.T.length:=by
 rcases Nat.lt_or_ge p V.T.length with c | c
 ·exact c
 ·exfalso
  apply h
  unfold Env.next
  rw [List.getD_eq_getElem?_getD,List.getElem?_eq_none c]
  rfl
def Sx.Post {α:Type} (V:Env) (w:World) (R:α→Value→World→Prop) (r:Res α) (e:Ending) (w':World):Prop:=match r with
 | .ok v q=>∃ x,e=.returned x∧R v x w'∧Rd w' V q∧Keep (ours V) w w'
 | .bad er a=>e=.panicked (flt er a)∧Keep (ours V) w w'
def Sx.strR (s:ByteArray) (x:Value) (_:World):Prop:=x=.string s
theorem name_calls (V:Env) (p:Nat) (w:World) (h:Rd w V p):Calls Tryz.prog 56 #[.pointer (some ⟨V.rb,0,none⟩)] w (Post V w strR (V.name p)):=by
 have HN:=Lib.hid (next_calls V p w h)
 have HR:=Lib.hid h
 unfold Sx.tv at HN
 have HL:=Lib.hid (Sx.next_lt (V:=V) (p:=p))
 have hname:V.name p=if isName (V.next p) then .ok (V.next p).t (p+1) else V.stop 51 p:=rfl
 generalize V.next p=t at *
 by_cases hk:t.k=1
 ·have e1:(t.k != 1)=false:=by simpa using hk
  have hlt:p<V.T.length:=HL.out (by rw [hk];decide)
  have wz:IntKind.i64.wrap ((p:Int)+1)=((p+1:Nat):Int):=by have h1:=h.n;rw [IntWalk.i64_in _ (by omega)];omega
  have HLT:=Lib.hid hlt
  cases hr:Sx.reserved t.t
  ·have e2:=reserved_calls t.t
   rw [hr] at e2
   have HV:=Lib.hid e2
   have HF:=Lib.hid (show V.name p=.ok t.t (p+1) by rw [hname];simp [isName,hk,hr])
   clear h hname hr hk e2 hlt
   go_enter Tryz.func56,Tryz.ntmps56
   go_upto_region 2 with (first | (go_at_call 39;refine HN.out.mono ?_;rintro e w1 ⟨rfl,hb⟩))
   obtain ⟨X,hX⟩:∃ X,w1.alloc (Obj.cells #[.int .i64 t.k,.string t.t,.int .i64 t.a] 48)=X:=⟨_,rfl⟩
   have bX:Below w1.heap.size w1 X:=by rw [← hX];exact (Below.refl _ w1).alloc (Nat.le_refl _) _
   have x0:X.cell? ⟨w1.heap.size,0,none⟩=some (.int .i64 t.k):=by rw [← hX];exact blk_cell (heap_alloc_new w1 _) 0 rfl
   have x1:X.cell? ⟨w1.heap.size,1,none⟩=some (.string t.t):=by rw [← hX];exact blk_cell (heap_alloc_new w1 _) 1 rfl
   have HB:=Lib.hid (below_next hb bX)
   have hp:=(HR.out.below HB.out).pos
   have hf:=(HR.out.below HB.out).f
   obtain ⟨Y,hY⟩:∃ Y,X.setCell ⟨V.rb,1,none⟩ (.int .i64 ((p:Int)+1))=Y:=⟨_,rfl⟩
   have y1:Y.cell? ⟨w1.heap.size,1,none⟩=some (.string t.t):=by rw [← hY,World.cell?_setCell_other _ _ _ _ (fun e=>by injection e with e1;have h1:V.rb<w.heap.size:=World.block_lt_of_cell? w _ HR.out.pos;have h2:=hb.size;omega)];exact x1
   have HY:=Lib.hid (show Rd Y V (p+1)∧Keep (ours V) w Y by rw [← hY];exact HR.out.keep HB.out HLT.out)
   try rw [hX]
   clear hX bX hb
   go_wp2_with (first | (go_at_call 86;refine (HV.out _).mono ?_;rintro e w2 ⟨rfl,rfl⟩))
   go_ret
   rw [HF.out]
   exact ⟨_,rfl,rfl,HY.out⟩
  ·have e2:=reserved_calls t.t
   rw [hr] at e2
   have HV:=Lib.hid e2
   have HF:=Lib.hid (show V.name p=V.stop 51 p by rw [hname];simp [isName,hk,hr])
   clear h hname hr hk e2 hlt
   go_enter Tryz.func56,Tryz.ntmps56
   go_upto_region 2 with (first | (go_at_call 39;refine HN.out.mono ?_;rintro e w1 ⟨rfl,hb⟩))
   obtain ⟨X,hX⟩:∃ X,w1.alloc (Obj.cells #[.int .i64 t.k,.string t.t,.int .i64 t.a] 48)=X:=⟨_,rfl⟩
   have bX:Below w1.heap.size w1 X:=by rw [← hX];exact (Below.refl _ w1).alloc (Nat.le_refl _) _
   have x0:X.cell? ⟨w1.heap.size,0,none⟩=some (.int .i64 t.k):=by rw [← hX];exact blk_cell (heap_alloc_new w1 _) 0 rfl
   have x1:X.cell? ⟨w1.heap.size,1,none⟩=some (.string t.t):=by rw [← hX];exact blk_cell (heap_alloc_new w1 _) 1 rfl
   have HB:=Lib.hid (below_next hb bX)
   try rw [hX]
   clear hX bX hb
   go_wp2_with (first | (go_at_call 86;refine (HV.out _).mono ?_;rintro e w2 ⟨rfl,rfl⟩) | (go_at_call 40;refine (stop_calls V p 51 X (HR.out.below HB.out)).mono ?_;rintro e w2 ⟨rfl,hb⟩))
   refine ⟨rfl,?_⟩
   rw [HF.out]
   exact ⟨rfl,(Keep.of_below HB.out).below hb⟩
 ·have e1:(t.k != 1)=true:=by simpa using hk
  have HF:=Lib.hid (show V.name p=V.stop 51 p by rw [hname];simp [isName,hk])
  clear h hname hk
  go_enter Tryz.func56,Tryz.ntmps56
  go_upto_region 2 with (first | (go_at_call 39;refine HN.out.mono ?_;rintro e w1 ⟨rfl,hb⟩))
  obtain ⟨X,hX⟩:∃ X,w1.alloc (Obj.cells #[.int .i64 t.k,.string t.t,.int .i64 t.a] 48)=X:=⟨_,rfl⟩
  have bX:Below w1.heap.size w1 X:=by rw [← hX];exact (Below.refl _ w1).alloc (Nat.le_refl _) _
  have x0:X.cell? ⟨w1.heap.size,0,none⟩=some (.int .i64 t.k):=by rw [← hX];exact blk_cell (heap_alloc_new w1 _) 0 rfl
  have HB:=Lib.hid (below_next hb bX)
  try rw [hX]
  clear hX bX hb
  go_wp2_with (first | (go_at_call 40;refine (stop_calls V p 51 X (HR.out.below HB.out)).mono ?_;rintro e w2 ⟨rfl,hb⟩))
  refine ⟨rfl,?_⟩
  rw [HF.out]
  exact ⟨rfl,(Keep.of_below HB.out).below hb⟩
theorem Sx.Post.keep {α:Type} {V:Env} {w w0:World} {R:α→Value→World→Prop} {r:Res α} {e:Ending} {w':World} (h:Post V w R r e w') (k:Keep (ours V) w0 w):Post V w0 R r e w':=by
 cases r with
 | ok v q=>obtain ⟨x,h1,h2,h3,h4⟩:=h;exact ⟨x,h1,h2,h3,k.trans h4 (fun _ _ h=>h)⟩
 | bad er a=>obtain ⟨h1,h2⟩:=h;exact ⟨h1,k.trans h2 (fun _ _ h=>h)⟩
theorem arg_calls (V:Env) (p:Nat) (w:World) (h:Rd w V p):Calls Tryz.prog 113 #[.pointer (some ⟨V.rb,0,none⟩)] w (Post V w strR (V.arg p)):=by
 have HN:=Lib.hid (next_calls V p w h)
 have HR:=Lib.hid h
 unfold Sx.tv at HN
 have HL:=Lib.hid (Sx.next_lt (V:=V) (p:=p))
 have hname:V.arg p=if (V.next p).k==2 then .ok (V.next p).t (p+1) else V.name p:=rfl
 generalize V.next p=t at *
 by_cases hk:t.k=2
 ·have e1:(t.k==2)=true:=by simpa using hk
  have hlt:p<V.T.length:=HL.out (by rw [hk];decide)
  have wz:IntKind.i64.wrap ((p:Int)+1)=((p+1:Nat):Int):=by have h1:=h.n;rw [IntWalk.i64_in _ (by omega)];omega
  have HLT:=Lib.hid hlt
  have HF:=Lib.hid (show V.arg p=.ok t.t (p+1) by rw [hname,if_pos e1])
  clear h hname hk hlt
  go_enter Tryz.func113,Tryz.ntmps113
  go_upto_region 2 with (first | (go_at_call 39;refine HN.out.mono ?_;rintro e w1 ⟨rfl,hb⟩))
  obtain ⟨X,hX⟩:∃ X,w1.alloc (Obj.cells #[.int .i64 t.k,.string t.t,.int .i64 t.a] 48)=X:=⟨_,rfl⟩
  have bX:Below w1.heap.size w1 X:=by rw [← hX];exact (Below.refl _ w1).alloc (Nat.le_refl _) _
  have x0:X.cell? ⟨w1.heap.size,0,none⟩=some (.int .i64 t.k):=by rw [← hX];exact blk_cell (heap_alloc_new w1 _) 0 rfl
  have x1:X.cell? ⟨w1.heap.size,1,none⟩=some (.string t.t):=by rw [← hX];exact blk_cell (heap_alloc_new w1 _) 1 rfl
  have HB:=Lib.hid (below_next hb bX)
  have hp:=(HR.out.below HB.out).pos
  have hf:=(HR.out.below HB.out).f
  obtain ⟨Y,hY⟩:∃ Y,X.setCell ⟨V.rb,1,none⟩ (.int .i64 ((p:Int)+1))=Y:=⟨_,rfl⟩
  have y1:Y.cell? ⟨w1.heap.size,1,none⟩=some (.string t.t):=by rw [← hY,World.cell?_setCell_other _ _ _ _ (fun e=>by injection e with e1;have h1:V.rb<w.heap.size:=World.block_lt_of_cell? w _ HR.out.pos;have h2:=hb.size;omega)];exact x1
  have HY:=Lib.hid (show Rd Y V (p+1)∧Keep (ours V) w Y by rw [← hY];exact HR.out.keep HB.out HLT.out)
  try rw [hX]
  clear hX bX hb
  go_wp2_with fail
  go_ret
  rw [HF.out]
  exact ⟨_,rfl,rfl,HY.out⟩
 ·have e1:(t.k==2)=false:=by simpa using hk
  have HF:=Lib.hid (show V.arg p=V.name p by rw [hname,e1];rfl)
  clear h hname hk
  go_enter Tryz.func113,Tryz.ntmps113
  go_upto_region 2 with (first | (go_at_call 39;refine HN.out.mono ?_;rintro e w1 ⟨rfl,hb⟩))
  obtain ⟨X,hX⟩:∃ X,w1.alloc (Obj.cells #[.int .i64 t.k,.string t.t,.int .i64 t.a] 48)=X:=⟨_,rfl⟩
  have bX:Below w1.heap.size w1 X:=by rw [← hX];exact (Below.refl _ w1).alloc (Nat.le_refl _) _
  have x0:X.cell? ⟨w1.heap.size,0,none⟩=some (.int .i64 t.k):=by rw [← hX];exact blk_cell (heap_alloc_new w1 _) 0 rfl
  have HB:=Lib.hid (below_next hb bX)
  have HC:=Lib.hid (name_calls V p X (HR.out.below HB.out))
  try rw [hX]
  clear hX bX hb
  cases hn:V.name p with
  | ok v q =>
   rw [hn] at HC HF
   clear hn
   go_wp2_with (first | (go_at_call 56;refine HC.out.mono ?_;rintro e w2 ⟨x,rfl,rfl,hr,hk⟩))
   go_ret
   rw [HF.out]
   exact ⟨_,rfl,rfl,hr,(Keep.of_below HB.out).trans hk (fun _ _ h=>h)⟩
  | bad er a =>
   rw [hn] at HC HF
   clear hn
   go_wp2_with (first | (go_at_call 56;refine HC.out.mono ?_;rintro e w2 ⟨rfl,hk⟩))
   refine ⟨rfl,?_⟩
   rw [HF.out]
   exact ⟨rfl,(Keep.of_below HB.out).trans hk (fun _ _ h=>h)⟩
end Go.Proofs.YtcakgennlliejaaGreatDoor
