import Derived.Test.YtcakgennlliejaaGreatDoorProg
import Derived.Below
import Derived.Deep.Draws
import Derived.Deep.AppendLies
import Derived.Maps.AppendAt
import Derived.OwnWalk
import Derived.Laws.BytesArg
import Derived.Laws.MakeOwn
import Derived.Laws.OwnMore
import Derived.Deep.OwnRows
import Derived.Tactics
import Derived.Lib.ConvBytes
import Derived.Laws.Slices
import Derived.WalkKit
import Derived.KernelRfl
import Derived.RowKit3
import Derived.Deep.LoopGhost
import Derived.Deep.QuietTactic
import Derived.BigQuiet
import Derived.WideLaws
import Derived.Deep.DeepCutAuto
import Derived.Deep.CutBlock
import Derived.Deep.RegionHeld3
import Derived.Laws.Rows
import Derived.Lib.AppendStr
import Derived.ArgAppend
import Derived.Laws.IdiomCopy
import Derived.OrdersHeld
import Derived.Laws.BitsLemmas
import Derived.RowKit
import Derived.Test.YtcakgennlliejaaGreatDoorSynK2
import Derived.Test.YtcakgennlliejaaGreatDoorSynK3
set_option maxHeartbeats 8000000
set_option maxRecDepth 100000
namespace Go.Proofs.YtcakgennlliejaaGreatDoorW.PrintWords
open Go.RowKit
end Go.Proofs.YtcakgennlliejaaGreatDoorW.PrintWords
namespace Go.Proofs.YtcakgennlliejaaGreatDoorW.PrintWords
open Go.RowKit
namespace Kd
end Kd
end Go.Proofs.YtcakgennlliejaaGreatDoorW.PrintWords
-- PRINTED WORDS (module Derived/Print/More.lean): go-gate-2's additions: an AI agent of Go's test side, Tue Nov 17 2026; no person has read it. Lean checks it.
namespace Go.Proofs.YtcakgennlliejaaGreatDoorW.PrintMore
open Go.RowKit Go.Proofs.YtcakgennlliejaaGreatDoorW.PrintWords
namespace Kd
open Go.Proofs.YtcakgennlliejaaGreatDoorW.PrintWords.Kd
end Kd
namespace Kd
open Go.Proofs.YtcakgennlliejaaGreatDoorW.PrintWords.Kd
end Kd
theorem max2_int (k k':IntKind) (x y:Int):Builtin.max2 (.int k x) (.int k' y)=pure (.int k (if x<y then y else x)):=by simp only [Builtin.max2,gt_iff_lt]
theorem min2_int (k k':IntKind) (x y:Int):Builtin.min2 (.int k x) (.int k' y)=pure (.int k (if y<x then y else x)):=by simp only [Builtin.min2]
theorem max_two (ats:Array TypeId) (ty:TypeId) (a b:Value):Builtin.max_ ats ty #[a,b]=(Builtin.max2 a b >>= fun s=>pure s):=by simp only [Builtin.max_,List.foldlM_cons,List.foldlM_nil]
theorem min_two (ats:Array TypeId) (ty:TypeId) (a b:Value):Builtin.min_ ats ty #[a,b]=(Builtin.min2 a b >>= fun s=>pure s):=by simp only [Builtin.min_,List.foldlM_cons,List.foldlM_nil]
theorem max_three (ats:Array TypeId) (ty:TypeId) (a b c:Value):Builtin.max_ ats ty #[a,b,c]=(Builtin.max2 a b >>= fun s=>Builtin.max2 s c >>= fun s=>pure s):=by simp only [Builtin.max_,List.foldlM_cons,List.foldlM_nil]
theorem min_three (ats:Array TypeId) (ty:TypeId) (a b c:Value):Builtin.min_ ats ty #[a,b,c]=(Builtin.min2 a b >>= fun s=>Builtin.min2 s c >>= fun s=>pure s):=by simp only [Builtin.min_,List.foldlM_cons,List.foldlM_nil]
theorem max_four (ats:Array TypeId) (ty:TypeId) (a b c d:Value):Builtin.max_ ats ty #[a,b,c,d]=(Builtin.max2 a b >>= fun s=>Builtin.max2 s c >>= fun s=>Builtin.max2 s d >>= fun s=>pure s):=by simp only [Builtin.max_,List.foldlM_cons,List.foldlM_nil]
theorem min_four (ats:Array TypeId) (ty:TypeId) (a b c d:Value):Builtin.min_ ats ty #[a,b,c,d]=(Builtin.min2 a b >>= fun s=>Builtin.min2 s c >>= fun s=>Builtin.min2 s d >>= fun s=>pure s):=by simp only [Builtin.min_,List.foldlM_cons,List.foldlM_nil]
end Go.Proofs.YtcakgennlliejaaGreatDoorW.PrintMore
namespace Go.Proofs.YtcakgennlliejaaGreatDoorW.PrintWords
open Go.RowKit
namespace Kd
end Kd
end Go.Proofs.YtcakgennlliejaaGreatDoorW.PrintWords
namespace Go.Proofs.YtcakgennlliejaaGreatDoorW.PrintWords
open Go.RowKit
namespace Kd
def V {α:Type} (d:Kd α) (_e:Nat) (W:World) (_base:Nat) (ok:Nat→Prop) (v:Value) (xs:List α):Prop:=∃ A c,v=.slice A xs.length c∧xs.length≤c∧F d W ok A xs.length xs
end Kd
end Go.Proofs.YtcakgennlliejaaGreatDoorW.PrintWords
namespace Go.Proofs.YtcakgennlliejaaGreatDoor.PSyntaxJoined
open Go.RowKit Go.Proofs.YtcakgennlliejaaGreatDoorW.PrintWords Go.Proofs.YtcakgennlliejaaGreatDoorW.PrintLast Go.Proofs.YtcakgennlliejaaGreatDoorW.PrintMore
attribute [local go_sem] max2_int min2_int max_two min_two max_three min_three max_four min_four   -- for this text's walks alone
set_option linter.unusedVariables false
set_option linter.unusedSimpArgs false
def errW:Option Int→Value
 | none=>.nilIface
 | some c=>.iface 207 (.int .i64 c)
theorem errW_none:errW none=.nilIface:=rfl
theorem errW_some (c:Int):errW (some c)=.iface 207 (.int .i64 c):=rfl
-- the values' own types
structure S48 where
 f0:Int
 f1:ByteArray
 f2:Int
def z48:S48:=⟨(0:Int),(⟨#[]⟩:ByteArray),(0:Int)⟩
def k48:Kd S48:=Kd.iso (Kd.pair (Kd.int .i64) (Kd.pair Kd.string (Kd.int .i64))) (fun x:S48=>(x.f0,x.f1,x.f2))
theorem k48_open {w:World} {x:S48} {cs:List Value} (h:k48.K w x cs):cs=[.int .i64 x.f0,.string x.f1,.int .i64 x.f2]:=by
 obtain ⟨_,_,rfl,rfl,⟨_,_,rfl,rfl,rfl⟩⟩:=h
 exact rfl
theorem k48_mkM (w:World) (base:Nat) (ok:Nat→Prop) (x:S48)  : k48.M w base ok x [.int .i64 x.f0,.string x.f1,.int .i64 x.f2]:=⟨[.int .i64 x.f0],[.string x.f1,.int .i64 x.f2],rfl,rfl,⟨[.string x.f1],[.int .i64 x.f2],rfl,rfl,rfl⟩⟩
def rd_T48 (xs:List S48) (i:Int):S48:=xs.getD i.toNat z48
theorem at_T48 {w:World} {A:Option Addr} {n:Nat} {xs:List S48} (h:Kd.C k48 w A n xs) (i:Int) (h0:0≤i) (h1:i<n):∃ ad ,A=some ad∧w.cell? (ad.add (i.toNat*3))=some (.int .i64 (rd_T48 xs i).f0)∧w.cell? ⟨(ad.add (i.toNat*3)).block,(ad.add (i.toNat*3)).off+1,none⟩=some (.string (rd_T48 xs i).f1)∧w.cell? ⟨(ad.add (i.toNat*3)).block,(ad.add (i.toNat*3)).off+2,none⟩=some (.int .i64 (rd_T48 xs i).f2):=by
 obtain ⟨ad,c,e,_,hK,hc0⟩:=Kd.C_get h z48 i h0 h1
 have hc:∀ j u,c[j]?=some u→w.cell? (ad.add (i.toNat*3+j))=some u:=hc0
 obtain rfl:=k48_open hK
 exact ⟨ad,e,hc 0 _ rfl,by rw [← add_field _ _ 1 (by omega)];exact hc 1 _ rfl,by rw [← add_field _ _ 2 (by omega)];exact hc 2 _ rfl⟩
structure S54 where
 f0:ByteArray
 f1:ByteArray
def z54:S54:=⟨(⟨#[]⟩:ByteArray),(⟨#[]⟩:ByteArray)⟩
def k54:Kd S54:=Kd.iso (Kd.pair Kd.string Kd.string) (fun x:S54=>(x.f0,x.f1))
theorem k54_open {w:World} {x:S54} {cs:List Value} (h:k54.K w x cs):cs=[.string x.f0,.string x.f1]:=by
 obtain ⟨_,_,rfl,rfl,rfl⟩:=h
 exact rfl
theorem k54_mkM (w:World) (base:Nat) (ok:Nat→Prop) (x:S54)  : k54.M w base ok x [.string x.f0,.string x.f1]:=⟨[.string x.f0],[.string x.f1],rfl,rfl,rfl⟩
def rd_T54 (xs:List S54) (i:Int):S54:=xs.getD i.toNat z54
theorem at_T54 {w:World} {A:Option Addr} {n:Nat} {xs:List S54} (h:Kd.C k54 w A n xs) (i:Int) (h0:0≤i) (h1:i<n):∃ ad ,A=some ad∧w.cell? (ad.add (i.toNat*2))=some (.string (rd_T54 xs i).f0)∧w.cell? ⟨(ad.add (i.toNat*2)).block,(ad.add (i.toNat*2)).off+1,none⟩=some (.string (rd_T54 xs i).f1):=by
 obtain ⟨ad,c,e,_,hK,hc0⟩:=Kd.C_get h z54 i h0 h1
 have hc:∀ j u,c[j]?=some u→w.cell? (ad.add (i.toNat*2+j))=some u:=hc0
 obtain rfl:=k54_open hK
 exact ⟨ad,e,hc 0 _ rfl,by rw [← add_field _ _ 1 (by omega)];exact hc 1 _ rfl⟩
def rd_L5 (xs:List (List ByteArray)) (i:Int):(List ByteArray):=xs.getD i.toNat ([]:List ByteArray)
theorem at_L5 {w:World} {A:Option Addr} {n:Nat} {xs:List (List ByteArray)} (h:Kd.C (Kd.slice 9 Kd.string) w A n xs) (i:Int) (h0:0≤i) (h1:i<n):∃ ad A0 c0,A=some ad∧w.cell? (ad.add i.toNat)=some (.slice A0 (rd_L5 xs i).length c0)∧(rd_L5 xs i).length≤c0∧Kd.string.C w A0 (rd_L5 xs i).length (rd_L5 xs i):=by
 obtain ⟨ad,c,e,_,hK,hc0⟩:=Kd.C_get h ([]:List ByteArray) i h0 h1
 have hc:∀ j u,c[j]?=some u→w.cell? (ad.add (i.toNat*1+j))=some u:=hc0
 obtain ⟨A0,c0,rfl,l0,g0⟩:=hK
 exact ⟨ad,A0,c0,e,by have hq:=hc 0 _ rfl;rwa [Nat.mul_one,Nat.add_zero] at hq,l0,g0⟩
structure S85 where
 f0:ByteArray
 f1:Int
 f2:(List ByteArray)
 f3:(List Int)
def z85:S85:=⟨(⟨#[]⟩:ByteArray),(0:Int),([]:List ByteArray),([]:List Int)⟩
def k85:Kd S85:=Kd.iso (Kd.pair Kd.string (Kd.pair (Kd.int .i64) (Kd.pair (Kd.slice 9 Kd.string) (Kd.slice 86 (Kd.int .i64))))) (fun x:S85=>(x.f0,x.f1,x.f2,x.f3))
theorem k85_open {w:World} {x:S85} {cs:List Value} (h:k85.K w x cs):∃ A2 c2 A3 c3,cs=[.string x.f0,.int .i64 x.f1,.slice A2 x.f2.length c2,.slice A3 x.f3.length c3]∧x.f2.length≤c2∧Kd.string.C w A2 x.f2.length x.f2∧x.f3.length≤c3∧(Kd.int .i64).C w A3 x.f3.length x.f3:=by
 obtain ⟨_,_,rfl,rfl,⟨_,_,rfl,rfl,⟨_,_,rfl,⟨A2,c2,rfl,l2,g2⟩,⟨A3,c3,rfl,l3,g3⟩⟩⟩⟩:=h
 exact ⟨A2,c2,A3,c3,rfl,l2,g2,l3,g3⟩
theorem k85_openM {w:World} {base:Nat} {ok:Nat→Prop} {x:S85} {cs:List Value} (h:k85.M w base ok x cs):∃ v2 v3,cs=[.string x.f0,.int .i64 x.f1,v2,v3]∧Kd.string.R 9 w base ok v2 x.f2∧(Kd.int .i64).R 86 w base ok v3 x.f3:=by
 obtain ⟨_,_,rfl,rfl,⟨_,_,rfl,rfl,⟨_,_,rfl,⟨v2,rfl,g2⟩,⟨v3,rfl,g3⟩⟩⟩⟩:=h
 exact ⟨v2,v3,rfl,g2,g3⟩
theorem k85_mkM (w:World) (base:Nat) (ok:Nat→Prop) (x:S85) {v2:Value} (g2:Kd.string.R 9 w base ok v2 x.f2) {v3:Value} (g3:(Kd.int .i64).R 86 w base ok v3 x.f3):k85.M w base ok x [.string x.f0,.int .i64 x.f1,v2,v3]:=⟨[.string x.f0],[.int .i64 x.f1,v2,v3],rfl,rfl,⟨[.int .i64 x.f1],[v2,v3],rfl,rfl,⟨[v2],[v3],rfl,⟨v2,rfl,g2⟩,⟨v3,rfl,g3⟩⟩⟩⟩
def rd_T85 (xs:List S85) (i:Int):S85:=xs.getD i.toNat z85
theorem at_T85 {w:World} {A:Option Addr} {n:Nat} {xs:List S85} (h:Kd.C k85 w A n xs) (i:Int) (h0:0≤i) (h1:i<n):∃ ad A2 c2 A3 c3,A=some ad∧w.cell? (ad.add (i.toNat*4))=some (.string (rd_T85 xs i).f0)∧w.cell? ⟨(ad.add (i.toNat*4)).block,(ad.add (i.toNat*4)).off+1,none⟩=some (.int .i64 (rd_T85 xs i).f1)∧w.cell? ⟨(ad.add (i.toNat*4)).block,(ad.add (i.toNat*4)).off+2,none⟩=some (.slice A2 (rd_T85 xs i).f2.length c2)∧w.cell? ⟨(ad.add (i.toNat*4)).block,(ad.add (i.toNat*4)).off+3,none⟩=some (.slice A3 (rd_T85 xs i).f3.length c3)∧(rd_T85 xs i).f2.length≤c2∧Kd.string.C w A2 (rd_T85 xs i).f2.length (rd_T85 xs i).f2∧(rd_T85 xs i).f3.length≤c3∧(Kd.int .i64).C w A3 (rd_T85 xs i).f3.length (rd_T85 xs i).f3:=by
 obtain ⟨ad,c,e,_,hK,hc0⟩:=Kd.C_get h z85 i h0 h1
 have hc:∀ j u,c[j]?=some u→w.cell? (ad.add (i.toNat*4+j))=some u:=hc0
 obtain ⟨A2,c2,A3,c3,rfl,l2,g2,l3,g3⟩:=k85_open hK
 exact ⟨ad,A2,c2,A3,c3,e,hc 0 _ rfl,by rw [← add_field _ _ 1 (by omega)];exact hc 1 _ rfl,by rw [← add_field _ _ 2 (by omega)];exact hc 2 _ rfl,by rw [← add_field _ _ 3 (by omega)];exact hc 3 _ rfl,l2,g2,l3,g3⟩
structure S117 where
 f0:ByteArray
 f1:Int
def z117:S117:=⟨(⟨#[]⟩:ByteArray),(0:Int)⟩
def k117:Kd S117:=Kd.iso (Kd.pair Kd.string (Kd.int .i64)) (fun x:S117=>(x.f0,x.f1))
theorem k117_open {w:World} {x:S117} {cs:List Value} (h:k117.K w x cs):cs=[.string x.f0,.int .i64 x.f1]:=by
 obtain ⟨_,_,rfl,rfl,rfl⟩:=h
 exact rfl
theorem k117_mkM (w:World) (base:Nat) (ok:Nat→Prop) (x:S117)  : k117.M w base ok x [.string x.f0,.int .i64 x.f1]:=⟨[.string x.f0],[.int .i64 x.f1],rfl,rfl,rfl⟩
def rd_T117 (xs:List S117) (i:Int):S117:=xs.getD i.toNat z117
theorem at_T117 {w:World} {A:Option Addr} {n:Nat} {xs:List S117} (h:Kd.C k117 w A n xs) (i:Int) (h0:0≤i) (h1:i<n):∃ ad ,A=some ad∧w.cell? (ad.add (i.toNat*2))=some (.string (rd_T117 xs i).f0)∧w.cell? ⟨(ad.add (i.toNat*2)).block,(ad.add (i.toNat*2)).off+1,none⟩=some (.int .i64 (rd_T117 xs i).f1):=by
 obtain ⟨ad,c,e,_,hK,hc0⟩:=Kd.C_get h z117 i h0 h1
 have hc:∀ j u,c[j]?=some u→w.cell? (ad.add (i.toNat*2+j))=some u:=hc0
 obtain rfl:=k117_open hK
 exact ⟨ad,e,hc 0 _ rfl,by rw [← add_field _ _ 1 (by omega)];exact hc 1 _ rfl⟩
structure S102 where
 f0:Int
 f1:ByteArray
 f2:(List ByteArray)
 f3:Int
def z102:S102:=⟨(0:Int),(⟨#[]⟩:ByteArray),([]:List ByteArray),(0:Int)⟩
def k102:Kd S102:=Kd.iso (Kd.pair (Kd.int .i64) (Kd.pair Kd.string (Kd.pair (Kd.slice 9 Kd.string) (Kd.int .i64)))) (fun x:S102=>(x.f0,x.f1,x.f2,x.f3))
theorem k102_open {w:World} {x:S102} {cs:List Value} (h:k102.K w x cs):∃ A2 c2,cs=[.int .i64 x.f0,.string x.f1,.slice A2 x.f2.length c2,.int .i64 x.f3]∧x.f2.length≤c2∧Kd.string.C w A2 x.f2.length x.f2:=by
 obtain ⟨_,_,rfl,rfl,⟨_,_,rfl,rfl,⟨_,_,rfl,⟨A2,c2,rfl,l2,g2⟩,rfl⟩⟩⟩:=h
 exact ⟨A2,c2,rfl,l2,g2⟩
theorem k102_openM {w:World} {base:Nat} {ok:Nat→Prop} {x:S102} {cs:List Value} (h:k102.M w base ok x cs):∃ v2,cs=[.int .i64 x.f0,.string x.f1,v2,.int .i64 x.f3]∧Kd.string.R 9 w base ok v2 x.f2:=by
 obtain ⟨_,_,rfl,rfl,⟨_,_,rfl,rfl,⟨_,_,rfl,⟨v2,rfl,g2⟩,rfl⟩⟩⟩:=h
 exact ⟨v2,rfl,g2⟩
theorem k102_mkM (w:World) (base:Nat) (ok:Nat→Prop) (x:S102) {v2:Value} (g2:Kd.string.R 9 w base ok v2 x.f2):k102.M w base ok x [.int .i64 x.f0,.string x.f1,v2,.int .i64 x.f3]:=⟨[.int .i64 x.f0],[.string x.f1,v2,.int .i64 x.f3],rfl,rfl,⟨[.string x.f1],[v2,.int .i64 x.f3],rfl,rfl,⟨[v2],[.int .i64 x.f3],rfl,⟨v2,rfl,g2⟩,rfl⟩⟩⟩
def rd_T102 (xs:List S102) (i:Int):S102:=xs.getD i.toNat z102
theorem at_T102 {w:World} {A:Option Addr} {n:Nat} {xs:List S102} (h:Kd.C k102 w A n xs) (i:Int) (h0:0≤i) (h1:i<n):∃ ad A2 c2,A=some ad∧w.cell? (ad.add (i.toNat*4))=some (.int .i64 (rd_T102 xs i).f0)∧w.cell? ⟨(ad.add (i.toNat*4)).block,(ad.add (i.toNat*4)).off+1,none⟩=some (.string (rd_T102 xs i).f1)∧w.cell? ⟨(ad.add (i.toNat*4)).block,(ad.add (i.toNat*4)).off+2,none⟩=some (.slice A2 (rd_T102 xs i).f2.length c2)∧w.cell? ⟨(ad.add (i.toNat*4)).block,(ad.add (i.toNat*4)).off+3,none⟩=some (.int .i64 (rd_T102 xs i).f3)∧(rd_T102 xs i).f2.length≤c2∧Kd.string.C w A2 (rd_T102 xs i).f2.length (rd_T102 xs i).f2:=by
 obtain ⟨ad,c,e,_,hK,hc0⟩:=Kd.C_get h z102 i h0 h1
 have hc:∀ j u,c[j]?=some u→w.cell? (ad.add (i.toNat*4+j))=some u:=hc0
 obtain ⟨A2,c2,rfl,l2,g2⟩:=k102_open hK
 exact ⟨ad,A2,c2,e,hc 0 _ rfl,by rw [← add_field _ _ 1 (by omega)];exact hc 1 _ rfl,by rw [← add_field _ _ 2 (by omega)];exact hc 2 _ rfl,by rw [← add_field _ _ 3 (by omega)];exact hc 3 _ rfl,l2,g2⟩
structure S91 where
 f0:Bool
 f1:ByteArray
 f2:(List ByteArray)
 f3:Bool
 f4:Int
def z91:S91:=⟨false,(⟨#[]⟩:ByteArray),([]:List ByteArray),false,(0:Int)⟩
def k91:Kd S91:=Kd.iso (Kd.pair Kd.bool (Kd.pair Kd.string (Kd.pair (Kd.slice 9 Kd.string) (Kd.pair Kd.bool (Kd.int .i64))))) (fun x:S91=>(x.f0,x.f1,x.f2,x.f3,x.f4))
theorem k91_open {w:World} {x:S91} {cs:List Value} (h:k91.K w x cs):∃ A2 c2,cs=[.bool x.f0,.string x.f1,.slice A2 x.f2.length c2,.bool x.f3,.int .i64 x.f4]∧x.f2.length≤c2∧Kd.string.C w A2 x.f2.length x.f2:=by
 obtain ⟨_,_,rfl,rfl,⟨_,_,rfl,rfl,⟨_,_,rfl,⟨A2,c2,rfl,l2,g2⟩,⟨_,_,rfl,rfl,rfl⟩⟩⟩⟩:=h
 exact ⟨A2,c2,rfl,l2,g2⟩
theorem k91_openM {w:World} {base:Nat} {ok:Nat→Prop} {x:S91} {cs:List Value} (h:k91.M w base ok x cs):∃ v2,cs=[.bool x.f0,.string x.f1,v2,.bool x.f3,.int .i64 x.f4]∧Kd.string.R 9 w base ok v2 x.f2:=by
 obtain ⟨_,_,rfl,rfl,⟨_,_,rfl,rfl,⟨_,_,rfl,⟨v2,rfl,g2⟩,⟨_,_,rfl,rfl,rfl⟩⟩⟩⟩:=h
 exact ⟨v2,rfl,g2⟩
theorem k91_mkM (w:World) (base:Nat) (ok:Nat→Prop) (x:S91) {v2:Value} (g2:Kd.string.R 9 w base ok v2 x.f2):k91.M w base ok x [.bool x.f0,.string x.f1,v2,.bool x.f3,.int .i64 x.f4]:=⟨[.bool x.f0],[.string x.f1,v2,.bool x.f3,.int .i64 x.f4],rfl,rfl,⟨[.string x.f1],[v2,.bool x.f3,.int .i64 x.f4],rfl,rfl,⟨[v2],[.bool x.f3,.int .i64 x.f4],rfl,⟨v2,rfl,g2⟩,⟨[.bool x.f3],[.int .i64 x.f4],rfl,rfl,rfl⟩⟩⟩⟩
structure S98 where
 f0:(List S102)
 f1:Int
 f2:(List S102)
def z98:S98:=⟨([]:List S102),(0:Int),([]:List S102)⟩
def k98:Kd S98:=Kd.iso (Kd.pair (Kd.slice 102 k102) (Kd.pair (Kd.int .i64) (Kd.slice 102 k102))) (fun x:S98=>(x.f0,x.f1,x.f2))
theorem k98_open {w:World} {x:S98} {cs:List Value} (h:k98.K w x cs):∃ A0 c0 A2 c2,cs=[.slice A0 x.f0.length c0,.int .i64 x.f1,.slice A2 x.f2.length c2]∧x.f0.length≤c0∧k102.C w A0 x.f0.length x.f0∧x.f2.length≤c2∧k102.C w A2 x.f2.length x.f2:=by
 obtain ⟨_,_,rfl,⟨A0,c0,rfl,l0,g0⟩,⟨_,_,rfl,rfl,⟨A2,c2,rfl,l2,g2⟩⟩⟩:=h
 exact ⟨A0,c0,A2,c2,rfl,l0,g0,l2,g2⟩
theorem k98_openM {w:World} {base:Nat} {ok:Nat→Prop} {x:S98} {cs:List Value} (h:k98.M w base ok x cs):∃ v0 v2,cs=[v0,.int .i64 x.f1,v2]∧k102.R 102 w base ok v0 x.f0∧k102.R 102 w base ok v2 x.f2:=by
 obtain ⟨_,_,rfl,⟨v0,rfl,g0⟩,⟨_,_,rfl,rfl,⟨v2,rfl,g2⟩⟩⟩:=h
 exact ⟨v0,v2,rfl,g0,g2⟩
theorem k98_mkM (w:World) (base:Nat) (ok:Nat→Prop) (x:S98) {v0:Value} (g0:k102.R 102 w base ok v0 x.f0) {v2:Value} (g2:k102.R 102 w base ok v2 x.f2):k98.M w base ok x [v0,.int .i64 x.f1,v2]:=⟨[v0],[.int .i64 x.f1,v2],rfl,⟨v0,rfl,g0⟩,⟨[.int .i64 x.f1],[v2],rfl,rfl,⟨v2,rfl,g2⟩⟩⟩
structure S100 where
 f0:Int
 f1:S91
 f2:S98
 f3:ByteArray
 f4:ByteArray
def z100:S100:=⟨(0:Int),z91,z98,(⟨#[]⟩:ByteArray),(⟨#[]⟩:ByteArray)⟩
def k100:Kd S100:=Kd.iso (Kd.pair (Kd.int .i64) (Kd.pair k91 (Kd.pair k98 (Kd.pair Kd.string Kd.string)))) (fun x:S100=>(x.f0,x.f1,x.f2,x.f3,x.f4))
theorem k100_open {w:World} {x:S100} {cs:List Value} (h:k100.K w x cs):∃ A3 c3 A6 c6 A8 c8,cs=[.int .i64 x.f0,.bool x.f1.f0,.string x.f1.f1,.slice A3 x.f1.f2.length c3,.bool x.f1.f3,.int .i64 x.f1.f4,.slice A6 x.f2.f0.length c6,.int .i64 x.f2.f1,.slice A8 x.f2.f2.length c8,.string x.f3,.string x.f4]∧x.f1.f2.length≤c3∧Kd.string.C w A3 x.f1.f2.length x.f1.f2∧x.f2.f0.length≤c6∧k102.C w A6 x.f2.f0.length x.f2.f0∧x.f2.f2.length≤c8∧k102.C w A8 x.f2.f2.length x.f2.f2:=by
 obtain ⟨_,_,rfl,rfl,⟨_,_,rfl,s1,⟨_,_,rfl,s6,⟨_,_,rfl,rfl,rfl⟩⟩⟩⟩:=h
 obtain ⟨A3,c3,rfl,l3,g3⟩:=k91_open s1
 obtain ⟨A6,c6,A8,c8,rfl,l6,g6,l8,g8⟩:=k98_open s6
 exact ⟨A3,c3,A6,c6,A8,c8,rfl,l3,g3,l6,g6,l8,g8⟩
theorem k100_openM {w:World} {base:Nat} {ok:Nat→Prop} {x:S100} {cs:List Value} (h:k100.M w base ok x cs):∃ v3 v6 v8,cs=[.int .i64 x.f0,.bool x.f1.f0,.string x.f1.f1,v3,.bool x.f1.f3,.int .i64 x.f1.f4,v6,.int .i64 x.f2.f1,v8,.string x.f3,.string x.f4]∧Kd.string.R 9 w base ok v3 x.f1.f2∧k102.R 102 w base ok v6 x.f2.f0∧k102.R 102 w base ok v8 x.f2.f2:=by
 obtain ⟨_,_,rfl,rfl,⟨_,_,rfl,s1,⟨_,_,rfl,s6,⟨_,_,rfl,rfl,rfl⟩⟩⟩⟩:=h
 obtain ⟨v3,rfl,g3⟩:=k91_openM s1
 obtain ⟨v6,v8,rfl,g6,g8⟩:=k98_openM s6
 exact ⟨v3,v6,v8,rfl,g3,g6,g8⟩
theorem k100_mkM (w:World) (base:Nat) (ok:Nat→Prop) (x:S100) {v3:Value} (g3:Kd.string.R 9 w base ok v3 x.f1.f2) {v6:Value} (g6:k102.R 102 w base ok v6 x.f2.f0) {v8:Value} (g8:k102.R 102 w base ok v8 x.f2.f2):k100.M w base ok x [.int .i64 x.f0,.bool x.f1.f0,.string x.f1.f1,v3,.bool x.f1.f3,.int .i64 x.f1.f4,v6,.int .i64 x.f2.f1,v8,.string x.f3,.string x.f4]:=⟨[.int .i64 x.f0],[.bool x.f1.f0,.string x.f1.f1,v3,.bool x.f1.f3,.int .i64 x.f1.f4,v6,.int .i64 x.f2.f1,v8,.string x.f3,.string x.f4],rfl,rfl,⟨[.bool x.f1.f0,.string x.f1.f1,v3,.bool x.f1.f3,.int .i64 x.f1.f4],[v6,.int .i64 x.f2.f1,v8,.string x.f3,.string x.f4],rfl,(k91_mkM w base ok x.f1 g3),⟨[v6,.int .i64 x.f2.f1,v8],[.string x.f3,.string x.f4],rfl,(k98_mkM w base ok x.f2 g6 g8),⟨[.string x.f3],[.string x.f4],rfl,rfl,rfl⟩⟩⟩⟩
def rd_T100 (xs:List S100) (i:Int):S100:=xs.getD i.toNat z100
theorem at_T100 {w:World} {A:Option Addr} {n:Nat} {xs:List S100} (h:Kd.C k100 w A n xs) (i:Int) (h0:0≤i) (h1:i<n):∃ ad A3 c3 A6 c6 A8 c8,A=some ad∧w.cell? (ad.add (i.toNat*11))=some (.int .i64 (rd_T100 xs i).f0)∧w.cell? ⟨(ad.add (i.toNat*11)).block,(ad.add (i.toNat*11)).off+1,none⟩=some (.bool (rd_T100 xs i).f1.f0)∧w.cell? ⟨(ad.add (i.toNat*11)).block,(ad.add (i.toNat*11)).off+2,none⟩=some (.string (rd_T100 xs i).f1.f1)∧w.cell? ⟨(ad.add (i.toNat*11)).block,(ad.add (i.toNat*11)).off+3,none⟩=some (.slice A3 (rd_T100 xs i).f1.f2.length c3)∧w.cell? ⟨(ad.add (i.toNat*11)).block,(ad.add (i.toNat*11)).off+4,none⟩=some (.bool (rd_T100 xs i).f1.f3)∧w.cell? ⟨(ad.add (i.toNat*11)).block,(ad.add (i.toNat*11)).off+5,none⟩=some (.int .i64 (rd_T100 xs i).f1.f4)∧w.cell? ⟨(ad.add (i.toNat*11)).block,(ad.add (i.toNat*11)).off+6,none⟩=some (.slice A6 (rd_T100 xs i).f2.f0.length c6)∧w.cell? ⟨(ad.add (i.toNat*11)).block,(ad.add (i.toNat*11)).off+7,none⟩=some (.int .i64 (rd_T100 xs i).f2.f1)∧w.cell? ⟨(ad.add (i.toNat*11)).block,(ad.add (i.toNat*11)).off+8,none⟩=some (.slice A8 (rd_T100 xs i).f2.f2.length c8)∧w.cell? ⟨(ad.add (i.toNat*11)).block,(ad.add (i.toNat*11)).off+9,none⟩=some (.string (rd_T100 xs i).f3)∧w.cell? ⟨(ad.add (i.toNat*11)).block,(ad.add (i.toNat*11)).off+10,none⟩=some (.string (rd_T100 xs i).f4)∧(rd_T100 xs i).f1.f2.length≤c3∧Kd.string.C w A3 (rd_T100 xs i).f1.f2.length (rd_T100 xs i).f1.f2∧(rd_T100 xs i).f2.f0.length≤c6∧k102.C w A6 (rd_T100 xs i).f2.f0.length (rd_T100 xs i).f2.f0∧(rd_T100 xs i).f2.f2.length≤c8∧k102.C w A8 (rd_T100 xs i).f2.f2.length (rd_T100 xs i).f2.f2:=by
 obtain ⟨ad,c,e,_,hK,hc0⟩:=Kd.C_get h z100 i h0 h1
 have hc:∀ j u,c[j]?=some u→w.cell? (ad.add (i.toNat*11+j))=some u:=hc0
 obtain ⟨A3,c3,A6,c6,A8,c8,rfl,l3,g3,l6,g6,l8,g8⟩:=k100_open hK
 exact ⟨ad,A3,c3,A6,c6,A8,c8,e,hc 0 _ rfl,by rw [← add_field _ _ 1 (by omega)];exact hc 1 _ rfl,by rw [← add_field _ _ 2 (by omega)];exact hc 2 _ rfl,by rw [← add_field _ _ 3 (by omega)];exact hc 3 _ rfl,by rw [← add_field _ _ 4 (by omega)];exact hc 4 _ rfl,by rw [← add_field _ _ 5 (by omega)];exact hc 5 _ rfl,by rw [← add_field _ _ 6 (by omega)];exact hc 6 _ rfl,by rw [← add_field _ _ 7 (by omega)];exact hc 7 _ rfl,by rw [← add_field _ _ 8 (by omega)];exact hc 8 _ rfl,by rw [← add_field _ _ 9 (by omega)];exact hc 9 _ rfl,by rw [← add_field _ _ 10 (by omega)];exact hc 10 _ rfl,l3,g3,l6,g6,l8,g8⟩
structure S93 where
 f0:ByteArray
 f1:ByteArray
 f2:Int
 f3:Int
 f4:(List S100)
 f5:Int
 f6:S91
def z93:S93:=⟨(⟨#[]⟩:ByteArray),(⟨#[]⟩:ByteArray),(0:Int),(0:Int),([]:List S100),(0:Int),z91⟩
def k93:Kd S93:=Kd.iso (Kd.pair Kd.string (Kd.pair Kd.string (Kd.pair (Kd.int .i64) (Kd.pair (Kd.int .i64) (Kd.pair (Kd.slice 100 k100) (Kd.pair (Kd.int .i64) k91)))))) (fun x:S93=>(x.f0,x.f1,x.f2,x.f3,x.f4,x.f5,x.f6))
theorem k93_open {w:World} {x:S93} {cs:List Value} (h:k93.K w x cs):∃ A4 c4 A8 c8,cs=[.string x.f0,.string x.f1,.int .i64 x.f2,.int .i64 x.f3,.slice A4 x.f4.length c4,.int .i64 x.f5,.bool x.f6.f0,.string x.f6.f1,.slice A8 x.f6.f2.length c8,.bool x.f6.f3,.int .i64 x.f6.f4]∧x.f4.length≤c4∧k100.C w A4 x.f4.length x.f4∧x.f6.f2.length≤c8∧Kd.string.C w A8 x.f6.f2.length x.f6.f2:=by
 obtain ⟨_,_,rfl,rfl,⟨_,_,rfl,rfl,⟨_,_,rfl,rfl,⟨_,_,rfl,rfl,⟨_,_,rfl,⟨A4,c4,rfl,l4,g4⟩,⟨_,_,rfl,rfl,s6⟩⟩⟩⟩⟩⟩:=h
 obtain ⟨A8,c8,rfl,l8,g8⟩:=k91_open s6
 exact ⟨A4,c4,A8,c8,rfl,l4,g4,l8,g8⟩
theorem k93_openM {w:World} {base:Nat} {ok:Nat→Prop} {x:S93} {cs:List Value} (h:k93.M w base ok x cs):∃ v4 v8,cs=[.string x.f0,.string x.f1,.int .i64 x.f2,.int .i64 x.f3,v4,.int .i64 x.f5,.bool x.f6.f0,.string x.f6.f1,v8,.bool x.f6.f3,.int .i64 x.f6.f4]∧k100.R 100 w base ok v4 x.f4∧Kd.string.R 9 w base ok v8 x.f6.f2:=by
 obtain ⟨_,_,rfl,rfl,⟨_,_,rfl,rfl,⟨_,_,rfl,rfl,⟨_,_,rfl,rfl,⟨_,_,rfl,⟨v4,rfl,g4⟩,⟨_,_,rfl,rfl,s6⟩⟩⟩⟩⟩⟩:=h
 obtain ⟨v8,rfl,g8⟩:=k91_openM s6
 exact ⟨v4,v8,rfl,g4,g8⟩
theorem k93_mkM (w:World) (base:Nat) (ok:Nat→Prop) (x:S93) {v4:Value} (g4:k100.R 100 w base ok v4 x.f4) {v8:Value} (g8:Kd.string.R 9 w base ok v8 x.f6.f2):k93.M w base ok x [.string x.f0,.string x.f1,.int .i64 x.f2,.int .i64 x.f3,v4,.int .i64 x.f5,.bool x.f6.f0,.string x.f6.f1,v8,.bool x.f6.f3,.int .i64 x.f6.f4]:=⟨[.string x.f0],[.string x.f1,.int .i64 x.f2,.int .i64 x.f3,v4,.int .i64 x.f5,.bool x.f6.f0,.string x.f6.f1,v8,.bool x.f6.f3,.int .i64 x.f6.f4],rfl,rfl,⟨[.string x.f1],[.int .i64 x.f2,.int .i64 x.f3,v4,.int .i64 x.f5,.bool x.f6.f0,.string x.f6.f1,v8,.bool x.f6.f3,.int .i64 x.f6.f4],rfl,rfl,⟨[.int .i64 x.f2],[.int .i64 x.f3,v4,.int .i64 x.f5,.bool x.f6.f0,.string x.f6.f1,v8,.bool x.f6.f3,.int .i64 x.f6.f4],rfl,rfl,⟨[.int .i64 x.f3],[v4,.int .i64 x.f5,.bool x.f6.f0,.string x.f6.f1,v8,.bool x.f6.f3,.int .i64 x.f6.f4],rfl,rfl,⟨[v4],[.int .i64 x.f5,.bool x.f6.f0,.string x.f6.f1,v8,.bool x.f6.f3,.int .i64 x.f6.f4],rfl,⟨v4,rfl,g4⟩,⟨[.int .i64 x.f5],[.bool x.f6.f0,.string x.f6.f1,v8,.bool x.f6.f3,.int .i64 x.f6.f4],rfl,rfl,(k91_mkM w base ok x.f6 g8)⟩⟩⟩⟩⟩⟩
def rd_T93 (xs:List S93) (i:Int):S93:=xs.getD i.toNat z93
theorem at_T93 {w:World} {A:Option Addr} {n:Nat} {xs:List S93} (h:Kd.C k93 w A n xs) (i:Int) (h0:0≤i) (h1:i<n):∃ ad A4 c4 A8 c8,A=some ad∧w.cell? (ad.add (i.toNat*11))=some (.string (rd_T93 xs i).f0)∧w.cell? ⟨(ad.add (i.toNat*11)).block,(ad.add (i.toNat*11)).off+1,none⟩=some (.string (rd_T93 xs i).f1)∧w.cell? ⟨(ad.add (i.toNat*11)).block,(ad.add (i.toNat*11)).off+2,none⟩=some (.int .i64 (rd_T93 xs i).f2)∧w.cell? ⟨(ad.add (i.toNat*11)).block,(ad.add (i.toNat*11)).off+3,none⟩=some (.int .i64 (rd_T93 xs i).f3)∧w.cell? ⟨(ad.add (i.toNat*11)).block,(ad.add (i.toNat*11)).off+4,none⟩=some (.slice A4 (rd_T93 xs i).f4.length c4)∧w.cell? ⟨(ad.add (i.toNat*11)).block,(ad.add (i.toNat*11)).off+5,none⟩=some (.int .i64 (rd_T93 xs i).f5)∧w.cell? ⟨(ad.add (i.toNat*11)).block,(ad.add (i.toNat*11)).off+6,none⟩=some (.bool (rd_T93 xs i).f6.f0)∧w.cell? ⟨(ad.add (i.toNat*11)).block,(ad.add (i.toNat*11)).off+7,none⟩=some (.string (rd_T93 xs i).f6.f1)∧w.cell? ⟨(ad.add (i.toNat*11)).block,(ad.add (i.toNat*11)).off+8,none⟩=some (.slice A8 (rd_T93 xs i).f6.f2.length c8)∧w.cell? ⟨(ad.add (i.toNat*11)).block,(ad.add (i.toNat*11)).off+9,none⟩=some (.bool (rd_T93 xs i).f6.f3)∧w.cell? ⟨(ad.add (i.toNat*11)).block,(ad.add (i.toNat*11)).off+10,none⟩=some (.int .i64 (rd_T93 xs i).f6.f4)∧(rd_T93 xs i).f4.length≤c4∧k100.C w A4 (rd_T93 xs i).f4.length (rd_T93 xs i).f4∧(rd_T93 xs i).f6.f2.length≤c8∧Kd.string.C w A8 (rd_T93 xs i).f6.f2.length (rd_T93 xs i).f6.f2:=by
 obtain ⟨ad,c,e,_,hK,hc0⟩:=Kd.C_get h z93 i h0 h1
 have hc:∀ j u,c[j]?=some u→w.cell? (ad.add (i.toNat*11+j))=some u:=hc0
 obtain ⟨A4,c4,A8,c8,rfl,l4,g4,l8,g8⟩:=k93_open hK
 exact ⟨ad,A4,c4,A8,c8,e,hc 0 _ rfl,by rw [← add_field _ _ 1 (by omega)];exact hc 1 _ rfl,by rw [← add_field _ _ 2 (by omega)];exact hc 2 _ rfl,by rw [← add_field _ _ 3 (by omega)];exact hc 3 _ rfl,by rw [← add_field _ _ 4 (by omega)];exact hc 4 _ rfl,by rw [← add_field _ _ 5 (by omega)];exact hc 5 _ rfl,by rw [← add_field _ _ 6 (by omega)];exact hc 6 _ rfl,by rw [← add_field _ _ 7 (by omega)];exact hc 7 _ rfl,by rw [← add_field _ _ 8 (by omega)];exact hc 8 _ rfl,by rw [← add_field _ _ 9 (by omega)];exact hc 9 _ rfl,by rw [← add_field _ _ 10 (by omega)];exact hc 10 _ rfl,l4,g4,l8,g8⟩
structure S120 where
 f0:ByteArray
 f1:ByteArray
def z120:S120:=⟨(⟨#[]⟩:ByteArray),(⟨#[]⟩:ByteArray)⟩
def k120:Kd S120:=Kd.iso (Kd.pair Kd.string Kd.string) (fun x:S120=>(x.f0,x.f1))
theorem k120_open {w:World} {x:S120} {cs:List Value} (h:k120.K w x cs):cs=[.string x.f0,.string x.f1]:=by
 obtain ⟨_,_,rfl,rfl,rfl⟩:=h
 exact rfl
theorem k120_mkM (w:World) (base:Nat) (ok:Nat→Prop) (x:S120)  : k120.M w base ok x [.string x.f0,.string x.f1]:=⟨[.string x.f0],[.string x.f1],rfl,rfl,rfl⟩
def rd_T120 (xs:List S120) (i:Int):S120:=xs.getD i.toNat z120
theorem at_T120 {w:World} {A:Option Addr} {n:Nat} {xs:List S120} (h:Kd.C k120 w A n xs) (i:Int) (h0:0≤i) (h1:i<n):∃ ad ,A=some ad∧w.cell? (ad.add (i.toNat*2))=some (.string (rd_T120 xs i).f0)∧w.cell? ⟨(ad.add (i.toNat*2)).block,(ad.add (i.toNat*2)).off+1,none⟩=some (.string (rd_T120 xs i).f1):=by
 obtain ⟨ad,c,e,_,hK,hc0⟩:=Kd.C_get h z120 i h0 h1
 have hc:∀ j u,c[j]?=some u→w.cell? (ad.add (i.toNat*2+j))=some u:=hc0
 obtain rfl:=k120_open hK
 exact ⟨ad,e,hc 0 _ rfl,by rw [← add_field _ _ 1 (by omega)];exact hc 1 _ rfl⟩
structure S104 where
 f0:ByteArray
 f1:ByteArray
 f2:(List ByteArray)
 f3:Bool
 f4:Int
def z104:S104:=⟨(⟨#[]⟩:ByteArray),(⟨#[]⟩:ByteArray),([]:List ByteArray),false,(0:Int)⟩
def k104:Kd S104:=Kd.iso (Kd.pair Kd.string (Kd.pair Kd.string (Kd.pair (Kd.slice 9 Kd.string) (Kd.pair Kd.bool (Kd.int .i64))))) (fun x:S104=>(x.f0,x.f1,x.f2,x.f3,x.f4))
theorem k104_open {w:World} {x:S104} {cs:List Value} (h:k104.K w x cs):∃ A2 c2,cs=[.string x.f0,.string x.f1,.slice A2 x.f2.length c2,.bool x.f3,.int .i64 x.f4]∧x.f2.length≤c2∧Kd.string.C w A2 x.f2.length x.f2:=by
 obtain ⟨_,_,rfl,rfl,⟨_,_,rfl,rfl,⟨_,_,rfl,⟨A2,c2,rfl,l2,g2⟩,⟨_,_,rfl,rfl,rfl⟩⟩⟩⟩:=h
 exact ⟨A2,c2,rfl,l2,g2⟩
theorem k104_openM {w:World} {base:Nat} {ok:Nat→Prop} {x:S104} {cs:List Value} (h:k104.M w base ok x cs):∃ v2,cs=[.string x.f0,.string x.f1,v2,.bool x.f3,.int .i64 x.f4]∧Kd.string.R 9 w base ok v2 x.f2:=by
 obtain ⟨_,_,rfl,rfl,⟨_,_,rfl,rfl,⟨_,_,rfl,⟨v2,rfl,g2⟩,⟨_,_,rfl,rfl,rfl⟩⟩⟩⟩:=h
 exact ⟨v2,rfl,g2⟩
theorem k104_mkM (w:World) (base:Nat) (ok:Nat→Prop) (x:S104) {v2:Value} (g2:Kd.string.R 9 w base ok v2 x.f2):k104.M w base ok x [.string x.f0,.string x.f1,v2,.bool x.f3,.int .i64 x.f4]:=⟨[.string x.f0],[.string x.f1,v2,.bool x.f3,.int .i64 x.f4],rfl,rfl,⟨[.string x.f1],[v2,.bool x.f3,.int .i64 x.f4],rfl,rfl,⟨[v2],[.bool x.f3,.int .i64 x.f4],rfl,⟨v2,rfl,g2⟩,⟨[.bool x.f3],[.int .i64 x.f4],rfl,rfl,rfl⟩⟩⟩⟩
def rd_T104 (xs:List S104) (i:Int):S104:=xs.getD i.toNat z104
theorem at_T104 {w:World} {A:Option Addr} {n:Nat} {xs:List S104} (h:Kd.C k104 w A n xs) (i:Int) (h0:0≤i) (h1:i<n):∃ ad A2 c2,A=some ad∧w.cell? (ad.add (i.toNat*5))=some (.string (rd_T104 xs i).f0)∧w.cell? ⟨(ad.add (i.toNat*5)).block,(ad.add (i.toNat*5)).off+1,none⟩=some (.string (rd_T104 xs i).f1)∧w.cell? ⟨(ad.add (i.toNat*5)).block,(ad.add (i.toNat*5)).off+2,none⟩=some (.slice A2 (rd_T104 xs i).f2.length c2)∧w.cell? ⟨(ad.add (i.toNat*5)).block,(ad.add (i.toNat*5)).off+3,none⟩=some (.bool (rd_T104 xs i).f3)∧w.cell? ⟨(ad.add (i.toNat*5)).block,(ad.add (i.toNat*5)).off+4,none⟩=some (.int .i64 (rd_T104 xs i).f4)∧(rd_T104 xs i).f2.length≤c2∧Kd.string.C w A2 (rd_T104 xs i).f2.length (rd_T104 xs i).f2:=by
 obtain ⟨ad,c,e,_,hK,hc0⟩:=Kd.C_get h z104 i h0 h1
 have hc:∀ j u,c[j]?=some u→w.cell? (ad.add (i.toNat*5+j))=some u:=hc0
 obtain ⟨A2,c2,rfl,l2,g2⟩:=k104_open hK
 exact ⟨ad,A2,c2,e,hc 0 _ rfl,by rw [← add_field _ _ 1 (by omega)];exact hc 1 _ rfl,by rw [← add_field _ _ 2 (by omega)];exact hc 2 _ rfl,by rw [← add_field _ _ 3 (by omega)];exact hc 3 _ rfl,by rw [← add_field _ _ 4 (by omega)];exact hc 4 _ rfl,l2,g2⟩
end Go.Proofs.YtcakgennlliejaaGreatDoor.PSyntaxJoined
namespace Go.Proofs.YtcakgennlliejaaGreatDoor
open Go.Shelf Go.RowKit Go.Lib
open Go.Proofs.YtcakgennlliejaaGreatDoorW.PrintWords
open Go.Proofs.YtcakgennlliejaaGreatDoor.PSyntaxJoined
open Sx
set_option linter.unusedVariables false
set_option linter.unusedSimpArgs false
structure Sx.Bx (w0 X:World) (V:Env) (p0 q b:Nat) (t:TypeId) (cells:Array Value):Prop where
 h0:Rd w0 V p0
 rd:Rd X V q
 keep:Keep (ours V) w0 X
 blk:X.heap[b]?=some (.cells cells t (0,0))
 ge:w0.heap.size≤b
namespace Sx.Bx
variable {w0 X X2:World} {V:Env} {p0 q q2 b:Nat} {t:TypeId} {cells:Array Value}
theorem call (h:Bx w0 X V p0 q b t cells) (hr:Rd X2 V q2) (hk:Keep (ours V) X X2):Bx w0 X2 V p0 q2 b t cells :=
 ⟨h.h0,hr,h.keep.trans hk (fun _ _ h=>h),hk.blk h.blk (fun e=>by unfold ours at e;have h1:=World.block_lt_of_cell? w0 _ h.h0.pos;have h2:=h.ge;simp only at h1;omega),h.ge⟩
theorem alloc (h:Bx w0 X V p0 q b t cells) (o:Obj):Bx w0 (X.alloc o) V p0 q b t cells :=
 h.call (h.rd.below ((Below.refl _ X).alloc (Nat.le_refl _) _)) (Keep.of_below ((Below.refl _ X).alloc (Nat.le_refl _) _))
theorem new (h0:Rd w0 V p0) (hr:Rd X V q) (hk:Keep (ours V) w0 X) (t:TypeId) (cells:Array Value):Bx w0 (X.alloc (.cells cells t)) V p0 q X.heap.size t cells :=
 ⟨h0,hr.below ((Below.refl _ X).alloc (Nat.le_refl _) _),hk.below ((Below.refl _ X).alloc (Nat.le_refl _) _),heap_alloc_new X _,hk.size⟩
theorem far (h:Bx w0 X V p0 q b t cells) {c:Nat} (hc:w0.heap.size≤c) (hn:c≠b) (j:Nat) (v:Value):Bx w0 (X.setCell ⟨c,j,none⟩ v) V p0 q b t cells:=by
 have hb:Below w0.heap.size X (X.setCell ⟨c,j,none⟩ v):=(Below.mono (Below.refl _ X) h.keep.size).setCell (p:=⟨c,j,none⟩) hc v
 exact ⟨h.h0,rd_over h.h0 h.rd hb,keep_over h.keep hb,(Below.heap_setCell _ _ _ _ (fun e=>hn e.symm)).trans h.blk,h.ge⟩
theorem set (h:Bx w0 X V p0 q b t cells) (j:Nat) (v:Value):Bx w0 (X.setCell ⟨b,j,none⟩ v) V p0 q b t (cells.setIfInBounds j v):=by
 have hb:Below w0.heap.size X (X.setCell ⟨b,j,none⟩ v):=(Below.mono (Below.refl _ X) h.keep.size).setCell (p:=⟨b,j,none⟩) h.ge v
 exact ⟨h.h0,rd_over h.h0 h.rd hb,keep_over h.keep hb,heap_setCell_same h.blk j v,h.ge⟩
end Sx.Bx
def Sx.aggR {α:Type} (d:Kd α) (base:Nat) (v:α) (x:Value) (w:World):Prop:=∃ cs,x=.agg cs.toArray∧d.M w base (fun k=>base≤k) v cs
def Sx.Env.literal (V:Env) (p:Nat):Res S91 :=
 (V.name (if V.isT 6 ⟨#[45]⟩ p then p+1 else p)).bnd fun n q2=>(V.brackets V.arg q2).bnd fun l q3 =>
  if V.isT 6 ⟨#[61]⟩ q3 then (V.money (q3+1)).bnd fun m q4=>.ok ⟨V.isT 6 ⟨#[45]⟩ p,n,l,true,m⟩ q4 else .ok ⟨V.isT 6 ⟨#[45]⟩ p,n,l,false,0⟩ q3
theorem arg_enters:∀ args w,(callFunc 113 args).run Tryz.prog w=.ok (.enter 113 args) w:=Go.Proofs.enters_of (f:=113) Tryz.func113 (by kernel_rfl) rfl
theorem name_enters:∀ args w,(callFunc 56 args).run Tryz.prog w=.ok (.enter 56 args) w:=Go.Proofs.enters_of (f:=56) Tryz.func56 (by kernel_rfl) rfl
theorem money_enters:∀ args w,(callFunc 89 args).run Tryz.prog w=.ok (.enter 89 args) w:=Go.Proofs.enters_of (f:=89) Tryz.func89 (by kernel_rfl) rfl
theorem literal_calls (V:Env) (p:Nat) (w:World) (h:Rd w V p):Calls Tryz.prog 95 #[.pointer (some ⟨V.rb,0,none⟩)] w (Post V w (aggR k91 w.heap.size) (V.literal p)):=by
 have hmf:∀ (fn:Fn) (first cap:Array Value) (w:World),(Instr.makeFunc fn first cap).run Tryz.prog w=.ok (.func fn first cap) w:=fun _ _ _ _=>rfl
 have HS:=Lib.hid (fun w1 (h1:Rd w1 V p)=>skip_calls V p 6 ⟨#[45]⟩ w1 h1 (by decide))
 have hF:V.literal p=V.literal p:=rfl
 conv at hF=>rhs;unfold Env.literal
 generalize V.isT 6 ⟨#[45]⟩ p=b at *
 obtain ⟨q,hq⟩:∃ q,(if b then p+1 else p)=q:=⟨_,rfl⟩
 rw [hq] at hF HS
 have HN:=Lib.hid (fun w1 (h1:Rd w1 V q)=>name_calls V q w1 h1)
 generalize V.name q=rn at *
 have HF:=Lib.hid hF
 have HR:=Lib.hid h
 have H0:=Lib.hid (Bx.new h h (Keep.refl _ _) 91 #[.bool false,.string ⟨#[]⟩,.slice none 0 0,.bool false,.int .i64 0])
 clear hF hq h
 go_enter Tryz.func95,Tryz.ntmps95
 go_upto_region 1 with (fail)
 obtain ⟨W0,hW0⟩:∃ W0,w.alloc (Obj.cells #[.bool false,.string ⟨#[]⟩,.slice none 0 0,.bool false,.int .i64 0] 91)=W0:=⟨_,rfl⟩
 try rw [hW0]
 rw [hW0] at H0
 clear hW0
 go_upto_region 2 with (first | (go_at_call 38;refine (HS.out W0 H0.out.rd).mono ?_;rintro e w1 ⟨rfl,hr1,hk1⟩))
 have HA1:=Lib.hid ((H0.out.call hr1 hk1).alloc (Obj.cells #[.bool b,.string ⟨#[]⟩,.slice none 0 0,.bool false,.int .i64 0] 91))
 have HB1:=Lib.hid (Bx.new HR.out hr1 (H0.out.call hr1 hk1).keep 91 #[.bool b,.string ⟨#[]⟩,.slice none 0 0,.bool false,.int .i64 0])
 obtain ⟨B,hB⟩:∃ B,w1.heap.size=B:=⟨_,rfl⟩
 have HBn:=Lib.hid (show w.heap.size≠B by rw [← hB];have h1:=H0.out.keep.size;have h2:=hk1.size;have h3:=World.block_lt_of_cell? _ _ (blk_cell (v:=.bool false) H0.out.blk 0 rfl);simp only at h3;omega)
 obtain ⟨X,hX⟩:∃ X,w1.alloc (Obj.cells #[.bool b,.string ⟨#[]⟩,.slice none 0 0,.bool false,.int .i64 0] 91)=X:=⟨_,rfl⟩
 rw [hX] at HA1
 rw [hX,hB] at HB1
 try rw [hX,hB]
 clear hX hr1 hk1
 cases rn with
 | bad er a =>
  go_wp2_with (first | (go_at_call 56;refine (HN.out X HA1.out.rd).mono ?_;rintro e w2 ⟨rfl,hk2⟩))
  refine ⟨rfl,?_⟩
  rw [HF.out]
  exact ⟨rfl,HA1.out.keep.trans hk2 (fun _ _ h=>h)⟩
 | ok n q2 =>
  have HK:=Lib.hid (fun w1 (h1:Rd w1 V q2)=>brackets_calls V V.arg 113 arg_enters (arg_calls V) q2 w1 h1)
  have hF2:V.literal p=(V.brackets V.arg q2).bnd fun l q3=>if V.isT 6 ⟨#[61]⟩ q3 then (V.money (q3+1)).bnd fun m q4=>.ok ⟨b,n,l,true,m⟩ q4 else .ok ⟨b,n,l,false,0⟩ q3:=HF.out
  generalize V.brackets V.arg q2=rk at *
  have HF2:=Lib.hid hF2
  clear hF2 HF
  go_upto_region 3 with (first | (go_at_call 56;refine (HN.out X HA1.out.rd).mono ?_;rintro e w2 ⟨x,rfl,rfl,hr2,hk2⟩;have HB2:=Lib.hid (HB1.out.call hr2 hk2);have HA2:=Lib.hid (HA1.out.call hr2 hk2);have y1:=blk_cell (v:=.string ⟨#[]⟩) HB2.out.blk 1 rfl;have f1:=blk_free HB2.out.blk 1))
  clear y1 f1
  have HB3:=Lib.hid (HB2.out.set 1 (.string n))
  have HA3:=Lib.hid (HA2.out.far HB2.out.ge (Ne.symm HBn.out) 1 (.string n))
  clear HA2 HA1 HB1 hr2 hk2 HB2
  generalize w2.setCell ⟨B,1,none⟩ (.string n)=X3 at *
  cases rk with
  | bad er a =>
   go_wp2_with (first | (go_at_call 87;refine (HK.out X3 HA3.out.rd).mono ?_;rintro e w3 ⟨rfl,hk3⟩))
   refine ⟨rfl,?_⟩
   rw [HF2.out]
   exact ⟨rfl,HA3.out.keep.trans hk3 (fun _ _ h=>h)⟩
  | ok l q3 =>
   have HS3:=Lib.hid (fun w1 (h1:Rd w1 V q3)=>skip_calls V q3 6 ⟨#[61]⟩ w1 h1 (by decide))
   have HM:=Lib.hid (fun w1 (h1:Rd w1 V (q3+1))=>money_calls V (q3+1) w1 h1)
   have hF3:V.literal p=if V.isT 6 ⟨#[61]⟩ q3 then (V.money (q3+1)).bnd fun m q4=>.ok ⟨b,n,l,true,m⟩ q4 else .ok ⟨b,n,l,false,0⟩ q3:=HF2.out
   generalize V.isT 6 ⟨#[61]⟩ q3=eq at *
   generalize V.money (q3+1)=rm at *
   go_upto_region 4 with (first | (go_at_call 87;refine (HK.out X3 HA3.out.rd).mono ?_;rintro e w3 ⟨x,rfl,hx,hr3,hk3⟩;have HB4:=Lib.hid (HB3.out.call hr3 hk3);have HA4:=Lib.hid (HA3.out.call hr3 hk3);have y1:=blk_cell (v:=.slice none 0 0) HB4.out.blk 2 rfl;have f1:=blk_free HB4.out.blk 2;obtain ⟨A,c,rfl⟩:=Kd.R_slice hx))
   clear y1 f1
   obtain ⟨s3,hs3⟩:∃ s3,X3.heap.size=s3:=⟨_,rfl⟩
   have HS3':=Lib.hid (show B<s3∧w.heap.size<s3∧V.rb<s3 by
    have h1:=World.block_lt_of_cell? _ _ (blk_cell (v:=.bool b) HB3.out.blk 0 rfl)
    have h2:=World.block_lt_of_cell? _ _ (blk_cell (v:=.bool false) HA3.out.blk 0 rfl)
    have h3:=World.block_lt_of_cell? _ _ HB3.out.rd.pos
    simp only at h1 h2 h3;omega)
   rw [hs3] at hx
   have HX4:=Lib.hid (show strsR s3 l (.slice A l.length c) (w3.setCell ⟨B,2,none⟩ (.slice A l.length c)) from Kd.R_far hx (p:=⟨B,2,none⟩) (fun k hk=>by have:=HS3'.out;simp only;omega) _)
   have HA4':=Lib.hid (HA4.out.far HB4.out.ge (Ne.symm HBn.out) 2 (.slice A l.length c))
   have HB4':=Lib.hid (HB4.out.set 2 (.slice A l.length c))
   clear HB4 HA4 HB3 HA3 hr3 hk3 hx HK HF2 hs3
   have HF3:=Lib.hid hF3
   clear hF3
   generalize w3.setCell ⟨B,2,none⟩ (.slice A l.length c)=X4 at *
   cases eq
   ·go_upto_region 6 with (first | (go_at_call 38;refine (HS3.out X4 HA4'.out.rd).mono ?_;rintro e X6 ⟨rfl,hr5,hk5⟩))
    have HB5:=Lib.hid (HB4'.out.call hr5 hk5)
    have HA5:=Lib.hid (HA4'.out.call hr5 hk5)
    have HX5:=Lib.hid (strsR_keep HX4.out HS3'.out.2.2 hk5)
    clear HB4' HA4' HX4 hr5 hk5
    have HB6:=Lib.hid (show Bx w X6 V p q3 B 91 #[.bool b,.string n,.slice A l.length c,.bool false,.int .i64 0] from HB5.out)
    clear HB5
    have y0:=blk_cell (v:=.bool b) HB6.out.blk 0 rfl
    have y1:=blk_cell (v:=.string n) HB6.out.blk 1 rfl
    have y2:=blk_cell (v:=.slice A l.length c) HB6.out.blk 2 rfl
    have y3:=blk_cell (v:=.bool false) HB6.out.blk 3 rfl
    have y4:=blk_cell (v:=.int .i64 0) HB6.out.blk 4 rfl
    have z0:=blk_cell (v:=.bool false) HA5.out.blk 0 rfl
    have z1:=blk_cell (v:=.string ⟨#[]⟩) HA5.out.blk 1 rfl
    have z2:=blk_cell (v:=.slice none 0 0) HA5.out.blk 2 rfl
    have z3:=blk_cell (v:=.bool false) HA5.out.blk 3 rfl
    have z4:=blk_cell (v:=.int .i64 0) HA5.out.blk 4 rfl
    have g0:=blk_free HA5.out.blk 0
    have g1:=blk_free HA5.out.blk 1
    have g2:=blk_free HA5.out.blk 2
    have g3:=blk_free HA5.out.blk 3
    have g4:=blk_free HA5.out.blk 4
    go_wp2_with fail
    have hE:=((((HA5.out.set 0 (.bool b)).set 1 (.string n)).set 2 (.slice A l.length c)).set 3 (.bool false)).set 4 (.int .i64 0)
    refine bodyPost_ret (results_cell_row rfl _ _ w.heap.size 91 #[.bool b,.string n,.slice A l.length c,.bool false,.int .i64 0] (0,0) _ rfl hE.blk Tryz.underlying91 rfl rfl) rfl ?_
    rw [HF3.out]
    have hx7:=HX5.out
    have hx8:strsR s3 l (.slice A l.length c) _:=Kd.R_far (Kd.R_far (Kd.R_far (Kd.R_far (Kd.R_far hx7 (p:=⟨w.heap.size,0,none⟩) (fun k hk=>by have:=HS3'.out;simp only;omega) (.bool b)) (p:=⟨w.heap.size,1,none⟩) (fun k hk=>by have:=HS3'.out;simp only;omega) (.string n)) (p:=⟨w.heap.size,2,none⟩) (fun k hk=>by have:=HS3'.out;simp only;omega) (.slice A l.length c)) (p:=⟨w.heap.size,3,none⟩) (fun k hk=>by have:=HS3'.out;simp only;omega) (.bool false)) (p:=⟨w.heap.size,4,none⟩) (fun k hk=>by have:=HS3'.out;simp only;omega) (.int .i64 0)
    have hx9:=Kd.R_lower (Kd.R_mono hx8 (ok':=fun k=>w.heap.size≤k) (fun k hk=>by have:=HS3'.out;omega)) (base':=w.heap.size) (by have:=HS3'.out;omega)
    exact ⟨_,rfl,⟨_,rfl,k91_mkM _ _ _ (⟨b,n,l,false,0⟩:S91) hx9⟩,hE.rd,hE.keep⟩
   ·cases rm with
    | bad er a =>
     go_wp2_with (first | (go_at_call 38;refine (HS3.out X4 HA4'.out.rd).mono ?_;rintro e w5 ⟨rfl,hr5,hk5⟩) | (go_at_call 89;refine (HM.out w5 hr5).mono ?_;rintro e w6 ⟨rfl,hk6⟩))
     refine ⟨rfl,?_⟩
     rw [HF3.out]
     exact ⟨rfl,(HA4'.out.keep.trans hk5 (fun _ _ h=>h)).trans hk6 (fun _ _ h=>h)⟩
    | ok m q4 =>
     go_upto_region 6 with (first | (go_at_call 38;refine (HS3.out X4 HA4'.out.rd).mono ?_;rintro e w5 ⟨rfl,hr5,hk5⟩) | (go_at_call 89;refine (HM.out w5 hr5).mono ?_;rintro e w6 ⟨x,rfl,rfl,hr6,hk6⟩;have HBa:=Lib.hid ((HB4'.out.call hr5 hk5).call hr6 hk6);have HAa:=Lib.hid ((HA4'.out.call hr5 hk5).call hr6 hk6);have y3:=blk_cell (v:=.bool false) HBa.out.blk 3 rfl;have f3:=blk_free HBa.out.blk 3;have y4:=blk_cell (v:=.int .i64 0) HBa.out.blk 4 rfl;have f4:=blk_free HBa.out.blk 4))
     clear y3 f3 y4 f4
     have HXa:=Lib.hid (show strsR s3 l (.slice A l.length c) ((w6.setCell ⟨B,3,none⟩ (.bool true)).setCell ⟨B,4,none⟩ (.int .i64 m)) from Kd.R_far (Kd.R_far (strsR_keep (strsR_keep HX4.out HS3'.out.2.2 hk5) HS3'.out.2.2 hk6) (p:=⟨B,3,none⟩) (fun k hk=>by have:=HS3'.out;simp only;omega) _) (p:=⟨B,4,none⟩) (fun k hk=>by have:=HS3'.out;simp only;omega) _)
     have HA5:=Lib.hid ((HAa.out.far HBa.out.ge (Ne.symm HBn.out) 3 (.bool true)).far HBa.out.ge (Ne.symm HBn.out) 4 (.int .i64 m))
     have HB5:=Lib.hid ((HBa.out.set 3 (.bool true)).set 4 (.int .i64 m))
     clear HB4' HA4' HX4 hr5 hk5 hr6 hk6 HBa HAa
     have HX5:=HXa
     clear HXa
     generalize (w6.setCell ⟨B,3,none⟩ (.bool true)).setCell ⟨B,4,none⟩ (.int .i64 m)=X6 at *
     have HB6:=Lib.hid (show Bx w X6 V p q4 B 91 #[.bool b,.string n,.slice A l.length c,.bool true,.int .i64 m] from HB5.out)
     clear HB5
     have y0:=blk_cell (v:=.bool b) HB6.out.blk 0 rfl
     have y1:=blk_cell (v:=.string n) HB6.out.blk 1 rfl
     have y2:=blk_cell (v:=.slice A l.length c) HB6.out.blk 2 rfl
     have y3:=blk_cell (v:=.bool true) HB6.out.blk 3 rfl
     have y4:=blk_cell (v:=.int .i64 m) HB6.out.blk 4 rfl
     have z0:=blk_cell (v:=.bool false) HA5.out.blk 0 rfl
     have z1:=blk_cell (v:=.string ⟨#[]⟩) HA5.out.blk 1 rfl
     have z2:=blk_cell (v:=.slice none 0 0) HA5.out.blk 2 rfl
     have z3:=blk_cell (v:=.bool false) HA5.out.blk 3 rfl
     have z4:=blk_cell (v:=.int .i64 0) HA5.out.blk 4 rfl
     have g0:=blk_free HA5.out.blk 0
     have g1:=blk_free HA5.out.blk 1
     have g2:=blk_free HA5.out.blk 2
     have g3:=blk_free HA5.out.blk 3
     have g4:=blk_free HA5.out.blk 4
     go_wp2_with fail
     have hE:=((((HA5.out.set 0 (.bool b)).set 1 (.string n)).set 2 (.slice A l.length c)).set 3 (.bool true)).set 4 (.int .i64 m)
     refine bodyPost_ret (results_cell_row rfl _ _ w.heap.size 91 #[.bool b,.string n,.slice A l.length c,.bool true,.int .i64 m] (0,0) _ rfl hE.blk Tryz.underlying91 rfl rfl) rfl ?_
     rw [HF3.out]
     have hx7:=HX5.out
     have hx8:strsR s3 l (.slice A l.length c) _:=Kd.R_far (Kd.R_far (Kd.R_far (Kd.R_far (Kd.R_far hx7 (p:=⟨w.heap.size,0,none⟩) (fun k hk=>by have:=HS3'.out;simp only;omega) (.bool b)) (p:=⟨w.heap.size,1,none⟩) (fun k hk=>by have:=HS3'.out;simp only;omega) (.string n)) (p:=⟨w.heap.size,2,none⟩) (fun k hk=>by have:=HS3'.out;simp only;omega) (.slice A l.length c)) (p:=⟨w.heap.size,3,none⟩) (fun k hk=>by have:=HS3'.out;simp only;omega) (.bool true)) (p:=⟨w.heap.size,4,none⟩) (fun k hk=>by have:=HS3'.out;simp only;omega) (.int .i64 m)
     have hx9:=Kd.R_lower (Kd.R_mono hx8 (ok':=fun k=>w.heap.size≤k) (fun k hk=>by have:=HS3'.out;omega)) (base':=w.heap.size) (by have:=HS3'.out;omega)
     exact ⟨_,rfl,⟨_,rfl,k91_mkM _ _ _ (⟨b,n,l,true,m⟩:S91) hx9⟩,hE.rd,hE.keep⟩
def Sx.Env.total (V:Env) (p:Nat):Res S104 :=
 (V.name p).bnd fun n q1=>(V.must 6 ⟨#[40]⟩ q1).bnd fun _ q2=>(V.name q2).bnd fun k q3=>(V.must 6 ⟨#[41]⟩ q3).bnd fun _ q4=>(V.must 6 ⟨#[58]⟩ q4).bnd fun _ q5=>(V.list V.name 0 16 q5).bnd fun l q6=>if V.isT 1 ⟨#[99,97,112]⟩ q6 then (V.money (q6+1)).bnd fun m q7=>.ok ⟨n,k,l,true,m⟩ q7 else .ok ⟨n,k,l,false,0⟩ q6
theorem total_calls (V:Env) (p:Nat) (w:World) (h:Rd w V p):Calls Tryz.prog 61 #[.pointer (some ⟨V.rb,0,none⟩)] w (Post V w (aggR k104 w.heap.size) (V.total p)):=by
 have hmf:∀ (fn:Fn) (first cap:Array Value) (w:World),(Instr.makeFunc fn first cap).run Tryz.prog w=.ok (.func fn first cap) w:=fun _ _ _ _=>rfl
 have HF0:=Lib.hid (show V.total p=(V.name p).bnd fun n q1=>(V.must 6 ⟨#[40]⟩ q1).bnd fun _ q2=>(V.name q2).bnd fun k q3=>(V.must 6 ⟨#[41]⟩ q3).bnd fun _ q4=>(V.must 6 ⟨#[58]⟩ q4).bnd fun _ q5=>(V.list V.name 0 16 q5).bnd fun l q6=>if V.isT 1 ⟨#[99,97,112]⟩ q6 then (V.money (q6+1)).bnd fun m q7=>.ok ⟨n,k,l,true,m⟩ q7 else .ok ⟨n,k,l,false,0⟩ q6 from rfl)
 have HR:=Lib.hid h
 have HA0:=Lib.hid (Bx.new h h (Keep.refl _ _) 104 #[(.string ⟨#[]⟩),(.string ⟨#[]⟩),(.slice none 0 0),(.bool false),(.int .i64 0)])
 clear h
 go_enter Tryz.func61,Tryz.ntmps61
 go_upto_region 1 with (fail)
 obtain ⟨X0,hX0⟩:∃ X0,w.alloc (Obj.cells #[(.string ⟨#[]⟩),(.string ⟨#[]⟩),(.slice none 0 0),(.bool false),(.int .i64 0)] 104)=X0:=⟨_,rfl⟩
 try rw [hX0]
 rw [hX0] at HA0
 clear hX0
 have HK1:=Lib.hid (fun w1 h1=>name_calls V p w1 h1)
 have hF1:V.total p=(V.name p).bnd fun n q1=>(V.must 6 ⟨#[40]⟩ q1).bnd fun _ q2=>(V.name q2).bnd fun k q3=>(V.must 6 ⟨#[41]⟩ q3).bnd fun _ q4=>(V.must 6 ⟨#[58]⟩ q4).bnd fun _ q5=>(V.list V.name 0 16 q5).bnd fun l q6=>if V.isT 1 ⟨#[99,97,112]⟩ q6 then (V.money (q6+1)).bnd fun m q7=>.ok ⟨n,k,l,true,m⟩ q7 else .ok ⟨n,k,l,false,0⟩ q6:=HF0.out
 generalize V.name p=r1 at *
 have HF1:=Lib.hid hF1
 clear hF1 HF0
 cases r1 with
 | bad er a =>
  go_wp2_with (first | (go_at_call 56;refine (HK1.out X0 HA0.out.rd).mono ?_;rintro e w2 ⟨rfl,hk2⟩))
  refine ⟨rfl,?_⟩
  rw [HF1.out]
  exact ⟨rfl,HA0.out.keep.trans hk2 (fun _ _ h=>h)⟩
 | ok n q1 =>
  go_upto_region 2 with (first | (go_at_call 56;refine (HK1.out X0 HA0.out.rd).mono ?_;rintro e w2 ⟨x,rfl,rfl,hr2,hk2⟩;have HAc1:=Lib.hid (HA0.out.call hr2 hk2)))
  have HA1:=Lib.hid (HAc1.out.alloc (Obj.cells #[(.string n),(.string ⟨#[]⟩),(.slice none 0 0),(.bool false),(.int .i64 0)] 104))
  have HB1:=Lib.hid (Bx.new HR.out hr2 HAc1.out.keep 104 #[(.string n),(.string ⟨#[]⟩),(.slice none 0 0),(.bool false),(.int .i64 0)])
  obtain ⟨B,hB⟩:∃ B,w2.heap.size=B:=⟨_,rfl⟩
  have HBn:=Lib.hid (show w.heap.size≠B by rw [← hB];have h3:=World.block_lt_of_cell? _ _ (blk_cell (v:=(.string ⟨#[]⟩)) HAc1.out.blk 0 rfl);simp only at h3;omega)
  obtain ⟨X1,hX⟩:∃ X,w2.alloc (Obj.cells #[(.string n),(.string ⟨#[]⟩),(.slice none 0 0),(.bool false),(.int .i64 0)] 104)=X:=⟨_,rfl⟩
  rw [hX] at HA1
  rw [hX,hB] at HB1
  try rw [hX,hB]
  clear hX hr2 hk2 HAc1 HA0
  have HK2:=Lib.hid (fun w1 h1=>must_calls V q1 6 ⟨#[40]⟩ w1 h1 (by decide))
  have hF2:V.total p=(V.must 6 ⟨#[40]⟩ q1).bnd fun _ q2=>(V.name q2).bnd fun k q3=>(V.must 6 ⟨#[41]⟩ q3).bnd fun _ q4=>(V.must 6 ⟨#[58]⟩ q4).bnd fun _ q5=>(V.list V.name 0 16 q5).bnd fun l q6=>if V.isT 1 ⟨#[99,97,112]⟩ q6 then (V.money (q6+1)).bnd fun m q7=>.ok ⟨n,k,l,true,m⟩ q7 else .ok ⟨n,k,l,false,0⟩ q6:=HF1.out
  generalize V.must 6 ⟨#[40]⟩ q1=r2 at *
  have HF2:=Lib.hid hF2
  clear hF2 HF1
  cases r2 with
  | bad er a =>
   go_wp2_with (first | (go_at_call 41;refine (HK2.out X1 HA1.out.rd).mono ?_;rintro e w2 ⟨rfl,hk2⟩))
   refine ⟨rfl,?_⟩
   rw [HF2.out]
   exact ⟨rfl,HA1.out.keep.trans hk2 (fun _ _ h=>h)⟩
  | ok _ q2 =>
   go_upto_region 3 with (first | (go_at_call 41;refine (HK2.out X1 HA1.out.rd).mono ?_;rintro e X2 ⟨x,rfl,rfl,hr2,hk2⟩;have HAc2:=Lib.hid (HA1.out.call hr2 hk2);have HBc2:=Lib.hid (HB1.out.call hr2 hk2)))
   have HA2:=Lib.hid HAc2.out
   have HB2:=Lib.hid (show Bx w X2 V p q2 B 104 #[(.string n),(.string ⟨#[]⟩),(.slice none 0 0),(.bool false),(.int .i64 0)] from HBc2.out)
   clear HAc2 HBc2 HA1 HB1 hr2 hk2 HK2 
   have HK3:=Lib.hid (fun w1 h1=>name_calls V q2 w1 h1)
   have hF3:V.total p=(V.name q2).bnd fun k q3=>(V.must 6 ⟨#[41]⟩ q3).bnd fun _ q4=>(V.must 6 ⟨#[58]⟩ q4).bnd fun _ q5=>(V.list V.name 0 16 q5).bnd fun l q6=>if V.isT 1 ⟨#[99,97,112]⟩ q6 then (V.money (q6+1)).bnd fun m q7=>.ok ⟨n,k,l,true,m⟩ q7 else .ok ⟨n,k,l,false,0⟩ q6:=HF2.out
   generalize V.name q2=r3 at *
   have HF3:=Lib.hid hF3
   clear hF3 HF2
   cases r3 with
   | bad er a =>
    go_wp2_with (first | (go_at_call 56;refine (HK3.out X2 HA2.out.rd).mono ?_;rintro e w2 ⟨rfl,hk2⟩))
    refine ⟨rfl,?_⟩
    rw [HF3.out]
    exact ⟨rfl,HA2.out.keep.trans hk2 (fun _ _ h=>h)⟩
   | ok k q3 =>
    go_upto_region 4 with (first | (go_at_call 56;refine (HK3.out X2 HA2.out.rd).mono ?_;rintro e w2 ⟨x,rfl,rfl,hr2,hk2⟩;have HAc3:=Lib.hid (HA2.out.call hr2 hk2);have HBc3:=Lib.hid (HB2.out.call hr2 hk2);have y1:=blk_cell (v:=(.string ⟨#[]⟩)) HBc3.out.blk 1 rfl;have f1:=blk_free HBc3.out.blk 1))
    clear y1 f1
    have HA3:=Lib.hid (HAc3.out.far HBc3.out.ge (Ne.symm HBn.out) 1 (.string k))
    have HB3:=Lib.hid (show Bx w (w2.setCell ⟨B,1,none⟩ ((.string k))) V p q3 B 104 #[(.string n),(.string k),(.slice none 0 0),(.bool false),(.int .i64 0)] from (HBc3.out.set 1 (.string k)))
    clear HAc3 HBc3 HA2 HB2 hr2 hk2 HK3 
    generalize w2.setCell ⟨B,1,none⟩ ((.string k))=X3 at *
    have HK4:=Lib.hid (fun w1 h1=>must_calls V q3 6 ⟨#[41]⟩ w1 h1 (by decide))
    have hF4:V.total p=(V.must 6 ⟨#[41]⟩ q3).bnd fun _ q4=>(V.must 6 ⟨#[58]⟩ q4).bnd fun _ q5=>(V.list V.name 0 16 q5).bnd fun l q6=>if V.isT 1 ⟨#[99,97,112]⟩ q6 then (V.money (q6+1)).bnd fun m q7=>.ok ⟨n,k,l,true,m⟩ q7 else .ok ⟨n,k,l,false,0⟩ q6:=HF3.out
    generalize V.must 6 ⟨#[41]⟩ q3=r4 at *
    have HF4:=Lib.hid hF4
    clear hF4 HF3
    cases r4 with
    | bad er a =>
     go_wp2_with (first | (go_at_call 41;refine (HK4.out X3 HA3.out.rd).mono ?_;rintro e w2 ⟨rfl,hk2⟩))
     refine ⟨rfl,?_⟩
     rw [HF4.out]
     exact ⟨rfl,HA3.out.keep.trans hk2 (fun _ _ h=>h)⟩
    | ok _ q4 =>
     go_upto_region 5 with (first | (go_at_call 41;refine (HK4.out X3 HA3.out.rd).mono ?_;rintro e X4 ⟨x,rfl,rfl,hr2,hk2⟩;have HAc4:=Lib.hid (HA3.out.call hr2 hk2);have HBc4:=Lib.hid (HB3.out.call hr2 hk2)))
     have HA4:=Lib.hid HAc4.out
     have HB4:=Lib.hid (show Bx w X4 V p q4 B 104 #[(.string n),(.string k),(.slice none 0 0),(.bool false),(.int .i64 0)] from HBc4.out)
     clear HAc4 HBc4 HA3 HB3 hr2 hk2 HK4 
     have HK5:=Lib.hid (fun w1 h1=>must_calls V q4 6 ⟨#[58]⟩ w1 h1 (by decide))
     have hF5:V.total p=(V.must 6 ⟨#[58]⟩ q4).bnd fun _ q5=>(V.list V.name 0 16 q5).bnd fun l q6=>if V.isT 1 ⟨#[99,97,112]⟩ q6 then (V.money (q6+1)).bnd fun m q7=>.ok ⟨n,k,l,true,m⟩ q7 else .ok ⟨n,k,l,false,0⟩ q6:=HF4.out
     generalize V.must 6 ⟨#[58]⟩ q4=r5 at *
     have HF5:=Lib.hid hF5
     clear hF5 HF4
     cases r5 with
     | bad er a =>
      go_wp2_with (first | (go_at_call 41;refine (HK5.out X4 HA4.out.rd).mono ?_;rintro e w2 ⟨rfl,hk2⟩))
      refine ⟨rfl,?_⟩
      rw [HF5.out]
      exact ⟨rfl,HA4.out.keep.trans hk2 (fun _ _ h=>h)⟩
     | ok _ q5 =>
      go_upto_region 6 with (first | (go_at_call 41;refine (HK5.out X4 HA4.out.rd).mono ?_;rintro e X5 ⟨x,rfl,rfl,hr2,hk2⟩;have HAc5:=Lib.hid (HA4.out.call hr2 hk2);have HBc5:=Lib.hid (HB4.out.call hr2 hk2)))
      have HA5:=Lib.hid HAc5.out
      have HB5:=Lib.hid (show Bx w X5 V p q5 B 104 #[(.string n),(.string k),(.slice none 0 0),(.bool false),(.int .i64 0)] from HBc5.out)
      clear HAc5 HBc5 HA4 HB4 hr2 hk2 HK5 
      have HK6:=Lib.hid (fun w1 h1=>list_str_calls V V.name 56 name_enters (name_calls V) 0 16 (by decide) (by decide) q5 w1 h1)
      have hF6:V.total p=(V.list V.name 0 16 q5).bnd fun l q6=>if V.isT 1 ⟨#[99,97,112]⟩ q6 then (V.money (q6+1)).bnd fun m q7=>.ok ⟨n,k,l,true,m⟩ q7 else .ok ⟨n,k,l,false,0⟩ q6:=HF5.out
      generalize V.list V.name 0 16 q5=r6 at *
      have HF6:=Lib.hid hF6
      clear hF6 HF5
      cases r6 with
      | bad er a =>
       go_wp2_with (first | (go_at_call 57;refine (HK6.out X5 HA5.out.rd).mono ?_;rintro e w2 ⟨rfl,hk2⟩))
       refine ⟨rfl,?_⟩
       rw [HF6.out]
       exact ⟨rfl,HA5.out.keep.trans hk2 (fun _ _ h=>h)⟩
      | ok l q6 =>
       go_upto_region 7 with (first | (go_at_call 57;refine (HK6.out X5 HA5.out.rd).mono ?_;rintro e w2 ⟨x,rfl,hx,hr2,hk2⟩;have HAc6:=Lib.hid (HA5.out.call hr2 hk2);have HBc6:=Lib.hid (HB5.out.call hr2 hk2);have y2:=blk_cell (v:=(.slice none 0 0)) HBc6.out.blk 2 rfl;have f2:=blk_free HBc6.out.blk 2;obtain ⟨A6,c6,rfl⟩:=Kd.R_slice hx))
       clear y2 f2
       obtain ⟨s6,hs6⟩:∃ s,X5.heap.size=s:=⟨_,rfl⟩
       rw [hs6] at hx
       have HS6:=Lib.hid (show B<s6∧w.heap.size<s6∧V.rb<s6 by
        have h1:=World.block_lt_of_cell? _ _ (blk_cell (v:=(.string n)) HB5.out.blk 0 rfl)
        have h2:=World.block_lt_of_cell? _ _ (blk_cell (v:=(.string ⟨#[]⟩)) HA5.out.blk 0 rfl)
        have h3:=World.block_lt_of_cell? _ _ HB5.out.rd.pos
        simp only at h1 h2 h3;omega)
       clear hs6
       have HXn6:=Lib.hid (show strsR s6 l (.slice A6 l.length c6) (w2.setCell ⟨B,2,none⟩ ((.slice A6 l.length c6))) from (Kd.R_far hx (p:=⟨B,2,none⟩) (fun k hk=>by have:=HS6.out;simp only;omega) (.slice A6 l.length c6)))
       clear hx
       have HA6:=Lib.hid (HAc6.out.far HBc6.out.ge (Ne.symm HBn.out) 2 (.slice A6 l.length c6))
       have HB6:=Lib.hid (show Bx w (w2.setCell ⟨B,2,none⟩ ((.slice A6 l.length c6))) V p q6 B 104 #[(.string n),(.string k),(.slice A6 l.length c6),(.bool false),(.int .i64 0)] from (HBc6.out.set 2 (.slice A6 l.length c6)))
       clear HAc6 HBc6 HA5 HB5 hr2 hk2 HK6 
       have HX6:=HXn6
       clear HXn6
       generalize w2.setCell ⟨B,2,none⟩ ((.slice A6 l.length c6))=X6 at *
       have HK7:=Lib.hid (fun w1 h1=>skip_calls V q6 1 ⟨#[99,97,112]⟩ w1 h1 (by decide))
       have hF7:V.total p=if V.isT 1 ⟨#[99,97,112]⟩ q6 then (V.money (q6+1)).bnd fun m q7=>.ok ⟨n,k,l,true,m⟩ q7 else .ok ⟨n,k,l,false,0⟩ q6:=HF6.out
       generalize V.isT 1 ⟨#[99,97,112]⟩ q6=b7 at *
       have HFs7:=Lib.hid hF7
       clear hF7 HF6
       cases b7
       ·have HF7:=Lib.hid (show V.total p=.ok ⟨n,k,l,false,0⟩ q6 from HFs7.out)
        clear HFs7
        go_upto_region 9 with (first | (go_at_call 38;refine (HK7.out X6 HA6.out.rd).mono ?_;rintro e X7 ⟨rfl,hr2,hk2⟩))
        have HA7:=Lib.hid (HA6.out.call hr2 hk2)
        have HB7:=Lib.hid (show Bx w X7 V p q6 B 104 #[(.string n),(.string k),(.slice A6 l.length c6),(.bool false),(.int .i64 0)] from HB6.out.call hr2 hk2)
        have HXn6:=Lib.hid (strsR_keep HX6.out HS6.out.2.2 hk2)
        clear HA6 HB6 hr2 hk2 HK7 HX6
        have HX6:=HXn6
        clear HXn6
        have y0:=blk_cell (v:=(.string n)) HB7.out.blk 0 rfl
        have y1:=blk_cell (v:=(.string k)) HB7.out.blk 1 rfl
        have y2:=blk_cell (v:=(.slice A6 l.length c6)) HB7.out.blk 2 rfl
        have y3:=blk_cell (v:=(.bool false)) HB7.out.blk 3 rfl
        have y4:=blk_cell (v:=(.int .i64 0)) HB7.out.blk 4 rfl
        have z0:=blk_cell (v:=(.string ⟨#[]⟩)) HA7.out.blk 0 rfl
        have z1:=blk_cell (v:=(.string ⟨#[]⟩)) HA7.out.blk 1 rfl
        have z2:=blk_cell (v:=(.slice none 0 0)) HA7.out.blk 2 rfl
        have z3:=blk_cell (v:=(.bool false)) HA7.out.blk 3 rfl
        have z4:=blk_cell (v:=(.int .i64 0)) HA7.out.blk 4 rfl
        have g0:=blk_free HA7.out.blk 0
        have g1:=blk_free HA7.out.blk 1
        have g2:=blk_free HA7.out.blk 2
        have g3:=blk_free HA7.out.blk 3
        have g4:=blk_free HA7.out.blk 4
        go_wp2_with fail
        have hE:=(((((HA7.out.set 0 ((.string n))).set 1 ((.string k))).set 2 ((.slice A6 l.length c6))).set 3 ((.bool false))).set 4 ((.int .i64 0)))
        refine bodyPost_ret (results_cell_row rfl _ _ w.heap.size 104 #[(.string n),(.string k),(.slice A6 l.length c6),(.bool false),(.int .i64 0)] (0,0) _ rfl hE.blk Tryz.underlying104 rfl rfl) rfl ?_
        rw [HF7.out]
        have hy6:strsR s6 l (.slice A6 l.length c6) _:=(Kd.R_far (Kd.R_far (Kd.R_far (Kd.R_far (Kd.R_far HX6.out (p:=⟨w.heap.size,0,none⟩) (fun k hk=>by have:=HS6.out;simp only;omega) ((.string n))) (p:=⟨w.heap.size,1,none⟩) (fun k hk=>by have:=HS6.out;simp only;omega) ((.string k))) (p:=⟨w.heap.size,2,none⟩) (fun k hk=>by have:=HS6.out;simp only;omega) ((.slice A6 l.length c6))) (p:=⟨w.heap.size,3,none⟩) (fun k hk=>by have:=HS6.out;simp only;omega) ((.bool false))) (p:=⟨w.heap.size,4,none⟩) (fun k hk=>by have:=HS6.out;simp only;omega) ((.int .i64 0)))
        have hz6:=Kd.R_lower (Kd.R_mono hy6 (ok':=fun k=>w.heap.size≤k) (fun k hk=>by have:=HS6.out;omega)) (base':=w.heap.size) (by have:=HS6.out;omega)
        exact ⟨_,rfl,⟨_,rfl,k104_mkM _ _ _ (⟨n,k,l,false,0⟩:S104) hz6⟩,hE.rd,hE.keep⟩
       ·have HF7:=Lib.hid (show V.total p=(V.money (q6+1)).bnd fun m q7=>.ok ⟨n,k,l,true,m⟩ q7 from HFs7.out)
        clear HFs7
        go_upto_region 8 with (first | (go_at_call 38;refine (HK7.out X6 HA6.out.rd).mono ?_;rintro e X7 ⟨rfl,hr2,hk2⟩))
        have HA7:=Lib.hid (HA6.out.call hr2 hk2)
        have HB7:=Lib.hid (show Bx w X7 V p (q6+1) B 104 #[(.string n),(.string k),(.slice A6 l.length c6),(.bool false),(.int .i64 0)] from HB6.out.call hr2 hk2)
        have HXn6:=Lib.hid (strsR_keep HX6.out HS6.out.2.2 hk2)
        clear HA6 HB6 hr2 hk2 HK7 HX6
        have HX6:=HXn6
        clear HXn6
        have HK8:=Lib.hid (fun w1 h1=>money_calls V (q6+1) w1 h1)
        have hF8:V.total p=(V.money (q6+1)).bnd fun m q7=>.ok ⟨n,k,l,true,m⟩ q7:=HF7.out
        generalize V.money (q6+1)=r8 at *
        have HF8:=Lib.hid hF8
        clear hF8 HF7
        cases r8 with
        | bad er a =>
         go_wp2_with (first | (go_at_call 89;refine (HK8.out X7 HA7.out.rd).mono ?_;rintro e w2 ⟨rfl,hk2⟩))
         refine ⟨rfl,?_⟩
         rw [HF8.out]
         exact ⟨rfl,HA7.out.keep.trans hk2 (fun _ _ h=>h)⟩
        | ok m q7 =>
         go_upto_region 9 with (first | (go_at_call 89;refine (HK8.out X7 HA7.out.rd).mono ?_;rintro e w2 ⟨x,rfl,rfl,hr2,hk2⟩;have HAc8:=Lib.hid (HA7.out.call hr2 hk2);have HBc8:=Lib.hid (HB7.out.call hr2 hk2);have y3:=blk_cell (v:=(.bool false)) HBc8.out.blk 3 rfl;have f3:=blk_free HBc8.out.blk 3;have y4:=blk_cell (v:=(.int .i64 0)) HBc8.out.blk 4 rfl;have f4:=blk_free HBc8.out.blk 4))
         clear y3 f3 y4 f4
         have HXn6:=Lib.hid (show strsR s6 l (.slice A6 l.length c6) ((w2.setCell ⟨B,3,none⟩ ((.bool true))).setCell ⟨B,4,none⟩ ((.int .i64 m))) from (Kd.R_far (Kd.R_far (strsR_keep HX6.out HS6.out.2.2 hk2) (p:=⟨B,3,none⟩) (fun k hk=>by have:=HS6.out;simp only;omega) (.bool true)) (p:=⟨B,4,none⟩) (fun k hk=>by have:=HS6.out;simp only;omega) (.int .i64 m)))
         have HA8:=Lib.hid ((HAc8.out.far HBc8.out.ge (Ne.symm HBn.out) 3 (.bool true)).far HBc8.out.ge (Ne.symm HBn.out) 4 (.int .i64 m))
         have HB8:=Lib.hid (show Bx w ((w2.setCell ⟨B,3,none⟩ ((.bool true))).setCell ⟨B,4,none⟩ ((.int .i64 m))) V p q7 B 104 #[(.string n),(.string k),(.slice A6 l.length c6),(.bool true),(.int .i64 m)] from ((HBc8.out.set 3 (.bool true)).set 4 (.int .i64 m)))
         clear HAc8 HBc8 HA7 HB7 hr2 hk2 HK8 HX6
         have HX6:=HXn6
         clear HXn6
         generalize (w2.setCell ⟨B,3,none⟩ ((.bool true))).setCell ⟨B,4,none⟩ ((.int .i64 m))=X8 at *
         have y0:=blk_cell (v:=(.string n)) HB8.out.blk 0 rfl
         have y1:=blk_cell (v:=(.string k)) HB8.out.blk 1 rfl
         have y2:=blk_cell (v:=(.slice A6 l.length c6)) HB8.out.blk 2 rfl
         have y3:=blk_cell (v:=(.bool true)) HB8.out.blk 3 rfl
         have y4:=blk_cell (v:=(.int .i64 m)) HB8.out.blk 4 rfl
         have z0:=blk_cell (v:=(.string ⟨#[]⟩)) HA8.out.blk 0 rfl
         have z1:=blk_cell (v:=(.string ⟨#[]⟩)) HA8.out.blk 1 rfl
         have z2:=blk_cell (v:=(.slice none 0 0)) HA8.out.blk 2 rfl
         have z3:=blk_cell (v:=(.bool false)) HA8.out.blk 3 rfl
         have z4:=blk_cell (v:=(.int .i64 0)) HA8.out.blk 4 rfl
         have g0:=blk_free HA8.out.blk 0
         have g1:=blk_free HA8.out.blk 1
         have g2:=blk_free HA8.out.blk 2
         have g3:=blk_free HA8.out.blk 3
         have g4:=blk_free HA8.out.blk 4
         go_wp2_with fail
         have hE:=(((((HA8.out.set 0 ((.string n))).set 1 ((.string k))).set 2 ((.slice A6 l.length c6))).set 3 ((.bool true))).set 4 ((.int .i64 m)))
         refine bodyPost_ret (results_cell_row rfl _ _ w.heap.size 104 #[(.string n),(.string k),(.slice A6 l.length c6),(.bool true),(.int .i64 m)] (0,0) _ rfl hE.blk Tryz.underlying104 rfl rfl) rfl ?_
         rw [HF8.out]
         have hy6:strsR s6 l (.slice A6 l.length c6) _:=(Kd.R_far (Kd.R_far (Kd.R_far (Kd.R_far (Kd.R_far HX6.out (p:=⟨w.heap.size,0,none⟩) (fun k hk=>by have:=HS6.out;simp only;omega) ((.string n))) (p:=⟨w.heap.size,1,none⟩) (fun k hk=>by have:=HS6.out;simp only;omega) ((.string k))) (p:=⟨w.heap.size,2,none⟩) (fun k hk=>by have:=HS6.out;simp only;omega) ((.slice A6 l.length c6))) (p:=⟨w.heap.size,3,none⟩) (fun k hk=>by have:=HS6.out;simp only;omega) ((.bool true))) (p:=⟨w.heap.size,4,none⟩) (fun k hk=>by have:=HS6.out;simp only;omega) ((.int .i64 m)))
         have hz6:=Kd.R_lower (Kd.R_mono hy6 (ok':=fun k=>w.heap.size≤k) (fun k hk=>by have:=HS6.out;omega)) (base':=w.heap.size) (by have:=HS6.out;omega)
         exact ⟨_,rfl,⟨_,rfl,k104_mkM _ _ _ (⟨n,k,l,true,m⟩:S104) hz6⟩,hE.rd,hE.keep⟩
end Go.Proofs.YtcakgennlliejaaGreatDoor
namespace Go.Proofs.YtcakgennlliejaaGreatDoor
open Go.Shelf Go.RowKit Go.Lib
open Go.Proofs.YtcakgennlliejaaGreatDoorW.PrintWords
open Sx
set_option linter.unusedVariables false
set_option linter.unusedSimpArgs false
def Sx.iv (v:Value):Nat:=match v with
 | .int _ n=>n.toNat
 | _=>0
namespace Sx.Env
variable (V:Env)
def arrL (p:Nat):List ByteArray→Nat→Int
 | [],_=>0
 | s::l,i=>if V.isT 6 s p then ((i+1:Nat):Int) else arrL p l (i+1)
def arrow (p:Nat):Int:=V.arrL p [⟨#[45,62]⟩,⟨#[61,62]⟩,⟨#[126,62]⟩] 0
def opL (p:Nat):List ByteArray→Nat→Res Int
 | [],_=>V.stop 51 p
 | s::l,i=>if V.isT 6 s p then .ok ((i+1:Nat):Int) (p+1) else opL p l (i+1)
def op (p:Nat):Res Int:=V.opL p [⟨#[60]⟩,⟨#[60,61]⟩,⟨#[61,61]⟩,⟨#[60,62]⟩,⟨#[62,61]⟩,⟨#[62]⟩] 0
end Sx.Env
theorem arrow_calls (V:Env) (p:Nat) (w:World) (h:Rd w V p):Calls Tryz.prog 92 #[.pointer (some ⟨V.rb,0,none⟩)] w fun e w'=>e=.returned (.int .i64 (V.arrow p))∧Below w.heap.size w w':=by
 have HR:=Lib.hid h
 have HF:=Lib.hid (show V.arrow p=V.arrL p [⟨#[45,62]⟩,⟨#[61,62]⟩,⟨#[126,62]⟩] 0 from rfl)
 have iz:∀ w,(Instr.index 170 (.agg #[.string ⟨#[45,62]⟩,.string ⟨#[61,62]⟩,.string ⟨#[126,62]⟩]) (.int .i64 0)).run Tryz.prog w=.ok (.string ⟨#[45,62]⟩) w:=fun w=>by kernel_rfl
 have io:∀ w,(Instr.index 170 (.agg #[.string ⟨#[45,62]⟩,.string ⟨#[61,62]⟩,.string ⟨#[126,62]⟩]) (.int .i64 1)).run Tryz.prog w=.ok (.string ⟨#[61,62]⟩) w:=fun w=>by kernel_rfl
 have it:∀ w,(Instr.index 170 (.agg #[.string ⟨#[45,62]⟩,.string ⟨#[61,62]⟩,.string ⟨#[126,62]⟩]) (.int .i64 2)).run Tryz.prog w=.ok (.string ⟨#[126,62]⟩) w:=fun w=>by kernel_rfl
 clear h
 go_enter Tryz.func92,Tryz.ntmps92
 go_upto_region 2 with (fail)
 go_loopw [6] (fun v wr=>∃ i:Nat,v=.int .i64 i∧i≤3∧Below w.heap.size w wr∧V.arrow p=V.arrL p ([⟨#[45,62]⟩,⟨#[61,62]⟩,⟨#[126,62]⟩].drop i) i) (fun v _=>3-Sx.iv v)
 case atStart=>exact ⟨0,rfl,by omega,Below.refl _ _,HF.out⟩
 case round =>
  obtain ⟨i,rfl,hi,hb,hf⟩:=hrel
  have HB:=Lib.hid hb
  have:i=3∨i=0∨i=1∨i=2:=by omega
  rcases this with rfl | rfl | rfl | rfl
  ·have HG:=Lib.hid (show V.arrow p=0 from hf)
   clear hf hb
   go_wp2_with fail
   go_ret
   exact ⟨by rw [HG.out];rfl,HB.out⟩
  ·have hf2:V.arrow p=if V.isT 6 ⟨#[45,62]⟩ p then ((0+1:Nat):Int) else V.arrL p [⟨#[61,62]⟩,⟨#[126,62]⟩] (0+1):=hf
   have hm:=mark_calls V p ⟨#[45,62]⟩ wr (HR.out.below HB.out)
   clear hf hb hi
   cases hc:V.isT 6 ⟨#[45,62]⟩ p
   ·rw [hc] at hm hf2
    have HM:=Lib.hid hm
    have HG:=Lib.hid (show V.arrow p=V.arrL p [⟨#[61,62]⟩,⟨#[126,62]⟩] (0+1) from hf2)
    clear hm hf2 hc
    go_wp2_with (first | (go_at_call 109;refine HM.out.mono ?_;rintro e w2 ⟨rfl,hb2⟩))
    go_roundw
    case rel=>exact ⟨1,rfl,by omega,below_next HB.out hb2,HG.out⟩
    case measure=>decide
   ·rw [hc] at hm hf2
    have HM:=Lib.hid hm
    have HG:=Lib.hid (show V.arrow p=1 from hf2)
    clear hm hf2 hc
    go_wp2_with (first | (go_at_call 109;refine HM.out.mono ?_;rintro e w2 ⟨rfl,hb2⟩))
    go_ret
    exact ⟨by rw [HG.out];rfl,below_next HB.out hb2⟩
  ·have hf2:V.arrow p=if V.isT 6 ⟨#[61,62]⟩ p then ((1+1:Nat):Int) else V.arrL p [⟨#[126,62]⟩] (1+1):=hf
   have hm:=mark_calls V p ⟨#[61,62]⟩ wr (HR.out.below HB.out)
   clear hf hb hi
   cases hc:V.isT 6 ⟨#[61,62]⟩ p
   ·rw [hc] at hm hf2
    have HM:=Lib.hid hm
    have HG:=Lib.hid (show V.arrow p=V.arrL p [⟨#[126,62]⟩] (1+1) from hf2)
    clear hm hf2 hc
    go_wp2_with (first | (go_at_call 109;refine HM.out.mono ?_;rintro e w2 ⟨rfl,hb2⟩))
    go_roundw
    case rel=>exact ⟨2,rfl,by omega,below_next HB.out hb2,HG.out⟩
    case measure=>decide
   ·rw [hc] at hm hf2
    have HM:=Lib.hid hm
    have HG:=Lib.hid (show V.arrow p=2 from hf2)
    clear hm hf2 hc
    go_wp2_with (first | (go_at_call 109;refine HM.out.mono ?_;rintro e w2 ⟨rfl,hb2⟩))
    go_ret
    exact ⟨by rw [HG.out];rfl,below_next HB.out hb2⟩
  ·have hf2:V.arrow p=if V.isT 6 ⟨#[126,62]⟩ p then ((2+1:Nat):Int) else V.arrL p [] (2+1):=hf
   have hm:=mark_calls V p ⟨#[126,62]⟩ wr (HR.out.below HB.out)
   clear hf hb hi
   cases hc:V.isT 6 ⟨#[126,62]⟩ p
   ·rw [hc] at hm hf2
    have HM:=Lib.hid hm
    have HG:=Lib.hid (show V.arrow p=V.arrL p [] (2+1) from hf2)
    clear hm hf2 hc
    go_wp2_with (first | (go_at_call 109;refine HM.out.mono ?_;rintro e w2 ⟨rfl,hb2⟩))
    go_roundw
    case rel=>exact ⟨3,rfl,by omega,below_next HB.out hb2,HG.out⟩
    case measure=>decide
   ·rw [hc] at hm hf2
    have HM:=Lib.hid hm
    have HG:=Lib.hid (show V.arrow p=3 from hf2)
    clear hm hf2 hc
    go_wp2_with (first | (go_at_call 109;refine HM.out.mono ?_;rintro e w2 ⟨rfl,hb2⟩))
    go_ret
    exact ⟨by rw [HG.out];rfl,below_next HB.out hb2⟩
theorem op_calls (V:Env) (p:Nat) (w:World) (h:Rd w V p):Calls Tryz.prog 111 #[.pointer (some ⟨V.rb,0,none⟩)] w (Post V w intR (V.op p)):=by
 have HR:=Lib.hid h
 obtain ⟨F,hF⟩:∃ F,V.op p=F:=⟨_,rfl⟩
 rw [hF]
 have HF:=Lib.hid (show F=V.opL p [⟨#[60]⟩,⟨#[60,61]⟩,⟨#[61,61]⟩,⟨#[60,62]⟩,⟨#[62,61]⟩,⟨#[62]⟩] 0 from hF.symm)
 have i0:∀ w,(Instr.index 191 (.agg #[.string ⟨#[60]⟩,.string ⟨#[60,61]⟩,.string ⟨#[61,61]⟩,.string ⟨#[60,62]⟩,.string ⟨#[62,61]⟩,.string ⟨#[62]⟩]) (.int .i64 0)).run Tryz.prog w=.ok (.string ⟨#[60]⟩) w:=fun w=>by kernel_rfl
 have i1:∀ w,(Instr.index 191 (.agg #[.string ⟨#[60]⟩,.string ⟨#[60,61]⟩,.string ⟨#[61,61]⟩,.string ⟨#[60,62]⟩,.string ⟨#[62,61]⟩,.string ⟨#[62]⟩]) (.int .i64 1)).run Tryz.prog w=.ok (.string ⟨#[60,61]⟩) w:=fun w=>by kernel_rfl
 have i2:∀ w,(Instr.index 191 (.agg #[.string ⟨#[60]⟩,.string ⟨#[60,61]⟩,.string ⟨#[61,61]⟩,.string ⟨#[60,62]⟩,.string ⟨#[62,61]⟩,.string ⟨#[62]⟩]) (.int .i64 2)).run Tryz.prog w=.ok (.string ⟨#[61,61]⟩) w:=fun w=>by kernel_rfl
 have i3:∀ w,(Instr.index 191 (.agg #[.string ⟨#[60]⟩,.string ⟨#[60,61]⟩,.string ⟨#[61,61]⟩,.string ⟨#[60,62]⟩,.string ⟨#[62,61]⟩,.string ⟨#[62]⟩]) (.int .i64 3)).run Tryz.prog w=.ok (.string ⟨#[60,62]⟩) w:=fun w=>by kernel_rfl
 have i4:∀ w,(Instr.index 191 (.agg #[.string ⟨#[60]⟩,.string ⟨#[60,61]⟩,.string ⟨#[61,61]⟩,.string ⟨#[60,62]⟩,.string ⟨#[62,61]⟩,.string ⟨#[62]⟩]) (.int .i64 4)).run Tryz.prog w=.ok (.string ⟨#[62,61]⟩) w:=fun w=>by kernel_rfl
 have i5:∀ w,(Instr.index 191 (.agg #[.string ⟨#[60]⟩,.string ⟨#[60,61]⟩,.string ⟨#[61,61]⟩,.string ⟨#[60,62]⟩,.string ⟨#[62,61]⟩,.string ⟨#[62]⟩]) (.int .i64 5)).run Tryz.prog w=.ok (.string ⟨#[62]⟩) w:=fun w=>by kernel_rfl
 clear h hF
 go_enter Tryz.func111,Tryz.ntmps111
 go_upto_region 2 with (fail)
 go_loopw [6] (fun v wr=>∃ i:Nat,v=.int .i64 i∧i≤6∧(Rd wr V p∧Keep (ours V) w wr)∧F=V.opL p ([⟨#[60]⟩,⟨#[60,61]⟩,⟨#[61,61]⟩,⟨#[60,62]⟩,⟨#[62,61]⟩,⟨#[62]⟩].drop i) i) (fun v _=>6-Sx.iv v)
 case atStart=>exact ⟨0,rfl,by omega,⟨HR.out,Keep.refl _ _⟩,HF.out⟩
 case round =>
  obtain ⟨i,rfl,hi,hb,hf⟩:=hrel
  have HB:=Lib.hid hb
  have:i=6∨i=0∨i=1∨i=2∨i=3∨i=4∨i=5:=by omega
  rcases this with rfl | rfl | rfl | rfl | rfl | rfl | rfl
  ·have HG:=Lib.hid (show F=V.stop 51 p from hf)
   have HC:=Lib.hid (stop_calls V p 51 wr HB.out.1)
   clear hf hb
   go_wp2_with (first | (go_at_call 40;refine HC.out.mono ?_;rintro e w2 ⟨rfl,hb2⟩))
   refine ⟨rfl,?_⟩
   rw [HG.out]
   exact ⟨rfl,HB.out.2.below hb2⟩
  ·have hf2:F=if V.isT 6 ⟨#[60]⟩ p then .ok ((0+1:Nat):Int) (p+1) else V.opL p [⟨#[60,61]⟩,⟨#[61,61]⟩,⟨#[60,62]⟩,⟨#[62,61]⟩,⟨#[62]⟩] (0+1):=hf
   have hm:=skip_calls V p 6 ⟨#[60]⟩ wr HB.out.1 (by decide)
   clear hf hb hi
   cases hc:V.isT 6 ⟨#[60]⟩ p
   ·rw [hc] at hm hf2
    have HM:=Lib.hid hm
    have HG:=Lib.hid (show F=V.opL p [⟨#[60,61]⟩,⟨#[61,61]⟩,⟨#[60,62]⟩,⟨#[62,61]⟩,⟨#[62]⟩] (0+1) from hf2)
    clear hm hf2 hc
    go_wp2_with (first | (go_at_call 38;refine HM.out.mono ?_;rintro e w2 ⟨rfl,hr2,hk2⟩))
    go_roundw
    case rel=>exact ⟨1,rfl,by omega,⟨hr2,HB.out.2.trans hk2 (fun _ _ h=>h)⟩,HG.out⟩
    case measure=>decide
   ·rw [hc] at hm hf2
    have HM:=Lib.hid hm
    have HG:=Lib.hid (show F=.ok 1 (p+1) from hf2)
    clear hm hf2 hc
    go_wp2_with (first | (go_at_call 38;refine HM.out.mono ?_;rintro e w2 ⟨rfl,hr2,hk2⟩))
    go_ret
    rw [HG.out]
    exact ⟨_,rfl,rfl,hr2,HB.out.2.trans hk2 (fun _ _ h=>h)⟩
  ·have hf2:F=if V.isT 6 ⟨#[60,61]⟩ p then .ok ((1+1:Nat):Int) (p+1) else V.opL p [⟨#[61,61]⟩,⟨#[60,62]⟩,⟨#[62,61]⟩,⟨#[62]⟩] (1+1):=hf
   have hm:=skip_calls V p 6 ⟨#[60,61]⟩ wr HB.out.1 (by decide)
   clear hf hb hi
   cases hc:V.isT 6 ⟨#[60,61]⟩ p
   ·rw [hc] at hm hf2
    have HM:=Lib.hid hm
    have HG:=Lib.hid (show F=V.opL p [⟨#[61,61]⟩,⟨#[60,62]⟩,⟨#[62,61]⟩,⟨#[62]⟩] (1+1) from hf2)
    clear hm hf2 hc
    go_wp2_with (first | (go_at_call 38;refine HM.out.mono ?_;rintro e w2 ⟨rfl,hr2,hk2⟩))
    go_roundw
    case rel=>exact ⟨2,rfl,by omega,⟨hr2,HB.out.2.trans hk2 (fun _ _ h=>h)⟩,HG.out⟩
    case measure=>decide
   ·rw [hc] at hm hf2
    have HM:=Lib.hid hm
    have HG:=Lib.hid (show F=.ok 2 (p+1) from hf2)
    clear hm hf2 hc
    go_wp2_with (first | (go_at_call 38;refine HM.out.mono ?_;rintro e w2 ⟨rfl,hr2,hk2⟩))
    go_ret
    rw [HG.out]
    exact ⟨_,rfl,rfl,hr2,HB.out.2.trans hk2 (fun _ _ h=>h)⟩
  ·have hf2:F=if V.isT 6 ⟨#[61,61]⟩ p then .ok ((2+1:Nat):Int) (p+1) else V.opL p [⟨#[60,62]⟩,⟨#[62,61]⟩,⟨#[62]⟩] (2+1):=hf
   have hm:=skip_calls V p 6 ⟨#[61,61]⟩ wr HB.out.1 (by decide)
   clear hf hb hi
   cases hc:V.isT 6 ⟨#[61,61]⟩ p
   ·rw [hc] at hm hf2
    have HM:=Lib.hid hm
    have HG:=Lib.hid (show F=V.opL p [⟨#[60,62]⟩,⟨#[62,61]⟩,⟨#[62]⟩] (2+1) from hf2)
    clear hm hf2 hc
    go_wp2_with (first | (go_at_call 38;refine HM.out.mono ?_;rintro e w2 ⟨rfl,hr2,hk2⟩))
    go_roundw
    case rel=>exact ⟨3,rfl,by omega,⟨hr2,HB.out.2.trans hk2 (fun _ _ h=>h)⟩,HG.out⟩
    case measure=>decide
   ·rw [hc] at hm hf2
    have HM:=Lib.hid hm
    have HG:=Lib.hid (show F=.ok 3 (p+1) from hf2)
    clear hm hf2 hc
    go_wp2_with (first | (go_at_call 38;refine HM.out.mono ?_;rintro e w2 ⟨rfl,hr2,hk2⟩))
    go_ret
    rw [HG.out]
    exact ⟨_,rfl,rfl,hr2,HB.out.2.trans hk2 (fun _ _ h=>h)⟩
  ·have hf2:F=if V.isT 6 ⟨#[60,62]⟩ p then .ok ((3+1:Nat):Int) (p+1) else V.opL p [⟨#[62,61]⟩,⟨#[62]⟩] (3+1):=hf
   have hm:=skip_calls V p 6 ⟨#[60,62]⟩ wr HB.out.1 (by decide)
   clear hf hb hi
   cases hc:V.isT 6 ⟨#[60,62]⟩ p
   ·rw [hc] at hm hf2
    have HM:=Lib.hid hm
    have HG:=Lib.hid (show F=V.opL p [⟨#[62,61]⟩,⟨#[62]⟩] (3+1) from hf2)
    clear hm hf2 hc
    go_wp2_with (first | (go_at_call 38;refine HM.out.mono ?_;rintro e w2 ⟨rfl,hr2,hk2⟩))
    go_roundw
    case rel=>exact ⟨4,rfl,by omega,⟨hr2,HB.out.2.trans hk2 (fun _ _ h=>h)⟩,HG.out⟩
    case measure=>decide
   ·rw [hc] at hm hf2
    have HM:=Lib.hid hm
    have HG:=Lib.hid (show F=.ok 4 (p+1) from hf2)
    clear hm hf2 hc
    go_wp2_with (first | (go_at_call 38;refine HM.out.mono ?_;rintro e w2 ⟨rfl,hr2,hk2⟩))
    go_ret
    rw [HG.out]
    exact ⟨_,rfl,rfl,hr2,HB.out.2.trans hk2 (fun _ _ h=>h)⟩
  ·have hf2:F=if V.isT 6 ⟨#[62,61]⟩ p then .ok ((4+1:Nat):Int) (p+1) else V.opL p [⟨#[62]⟩] (4+1):=hf
   have hm:=skip_calls V p 6 ⟨#[62,61]⟩ wr HB.out.1 (by decide)
   clear hf hb hi
   cases hc:V.isT 6 ⟨#[62,61]⟩ p
   ·rw [hc] at hm hf2
    have HM:=Lib.hid hm
    have HG:=Lib.hid (show F=V.opL p [⟨#[62]⟩] (4+1) from hf2)
    clear hm hf2 hc
    go_wp2_with (first | (go_at_call 38;refine HM.out.mono ?_;rintro e w2 ⟨rfl,hr2,hk2⟩))
    go_roundw
    case rel=>exact ⟨5,rfl,by omega,⟨hr2,HB.out.2.trans hk2 (fun _ _ h=>h)⟩,HG.out⟩
    case measure=>decide
   ·rw [hc] at hm hf2
    have HM:=Lib.hid hm
    have HG:=Lib.hid (show F=.ok 5 (p+1) from hf2)
    clear hm hf2 hc
    go_wp2_with (first | (go_at_call 38;refine HM.out.mono ?_;rintro e w2 ⟨rfl,hr2,hk2⟩))
    go_ret
    rw [HG.out]
    exact ⟨_,rfl,rfl,hr2,HB.out.2.trans hk2 (fun _ _ h=>h)⟩
  ·have hf2:F=if V.isT 6 ⟨#[62]⟩ p then .ok ((5+1:Nat):Int) (p+1) else V.opL p [] (5+1):=hf
   have hm:=skip_calls V p 6 ⟨#[62]⟩ wr HB.out.1 (by decide)
   clear hf hb hi
   cases hc:V.isT 6 ⟨#[62]⟩ p
   ·rw [hc] at hm hf2
    have HM:=Lib.hid hm
    have HG:=Lib.hid (show F=V.opL p [] (5+1) from hf2)
    clear hm hf2 hc
    go_wp2_with (first | (go_at_call 38;refine HM.out.mono ?_;rintro e w2 ⟨rfl,hr2,hk2⟩))
    go_roundw
    case rel=>exact ⟨6,rfl,by omega,⟨hr2,HB.out.2.trans hk2 (fun _ _ h=>h)⟩,HG.out⟩
    case measure=>decide
   ·rw [hc] at hm hf2
    have HM:=Lib.hid hm
    have HG:=Lib.hid (show F=.ok 6 (p+1) from hf2)
    clear hm hf2 hc
    go_wp2_with (first | (go_at_call 38;refine HM.out.mono ?_;rintro e w2 ⟨rfl,hr2,hk2⟩))
    go_ret
    rw [HG.out]
    exact ⟨_,rfl,rfl,hr2,HB.out.2.trans hk2 (fun _ _ h=>h)⟩
open Go.Proofs.YtcakgennlliejaaGreatDoor.PSyntaxJoined
theorem info_p:(Tryz.prog.info? 100).map (fun i=>(i.zero,i.size,i.bytes))=some (some (.agg #[.int .i64 0,.bool false,.string ⟨#[]⟩,.slice none 0 0,.bool false,.int .i64 0,.slice none 0 0,.int .i64 0,.slice none 0 0,.string ⟨#[]⟩,.string ⟨#[]⟩]),11,160):=by kernel_rfl
def Sx.premsR (base:Nat) (l:List S100) (x:Value) (w:World):Prop:=Kd.R k100 100 w base (fun k=>base≤k) x l
theorem Sx.premsR_keep {V:Env} {base:Nat} {l:List S100} {x:Value} {w w1:World} (h:premsR base l x w) (hb:V.rb<base) (k:Keep (ours V) w w1):premsR base l x w1 :=
 Kd.R_step h (fun i hi hlt=>k.block i hlt (fun e=>by unfold ours at e;omega))
theorem list_prem_calls (V:Env) (g:Nat→Res S100) (K:FuncId)
  (eK:∀ args w,(callFunc K args).run Tryz.prog w=.ok (.enter K args) w)
  (hK:∀ p w,Rd w V p→Calls Tryz.prog K #[.pointer (some ⟨V.rb,0,none⟩)] w (Post V w (aggR k100 w.heap.size) (g p)))
  (n most:Int) (hn:0≤n∧n≤1000000) (hm:most≤1000000) (p:Nat) (w:World) (h:Rd w V p) :
  Calls Tryz.prog 93 #[.pointer (some ⟨V.rb,0,none⟩),.int .i64 n,.int .i64 most,.func (.func K) #[.pointer (some ⟨V.rb,0,none⟩)] #[]] w (Post V w (premsR w.heap.size) (V.list g n most p)):=by
 have HG:=Lib.hid hK
 obtain ⟨m,hmm⟩:∃ m,(most-n).toNat=m:=⟨_,rfl⟩
 have HM:=Lib.hid hmm
 have HN:=Lib.hid hn
 have HO:=Lib.hid hm
 have HB:=Lib.hid (show V.rb<w.heap.size from World.block_lt_of_cell? w _ h.pos)
 have hF:V.list g n most p=V.listM g m [] p:=by unfold Env.list;rw [hmm]
 obtain ⟨F,hFF⟩:∃ F,V.list g n most p=F:=⟨_,rfl⟩
 rw [hFF] at hF ⊢
 have HF:=Lib.hid hF
 have HR:=Lib.hid h
 clear hFF hF h hmm hn hm hK
 go_enter Tryz.func93,Tryz.ntmps93
 go_upto_region 2 with (fail)
 go_loopw [9] (fun v wr=>∃ (out:List S100) (q:Nat),premsR w.heap.size out v wr∧Rd wr V q∧Keep (ours V) w wr∧out.length≤m∧F=V.listM g (m-out.length) out q) (fun v _=>m-lenOf v)
 case atStart=>exact ⟨[],p,Kd.R_nil _ _ _ _ _,HR.out,Keep.refl _ _,Nat.zero_le _,HF.out⟩
 case round =>
  obtain ⟨out,q,hs,hr,hk,hl,hf⟩:=hrel
  obtain ⟨A,c,rfl⟩:=Kd.R_slice hs
  have HS:=Lib.hid hs
  have HK:=Lib.hid hk
  have HQ:=Lib.hid hr
  have wz:IntKind.i64.wrap (n+(out.length:Int))=n+(out.length:Int):=by
   have h1:=HN.out;have h2:=HO.out;have h3:=HM.out
   exact IntWalk.i64_in _ (by omega)
  by_cases hfull:m≤out.length
  ·have hF2:=Lib.hid (show F=V.stop 3 q by rw [hf,show m-out.length=0 from by omega];rfl)
   have hle:most≤n+(out.length:Int):=by have h3:=HM.out;omega
   have HC:=Lib.hid (room_bad V q (n+(out.length:Int)) most wr hr hle)
   clear hs hr hk hf hl hfull hle
   go_wp2_with (first | (go_at_call 55;refine HC.out.mono ?_;rintro e w2 ⟨rfl,hb⟩))
   refine ⟨rfl,?_⟩
   rw [hF2.out]
   exact ⟨rfl,HK.out.trans hb (fun _ _ h=>h)⟩
  ·obtain ⟨j,hj⟩:∃ j,m-out.length=j+1:=⟨m-out.length-1,by omega⟩
   have hf2:F=(g q).bnd fun v q=>if V.isT 6 ⟨#[44]⟩ q then V.listM g j (out++[v]) (q+1) else .ok (out++[v]) q:=by rw [hf,hj];rfl
   have hle:n+(out.length:Int)<most:=by have h3:=HM.out;omega
   have HC:=Lib.hid (room_ok V q (n+(out.length:Int)) most wr hle)
   have HCg:=Lib.hid (HG.out q wr hr)
   have HJ:=Lib.hid hj
   clear hs hr hk hf hl hfull hle hj
   cases hg:g q with
   | bad er a =>
    rw [hg] at HCg hf2
    have HF2:=Lib.hid (show F=.bad er a from hf2)
    clear hf2 hg
    go_wp2_with (first | (go_at_call 55;refine HC.out.mono ?_;rintro e w2 ⟨rfl,rfl⟩) | ((with_reducible refine HCg.out.mono ?_);rintro e w2 ⟨rfl,hb⟩))
    refine ⟨rfl,?_⟩
    rw [HF2.out]
    exact ⟨rfl,HK.out.trans hb (fun _ _ h=>h)⟩
   | ok v q2 =>
    rw [hg] at HCg hf2
    have HF2:=Lib.hid (show F=if V.isT 6 ⟨#[44]⟩ q2 then V.listM g j (out++[v]) (q2+1) else .ok (out++[v]) q2 from hf2)
    clear hf2 hg
    go_upto_region 4 with (first | (go_at_call 55;refine HC.out.mono ?_;rintro e w2 ⟨rfl,rfl⟩) | ((with_reducible refine HCg.out.mono ?_);rintro e w2 ⟨x,rfl,⟨cs,rfl,hM⟩,hr2,hk2⟩;obtain ⟨v3,v6,v8,rfl,g3,g6,g8⟩:=k100_openM hM;have HM2:=Lib.hid hM;clear hM;have HS2:=Lib.hid (premsR_keep HS.out HB.out hk2)) | (at_builtin;refine Kd.R_append k100 (w0:=w2) w.heap.size rfl (.tmp 17) (.tmp 20) 88 100 (.agg #[.int .i64 0,.bool false,.string ⟨#[]⟩,.slice none 0 0,.bool false,.int .i64 0,.slice none 0 0,.int .i64 0,.slice none 0 0,.string ⟨#[]⟩,.string ⟨#[]⟩]) 160 rfl Tryz.underlying88 info_p rfl (by decide) (by omega) (.slice A out.length c) out v [.int .i64 v.f0,.bool v.f1.f0,.string v.f1.f1,v3,.bool v.f1.f3,.int .i64 v.f1.f4,v6,.int .i64 v.f2.f1,v8,.string v.f3,.string v.f4] (fun k=>w.heap.size≤k) (fun k=>wr.heap.size≤k) rfl rfl (k100.M_lower HK.out.size HM2.out) (fun k hk=>⟨Nat.le_trans HK.out.size hk,fun e=>by have h1:=Kd.R_lt HS.out k e.symm;omega⟩) (fun k hk=>Nat.le_trans (Nat.le_trans HK.out.size hk2.size) hk) HS2.out (Below.mono (Below.refl _ _) (Nat.le_trans HK.out.size hk2.size)) (Nat.le_trans HK.out.size hk2.size) (by have h1:=HJ.out;have h2:=HM.out;have h3:=HO.out;have h4:=HN.out;omega) ?_))
    intro v3 w3 hs3 hb3 hg3 hat3
    have HQ3:=Lib.hid (rd_over HR.out hr2 hb3)
    have HK3:=Lib.hid (keep_over (HK.out.trans hk2 (fun _ _ h=>h)) hb3)
    have HS3:=Lib.hid hs3
    have HC2:=Lib.hid (skip_calls V q2 6 ⟨#[44]⟩ w3 HQ3.out (by decide))
    clear hr2 hk2 hs3 hb3 hg3 hat3
    cases ht:V.isT 6 ⟨#[44]⟩ q2
    ·rw [ht] at HC2 HF2
     go_wp2_with (first | (go_at_call 38;refine HC2.out.mono ?_;rintro e w4 ⟨rfl,hr4,hk4⟩))
     go_ret
     rw [HF2.out]
     exact ⟨_,rfl,premsR_keep HS3.out HB.out hk4,hr4,HK3.out.trans hk4 (fun _ _ h=>h)⟩
    ·rw [ht] at HC2 HF2
     go_wp2_with (first | (go_at_call 38;refine HC2.out.mono ?_;rintro e w4 ⟨rfl,hr4,hk4⟩))
     obtain ⟨A3,c3,rfl⟩:=Kd.R_slice HS3.out
     go_roundw
     case rel=>exact ⟨out++[v],q2+1,premsR_keep HS3.out HB.out hk4,hr4,HK3.out.trans hk4 (fun _ _ h=>h),by have:=HJ.out;simp;omega,by rw [HF2.out,show m-(out++[v]).length=j by have:=HJ.out;simp;omega];rfl⟩
     case measure=>have:=HJ.out;simp [lenOf];omega
end Go.Proofs.YtcakgennlliejaaGreatDoor
