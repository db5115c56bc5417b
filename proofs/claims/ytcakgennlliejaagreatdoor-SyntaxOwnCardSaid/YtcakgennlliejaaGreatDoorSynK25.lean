import Derived.Deep.RegionHeldLaw
import Derived.Test.YtcakgennlliejaaGreatDoorSynK24
set_option maxHeartbeats 8000000
set_option maxRecDepth 100000
namespace Go.Proofs.YtcakgennlliejaaGreatDoor
open Go.Shelf Go.RowKit Go.Lib
open Go.Proofs.YtcakgennlliejaaGreatDoorW.PrintWords
open Go.Proofs.YtcakgennlliejaaGreatDoor.PSyntaxJoined
open Sx Sx.Mk
set_option linter.unusedVariables false
set_option linter.unusedSimpArgs false
theorem omark_calls (base : Nat) (s : Stt) (x : Value) (w : World) (h : sttR base s x w) (hs : smStt s) (hbs : base ≤ w.heap.size) :
  Calls Tryz.prog 16 #[x] w fun e w' => e = .returned (.tuple #[]) ∧ Below base w w' := by
 obtain ⟨v1,v2,v3,v4,v5,v6,v7,v8,rfl,hst⟩ := St.of (w1 := w) (b := 0) h hs
 obtain ⟨X,hX⟩ : ∃ X,w.alloc (.cells #[.string s.title,v1,v2,v3,v4,v5,v6,v7,v8] 32) = X := ⟨_,rfl⟩
 obtain ⟨b,hb⟩ : ∃ b,w.heap.size = b := ⟨_,rfl⟩
 have hbx : Below base w X := by rw [← hX];exact ((Below.refl _ w).alloc hbs _)
 rw [hX,hb] at hst
 obtain ⟨A1,n1,c1,rfl,hn1⟩ := Row.open_ hst.r1
 obtain ⟨A2,n2,c2,rfl,hn2⟩ := Row.open_ hst.r2
 obtain ⟨A3,n3,c3,rfl,hn3⟩ := Row.open_ hst.r3
 obtain ⟨A4,n4,c4,rfl,hn4⟩ := Row.open_ hst.r4
 obtain ⟨A6,n6,c6,rfl,hn6⟩ := Row.open_ hst.r6
 obtain ⟨A8,n8,c8,rfl,hn8⟩ := Row.open_ hst.r8
 obtain ⟨P,hP⟩ : ∃ P : World → Prop,P = fun wr => St base b s.title (.slice A1 n1 c1) (.slice A2 n2 c2) (.slice A3 n3 c3) (.slice A4 n4 c4) v5 (.slice A6 n6 c6) v7 (.slice A8 n8 c8) wr ∧ Below base w wr := ⟨_,rfl⟩
 have HO := Lib.hid (show ∀ wr,P wr → St base b s.title (.slice A1 n1 c1) (.slice A2 n2 c2) (.slice A3 n3 c3) (.slice A4 n4 c4) v5 (.slice A6 n6 c6) v7 (.slice A8 n8 c8) wr by rw [hP];exact fun _ h => h.1)
 have HQ := Lib.hid (show ∀ wr,P wr → Below base w wr by rw [hP];exact fun _ h => h.2)
 have HC := Lib.hid (show Cl [32] base P by rw [hP];exact (Cl.st (by decide)).and (Cl.below w))
 have HCB := Lib.hid (show Cb P by rw [hP];exact Cb.st.and (Cb.below w hbs))
 have HST := Lib.hid (show P X by rw [hP];exact ⟨hst,hbx⟩)
 have HN := Lib.hid (show n1 ≤ 4294967296 ∧ n2 ≤ 4294967296 ∧ n3 ≤ 4294967296 ∧ n4 ≤ 4294967296 ∧ n6 ≤ 4294967296 ∧ n8 ≤ 4294967296 from ⟨hn1,hn2,hn3,hn4,hn6,hn8⟩)
 have HBN := Lib.hid hb
 clear hst h hs hbs hn1 hn2 hn3 hn4 hn6 hn8 hb hP hbx
 go_enter Tryz.func16,Tryz.ntmps16
 go_upto_region 1 with fail
 try rw [hX]
 try rw [HBN.out]
 clear hX
 go_wp2_with fail
 go_loopw [2] (fun u2 wr => ∃ i : Nat,u2 = .int .i64 i ∧ i ≤ n1 ∧ P wr) (fun u2 _ => n1 - (RowKit.intOf u2).toNat)
 case atStart => exact ⟨0,rfl,Nat.zero_le _,HST.out⟩
 case round =>
  obtain ⟨i,rfl,hii,hpi⟩ := hrel
  have HPi := Lib.hid hpi
  have y1 := blk_cell (v := .slice A1 n1 c1) (HO.out _ hpi).bx 1 rfl
  by_cases hlti : i < n1
  ·have HLTi := Lib.hid hlti
   obtain ⟨ai,gi,csi,hAi,hai,hgi,hhi,hzi,hoi,_⟩ := Row.at_ (HO.out _ hpi).r1 hlti
   have hxi : ai.add i = ⟨gi,i,none⟩ := by rw [hai];exact add0 _ _
   rw [hAi] at y1
   obtain ⟨u0i,q0i⟩ := ex_cell hzi (show i < (i + 1) * 1 by omega)
   have c0i : wr.cell? ⟨gi,i,none⟩ = some (u0i) := blk_cell hhi _ q0i
   have f0i : wr.frozen? ⟨gi,i,none⟩ = false := blk_free hhi _
   have HWi := Lib.hid (⟨hpi,hgi,by decide,_,hhi⟩ : Wr P [32] base gi 9 wr)
   have x0i : (0 : Int) ≤ (i : Int) := by omega
   have x1i : (i : Int) < (n1 : Int) := by omega
   have x5i : (i : Int) ≤ 4294967296 := by have := HN.out.1;omega
   have x2i : decide ((i : Int) < (n1 : Int)) = true := decide_eq_true x1i
   have x3i : decide (i < n1) = true := decide_eq_true hlti
   clear hhi hgi hlti hii hpi hzi hAi hai q0i
   go_wp2_with fail
   go_roundw
   case rel => exact ⟨i + 1,rfl,HLTi.out,(HWi.out.st HC.out _ i _ rfl rfl (fun h => by first | rfl | (unfold Mk.hits at h;omega))).p⟩
   case measure => (show n1 - (i + 1 : Int).toNat < n1 - (i : Int).toNat;have := HLTi.out;omega)
  ·have x2i : decide ((i : Int) < (n1 : Int)) = false := decide_eq_false (by omega)
   have x3i : decide (i < n1) = false := decide_eq_false hlti
   clear hlti hii hpi
   go_wp2_with fail
   obtain ⟨wo,rfl⟩ : ∃ wo : World,wo = wr := ⟨_,rfl⟩
   go_loopw [3] (fun u3 wr => ∃ j : Nat,u3 = .int .i64 j ∧ j ≤ n2 ∧ P wr) (fun u3 _ => n2 - (RowKit.intOf u3).toNat)
   case atStart => exact ⟨0,rfl,Nat.zero_le _,HPi.out⟩
   case round =>
    obtain ⟨j,rfl,hij,hpj⟩ := hrel
    have HPj := Lib.hid hpj
    have y2 := blk_cell (v := .slice A2 n2 c2) (HO.out _ hpj).bx 2 rfl
    by_cases hltj : j < n2
    ·have HLTj := Lib.hid hltj
     obtain ⟨aj,gj,csj,hAj,haj,hgj,hhj,hzj,hoj,_⟩ := Row.at_ (HO.out _ hpj).r2 hltj
     have hxj : aj.add (j * 2) = ⟨gj,j * 2,none⟩ := by rw [haj];exact add0 _ _
     rw [hAj] at y2
     obtain ⟨u0j,q0j⟩ := ex_cell hzj (show j * 2 + 0 < (j + 1) * 2 by omega)
     rw [Nat.add_zero] at q0j
     obtain ⟨u1j,q1j⟩ := ex_cell hzj (show j * 2 + 1 < (j + 1) * 2 by omega)
     have c0j : wr.cell? ⟨gj,j * 2,none⟩ = some (u0j) := blk_cell hhj _ q0j
     have f0j : wr.frozen? ⟨gj,j * 2,none⟩ = false := blk_free hhj _
     have c1j : wr.cell? ⟨gj,j * 2 + 1,none⟩ = some (u1j) := blk_cell hhj _ q1j
     have f1j : wr.frozen? ⟨gj,j * 2 + 1,none⟩ = false := blk_free hhj _
     have HWj := Lib.hid (⟨hpj,hgj,by decide,_,hhj⟩ : Wr P [32] base gj 54 wr)
     have x0j : (0 : Int) ≤ (j : Int) := by omega
     have x1j : (j : Int) < (n2 : Int) := by omega
     have x5j : (j : Int) ≤ 4294967296 := by have := HN.out.2.1;omega
     have x2j : decide ((j : Int) < (n2 : Int)) = true := decide_eq_true x1j
     have x3j : decide (j < n2) = true := decide_eq_true hltj
     clear hhj hgj hltj hij hpj hzj hAj haj q0j q1j
     go_wp2_with fail
     go_roundw
     case rel => exact ⟨j + 1,rfl,HLTj.out,((HWj.out.st HC.out _ (j * 2) _ rfl rfl (fun h => by first | rfl | (unfold Mk.hits at h;omega))).st HC.out _ (j * 2 + 1) _ rfl rfl (fun h => by first | rfl | (unfold Mk.hits at h;omega))).p⟩
     case measure => (show n2 - (j + 1 : Int).toNat < n2 - (j : Int).toNat;have := HLTj.out;omega)
    ·have x2j : decide ((j : Int) < (n2 : Int)) = false := decide_eq_false (by omega)
     have x3j : decide (j < n2) = false := decide_eq_false hltj
     clear hltj hij hpj
     go_wp2_with fail
     obtain ⟨wo,rfl⟩ : ∃ wo : World,wo = wr := ⟨_,rfl⟩
     go_loopw [4] (fun u4 wr => ∃ k : Nat,u4 = .int .i64 k ∧ k ≤ n3 ∧ P wr) (fun u4 _ => n3 - (RowKit.intOf u4).toNat)
     case atStart => exact ⟨0,rfl,Nat.zero_le _,HPj.out⟩
     case round =>
      obtain ⟨k,rfl,hik,hpk⟩ := hrel
      have HPk := Lib.hid hpk
      have y3 := blk_cell (v := .slice A3 n3 c3) (HO.out _ hpk).bx 3 rfl
      by_cases hltk : k < n3
      ·have HLTk := Lib.hid hltk
       obtain ⟨ak,gk,csk,hAk,hak,hgk,hhk,hzk,hok,hSk⟩ := Row.at_ (HO.out _ hpk).r3 hltk
       have hxk : ak.add (k * 4) = ⟨gk,k * 4,none⟩ := by rw [hak];exact add0 _ _
       have HAk := Lib.hid hAk
       have HZk := Lib.hid (show base ≤ gk ∧ (k + 1) * 4 ≤ csk.size from ⟨hgk,hzk⟩)
       obtain ⟨s2k,e2k,k2k⟩ := hSk (2,R1 base 9 1) (by simp)
       obtain ⟨B2k,m2k,d2k,rfl,hm2k⟩ := Row.open_ k2k
       have HE2k := Lib.hid e2k
       have HM2k := Lib.hid hm2k
       obtain ⟨s3k,e3k,k3k⟩ := hSk (3,R1 base 86 1) (by simp)
       obtain ⟨B3k,m3k,d3k,rfl,hm3k⟩ := Row.open_ k3k
       have HE3k := Lib.hid e3k
       have HM3k := Lib.hid hm3k
       obtain ⟨Pk,hPk⟩ : ∃ Q : World → Prop,Q = fun wr => P wr ∧ wr.heap[gk]? = some (.cells csk 85 (0,0)) ∧ R1 base 9 1 wr (.slice B2k m2k d2k) ∧ R1 base 86 1 wr (.slice B3k m3k d3k) := ⟨_,rfl⟩
       have HOk := Lib.hid (show ∀ wr,Pk wr → P wr ∧ wr.heap[gk]? = some (.cells csk 85 (0,0)) ∧ R1 base 9 1 wr (.slice B2k m2k d2k) ∧ R1 base 86 1 wr (.slice B3k m3k d3k) by rw [hPk];exact fun _ h => h)
       have HCk := Lib.hid (show Cl [32,85] base Pk by rw [hPk];exact (HC.out.mono (fun t h e => h (by simp at e;subst e;decide))).and ((Cl.blk gk 85 csk (by decide)).and ((Cl.r1 9 1 _).and (Cl.r1 86 1 _))))
       have HSk := Lib.hid (show Pk wr by rw [hPk];exact ⟨hpk,hhk,k2k,k3k⟩)
       have x0k : (0 : Int) ≤ (k : Int) := by omega
       have x1k : (k : Int) < (n3 : Int) := by omega
       have x5k : (k : Int) ≤ 4294967296 := by have := HN.out.2.2.1;omega
       have x2k : decide ((k : Int) < (n3 : Int)) = true := decide_eq_true x1k
       have x3k : decide (k < n3) = true := decide_eq_true hltk
       rw [hAk] at y3
       have c2k : wr.cell? ⟨gk,k * 4 + 2,none⟩ = some (.slice B2k m2k d2k) := blk_cell hhk _ e2k
       clear hhk hgk hltk hik hpk hzk hAk hak hSk hPk e2k k2k hm2k e3k k3k hm3k
       go_wp2_with fail
       obtain ⟨wo,rfl⟩ : ∃ wo : World,wo = wr := ⟨_,rfl⟩
       go_loopw [5] (fun u5 wr => ∃ l : Nat,u5 = .int .i64 l ∧ l ≤ m2k ∧ Pk wr) (fun u5 _ => m2k - (RowKit.intOf u5).toNat)
       case atStart => exact ⟨0,rfl,Nat.zero_le _,HSk.out⟩
       case round =>
        obtain ⟨l,rfl,hil,hpl⟩ := hrel
        have HPl := Lib.hid hpl
        have y3 := blk_cell (v := .slice A3 n3 c3) (HO.out _ (HOk.out _ hpl).1).bx 3 rfl
        rw [HAk.out] at y3
        have z2k : wr.cell? ⟨gk,k * 4 + 2,none⟩ = some (.slice B2k m2k d2k) := blk_cell (HOk.out _ hpl).2.1 _ HE2k.out
        by_cases hltl : l < m2k
        ·have HLTl := Lib.hid hltl
         obtain ⟨al,gl,csl,hAl,hal,hgl,hhl,hzl,hol,_⟩ := Row.at_ (HOk.out _ hpl).2.2.1 hltl
         have hxl : al.add l = ⟨gl,l,none⟩ := by rw [hal];exact add0 _ _
         rw [hAl] at z2k
         obtain ⟨u0l,q0l⟩ := ex_cell hzl (show l < (l + 1) * 1 by omega)
         have c0l : wr.cell? ⟨gl,l,none⟩ = some (u0l) := blk_cell hhl _ q0l
         have f0l : wr.frozen? ⟨gl,l,none⟩ = false := blk_free hhl _
         have HWl := Lib.hid (⟨hpl,hgl,by decide,_,hhl⟩ : Wr Pk [32,85] base gl 9 wr)
         have x0l : (0 : Int) ≤ (l : Int) := by omega
         have x1l : (l : Int) < (m2k : Int) := by omega
         have x5l : (l : Int) ≤ 4294967296 := by have := HM2k.out;omega
         have x2l : decide ((l : Int) < (m2k : Int)) = true := decide_eq_true x1l
         have x3l : decide (l < m2k) = true := decide_eq_true hltl
         clear hhl hgl hltl hil hpl hzl hAl hal q0l
         go_wp2_with fail
         go_roundw
         case rel => exact ⟨l + 1,rfl,HLTl.out,(HWl.out.st HCk.out _ l _ rfl rfl (fun h => by first | rfl | (unfold Mk.hits at h;omega))).p⟩
         case measure => (show m2k - (l + 1 : Int).toNat < m2k - (l : Int).toNat;have := HLTl.out;omega)
        ·have x2l : decide ((l : Int) < (m2k : Int)) = false := decide_eq_false (by omega)
         have x3l : decide (l < m2k) = false := decide_eq_false hltl
         have z3k : wr.cell? ⟨gk,k * 4 + 3,none⟩ = some (.slice B3k m3k d3k) := blk_cell (HOk.out _ hpl).2.1 _ HE3k.out
         clear hltl hil hpl
         go_wp2_with fail
         obtain ⟨wo,rfl⟩ : ∃ wo : World,wo = wr := ⟨_,rfl⟩
         go_loopw [6] (fun u6 wr => ∃ m : Nat,u6 = .int .i64 m ∧ m ≤ m3k ∧ Pk wr) (fun u6 _ => m3k - (RowKit.intOf u6).toNat)
         case atStart => exact ⟨0,rfl,Nat.zero_le _,HPl.out⟩
         case round =>
          obtain ⟨m,rfl,him,hpm⟩ := hrel
          have HPm := Lib.hid hpm
          have y3 := blk_cell (v := .slice A3 n3 c3) (HO.out _ (HOk.out _ hpm).1).bx 3 rfl
          rw [HAk.out] at y3
          have z3k : wr.cell? ⟨gk,k * 4 + 3,none⟩ = some (.slice B3k m3k d3k) := blk_cell (HOk.out _ hpm).2.1 _ HE3k.out
          by_cases hltm : m < m3k
          ·have HLTm := Lib.hid hltm
           obtain ⟨am,gm,csm,hAm,ham,hgm,hhm,hzm,hom,_⟩ := Row.at_ (HOk.out _ hpm).2.2.2 hltm
           have hxm : am.add m = ⟨gm,m,none⟩ := by rw [ham];exact add0 _ _
           rw [hAm] at z3k
           obtain ⟨u0m,q0m⟩ := ex_cell hzm (show m < (m + 1) * 1 by omega)
           have c0m : wr.cell? ⟨gm,m,none⟩ = some (u0m) := blk_cell hhm _ q0m
           have f0m : wr.frozen? ⟨gm,m,none⟩ = false := blk_free hhm _
           have HWm := Lib.hid (⟨hpm,hgm,by decide,_,hhm⟩ : Wr Pk [32,85] base gm 86 wr)
           have x0m : (0 : Int) ≤ (m : Int) := by omega
           have x1m : (m : Int) < (m3k : Int) := by omega
           have x5m : (m : Int) ≤ 4294967296 := by have := HM3k.out;omega
           have x2m : decide ((m : Int) < (m3k : Int)) = true := decide_eq_true x1m
           have x3m : decide (m < m3k) = true := decide_eq_true hltm
           clear hhm hgm hltm him hpm hzm hAm ham q0m
           go_wp2_with fail
           go_roundw
           case rel => exact ⟨m + 1,rfl,HLTm.out,(HWm.out.st HCk.out _ m _ rfl rfl (fun h => by first | rfl | (unfold Mk.hits at h;omega))).p⟩
           case measure => (show m3k - (m + 1 : Int).toNat < m3k - (m : Int).toNat;have := HLTm.out;omega)
          ·have x2m : decide ((m : Int) < (m3k : Int)) = false := decide_eq_false (by omega)
           have x3m : decide (m < m3k) = false := decide_eq_false hltm
           have hhk := (HOk.out _ hpm).2.1
           have hzk := HZk.out.2
           have y3 := blk_cell (v := .slice A3 n3 c3) (HO.out _ (HOk.out _ hpm).1).bx 3 rfl
           rw [HAk.out] at y3
           obtain ⟨u0k,q0k⟩ := ex_cell hzk (show k * 4 + 0 < (k + 1) * 4 by omega)
           rw [Nat.add_zero] at q0k
           obtain ⟨u1k,q1k⟩ := ex_cell hzk (show k * 4 + 1 < (k + 1) * 4 by omega)
           have c0k : wr.cell? ⟨gk,k * 4,none⟩ = some (u0k) := blk_cell hhk _ q0k
           have f0k : wr.frozen? ⟨gk,k * 4,none⟩ = false := blk_free hhk _
           have c1k : wr.cell? ⟨gk,k * 4 + 1,none⟩ = some (u1k) := blk_cell hhk _ q1k
           have f1k : wr.frozen? ⟨gk,k * 4 + 1,none⟩ = false := blk_free hhk _
           have c2k : wr.cell? ⟨gk,k * 4 + 2,none⟩ = some (.slice B2k m2k d2k) := blk_cell hhk _ HE2k.out
           have f2k : wr.frozen? ⟨gk,k * 4 + 2,none⟩ = false := blk_free hhk _
           have c3k : wr.cell? ⟨gk,k * 4 + 3,none⟩ = some (.slice B3k m3k d3k) := blk_cell hhk _ HE3k.out
           have f3k : wr.frozen? ⟨gk,k * 4 + 3,none⟩ = false := blk_free hhk _
           have HVk := Lib.hid (⟨(HOk.out _ hpm).1,HZk.out.1,by decide,_,hhk⟩ : Wr P [32] base gk 85 wr)
           clear hhk hzk q0k q1k
           clear hltm him hpm
           go_wp2_with fail
           go_roundw
           case rel => exact ⟨k + 1,rfl,HLTk.out,((((HVk.out.st HC.out _ (k * 4) _ rfl rfl (fun h => by first | rfl | (unfold Mk.hits at h;omega))).st HC.out _ (k * 4 + 1) _ rfl rfl (fun h => by first | rfl | (unfold Mk.hits at h;omega))).st HC.out _ (k * 4 + 2) _ rfl rfl (fun h => by first | rfl | (unfold Mk.hits at h;omega))).st HC.out _ (k * 4 + 3) _ rfl rfl (fun h => by first | rfl | (unfold Mk.hits at h;omega))).p⟩
           case measure => (show n3 - (k + 1 : Int).toNat < n3 - (k : Int).toNat;have := HLTk.out;omega)
      ·have x2k : decide ((k : Int) < (n3 : Int)) = false := decide_eq_false (by omega)
       have x3k : decide (k < n3) = false := decide_eq_false hltk
       clear hltk hik hpk
       go_wp2_with fail
       obtain ⟨wo,rfl⟩ : ∃ wo : World,wo = wr := ⟨_,rfl⟩
       go_loopw [7] (fun u7 wr => ∃ q : Nat,u7 = .int .i64 q ∧ q ≤ n4 ∧ P wr) (fun u7 _ => n4 - (RowKit.intOf u7).toNat)
       case atStart => exact ⟨0,rfl,Nat.zero_le _,HPk.out⟩
       case round =>
        obtain ⟨q,rfl,hiq,hpq⟩ := hrel
        have HPq := Lib.hid hpq
        have y4 := blk_cell (v := .slice A4 n4 c4) (HO.out _ hpq).bx 4 rfl
        by_cases hltq : q < n4
        ·have HLTq := Lib.hid hltq
         obtain ⟨aq,gq,csq,hAq,haq,hgq,hhq,hzq,hoq,hSq⟩ := Row.at_ (HO.out _ hpq).r4 hltq
         have hxq : aq.add q = ⟨gq,q,none⟩ := by rw [haq];exact add0 _ _
         have HAq := Lib.hid hAq
         have HZq := Lib.hid (show base ≤ gq ∧ (q + 1) * 1 ≤ csq.size from ⟨hgq,hzq⟩)
         obtain ⟨s0q,e0q,k0q⟩ := hSq (0,R1 base 9 1) (by simp)
         obtain ⟨B0q,m0q,d0q,rfl,hm0q⟩ := Row.open_ k0q
         rw [Nat.mul_one] at e0q
         have HE0q := Lib.hid e0q
         have HM0q := Lib.hid hm0q
         obtain ⟨Pq,hPq⟩ : ∃ Q : World → Prop,Q = fun wr => P wr ∧ wr.heap[gq]? = some (.cells csq 23 (0,0)) ∧ R1 base 9 1 wr (.slice B0q m0q d0q) := ⟨_,rfl⟩
         have HOq := Lib.hid (show ∀ wr,Pq wr → P wr ∧ wr.heap[gq]? = some (.cells csq 23 (0,0)) ∧ R1 base 9 1 wr (.slice B0q m0q d0q) by rw [hPq];exact fun _ h => h)
         have HCq := Lib.hid (show Cl [32,23] base Pq by rw [hPq];exact (HC.out.mono (fun t h e => h (by simp at e;subst e;decide))).and ((Cl.blk gq 23 csq (by decide)).and (Cl.r1 9 1 _)))
         have HSq := Lib.hid (show Pq wr by rw [hPq];exact ⟨hpq,hhq,k0q⟩)
         have x0q : (0 : Int) ≤ (q : Int) := by omega
         have x1q : (q : Int) < (n4 : Int) := by omega
         have x5q : (q : Int) ≤ 4294967296 := by have := HN.out.2.2.2.1;omega
         have x2q : decide ((q : Int) < (n4 : Int)) = true := decide_eq_true x1q
         have x3q : decide (q < n4) = true := decide_eq_true hltq
         rw [hAq] at y4
         have c0q : wr.cell? ⟨gq,q,none⟩ = some (.slice B0q m0q d0q) := blk_cell hhq _ e0q
         clear hhq hgq hltq hiq hpq hzq hAq haq hSq hPq e0q k0q hm0q
         go_wp2_with fail
         obtain ⟨wo,rfl⟩ : ∃ wo : World,wo = wr := ⟨_,rfl⟩
         go_loopw [8] (fun u8 wr => ∃ r : Nat,u8 = .int .i64 r ∧ r ≤ m0q ∧ Pq wr) (fun u8 _ => m0q - (RowKit.intOf u8).toNat)
         case atStart => exact ⟨0,rfl,Nat.zero_le _,HSq.out⟩
         case round =>
          obtain ⟨r,rfl,hir,hpr⟩ := hrel
          have HPr := Lib.hid hpr
          have y4 := blk_cell (v := .slice A4 n4 c4) (HO.out _ (HOq.out _ hpr).1).bx 4 rfl
          rw [HAq.out] at y4
          have z0q : wr.cell? ⟨gq,q,none⟩ = some (.slice B0q m0q d0q) := blk_cell (HOq.out _ hpr).2.1 _ HE0q.out
          by_cases hltr : r < m0q
          ·have HLTr := Lib.hid hltr
           obtain ⟨ar,gr,csr,hAr,har,hgr,hhr,hzr,hor,_⟩ := Row.at_ (HOq.out _ hpr).2.2 hltr
           have hxr : ar.add r = ⟨gr,r,none⟩ := by rw [har];exact add0 _ _
           rw [hAr] at z0q
           obtain ⟨u0r,q0r⟩ := ex_cell hzr (show r < (r + 1) * 1 by omega)
           have c0r : wr.cell? ⟨gr,r,none⟩ = some (u0r) := blk_cell hhr _ q0r
           have f0r : wr.frozen? ⟨gr,r,none⟩ = false := blk_free hhr _
           have HWr := Lib.hid (⟨hpr,hgr,by decide,_,hhr⟩ : Wr Pq [32,23] base gr 9 wr)
           have x0r : (0 : Int) ≤ (r : Int) := by omega
           have x1r : (r : Int) < (m0q : Int) := by omega
           have x5r : (r : Int) ≤ 4294967296 := by have := HM0q.out;omega
           have x2r : decide ((r : Int) < (m0q : Int)) = true := decide_eq_true x1r
           have x3r : decide (r < m0q) = true := decide_eq_true hltr
           clear hhr hgr hltr hir hpr hzr hAr har q0r
           go_wp2_with fail
           go_roundw
           case rel => exact ⟨r + 1,rfl,HLTr.out,(HWr.out.st HCq.out _ r _ rfl rfl (fun h => by first | rfl | (unfold Mk.hits at h;omega))).p⟩
           case measure => (show m0q - (r + 1 : Int).toNat < m0q - (r : Int).toNat;have := HLTr.out;omega)
          ·have x2r : decide ((r : Int) < (m0q : Int)) = false := decide_eq_false (by omega)
           have x3r : decide (r < m0q) = false := decide_eq_false hltr
           clear hltr hir hpr
           go_wp2_with fail
           go_roundw
           case rel => exact ⟨q + 1,rfl,HLTq.out,(HOq.out _ HPr.out).1⟩
           case measure => (show n4 - (q + 1 : Int).toNat < n4 - (q : Int).toNat;have := HLTq.out;omega)
        ·have x2q : decide ((q : Int) < (n4 : Int)) = false := decide_eq_false (by omega)
         have x3q : decide (q < n4) = false := decide_eq_false hltq
         clear hltq hiq hpq
         go_wp2_with fail
         obtain ⟨wo,rfl⟩ : ∃ wo : World,wo = wr := ⟨_,rfl⟩
         go_loopw [9] (fun u9 wr => ∃ h : Nat,u9 = .int .i64 h ∧ h ≤ n6 ∧ P wr) (fun u9 _ => n6 - (RowKit.intOf u9).toNat)
         case atStart => exact ⟨0,rfl,Nat.zero_le _,HPq.out⟩
         case round =>
          obtain ⟨h,rfl,hih,hph⟩ := hrel
          have HPh := Lib.hid hph
          have y6 := blk_cell (v := .slice A6 n6 c6) (HO.out _ hph).bx 6 rfl
          by_cases hlth : h < n6
          ·have HLTh := Lib.hid hlth
           obtain ⟨ah,gh,csh,hAh,hah,hgh,hhh,hzh,hoh,hSh⟩ := Row.at_ (HO.out _ hph).r6 hlth
           have hxh : ah.add (h * 11) = ⟨gh,h * 11,none⟩ := by rw [hah];exact add0 _ _
           have HAh := Lib.hid hAh
           have HZh := Lib.hid (show base ≤ gh ∧ (h + 1) * 11 ≤ csh.size from ⟨hgh,hzh⟩)
           obtain ⟨s4h,e4h,k4h⟩ := hSh (4,RQ base) (by simp)
           obtain ⟨B4h,m4h,d4h,rfl,hm4h⟩ := Row.open_ k4h
           have HE4h := Lib.hid e4h
           have HM4h := Lib.hid hm4h
           obtain ⟨Ph,hPh⟩ : ∃ Q : World → Prop,Q = fun wr => P wr ∧ wr.heap[gh]? = some (.cells csh 93 (0,0)) ∧ RQ base wr (.slice B4h m4h d4h) := ⟨_,rfl⟩
           have HOh := Lib.hid (show ∀ wr,Ph wr → P wr ∧ wr.heap[gh]? = some (.cells csh 93 (0,0)) ∧ RQ base wr (.slice B4h m4h d4h) by rw [hPh];exact fun _ h => h)
           have HCh := Lib.hid (show Cl [32,93] base Ph by rw [hPh];exact (HC.out.mono (fun t h e => h (by simp at e;subst e;decide))).and ((Cl.blk gh 93 csh (by decide)).and (Cl.rq _)))
           have HCBh := Lib.hid (show Cb Ph by rw [hPh];exact HCB.out.and ((Cb.blk gh 93 csh).and (Cb.rq _)))
           have HSh := Lib.hid (show Ph wr by rw [hPh];exact ⟨hph,hhh,k4h⟩)
           have x0h : (0 : Int) ≤ (h : Int) := by omega
           have x1h : (h : Int) < (n6 : Int) := by omega
           have x5h : (h : Int) ≤ 4294967296 := by have := HN.out.2.2.2.2.1;omega
           have x2h : decide ((h : Int) < (n6 : Int)) = true := decide_eq_true x1h
           have x3h : decide (h < n6) = true := decide_eq_true hlth
           rw [hAh] at y6
           have c4h : wr.cell? ⟨gh,h * 11 + 4,none⟩ = some (.slice B4h m4h d4h) := blk_cell hhh _ e4h
           clear hhh hgh hlth hih hph hzh hAh hah hSh hPh e4h k4h hm4h
           go_wp2_with fail
           obtain ⟨wo,rfl⟩ : ∃ wo : World,wo = wr := ⟨_,rfl⟩
           go_loopw [10] (fun u10 wr => ∃ c : Nat,u10 = .int .i64 c ∧ c ≤ m4h ∧ Ph wr) (fun u10 _ => m4h - (RowKit.intOf u10).toNat)
           case atStart => exact ⟨0,rfl,Nat.zero_le _,HSh.out⟩
           case round =>
            obtain ⟨c,rfl,hic,hpc⟩ := hrel
            have HPc := Lib.hid hpc
            have y6 := blk_cell (v := .slice A6 n6 c6) (HO.out _ (HOh.out _ hpc).1).bx 6 rfl
            rw [HAh.out] at y6
            have z4h : wr.cell? ⟨gh,h * 11 + 4,none⟩ = some (.slice B4h m4h d4h) := blk_cell (HOh.out _ hpc).2.1 _ HE4h.out
            by_cases hltc : c < m4h
            ·have HLTc := Lib.hid hltc
             obtain ⟨ac,gc,csc,hAc,hac,hgc,hhc,hzc,hoc,hSc⟩ := Row.at_ (HOh.out _ hpc).2.2 hltc
             have hxc : ac.add (c * 11) = ⟨gc,c * 11,none⟩ := by rw [hac];exact add0 _ _
             have HAc := Lib.hid hAc
             have HZc := Lib.hid (show base ≤ gc ∧ (c + 1) * 11 ≤ csc.size from ⟨hgc,hzc⟩)
             obtain ⟨s3c,e3c,k3c⟩ := hSc (3,R1 base 9 1) (by simp)
             obtain ⟨B3c,m3c,d3c,rfl,hm3c⟩ := Row.open_ k3c
             have HM3c := Lib.hid hm3c
             obtain ⟨s6c,e6c,k6c⟩ := hSc (6,R1 base 102 4) (by simp)
             obtain ⟨B6c,m6c,d6c,rfl,hm6c⟩ := Row.open_ k6c
             have HM6c := Lib.hid hm6c
             obtain ⟨u0c,q0c⟩ := ex_cell hzc (show c * 11 + 0 < (c + 1) * 11 by omega)
             rw [Nat.add_zero] at q0c
             obtain ⟨u1c,q1c⟩ := ex_cell hzc (show c * 11 + 1 < (c + 1) * 11 by omega)
             obtain ⟨u2c,q2c⟩ := ex_cell hzc (show c * 11 + 2 < (c + 1) * 11 by omega)
             obtain ⟨u4c,q4c⟩ := ex_cell hzc (show c * 11 + 4 < (c + 1) * 11 by omega)
             obtain ⟨u5c,q5c⟩ := ex_cell hzc (show c * 11 + 5 < (c + 1) * 11 by omega)
             obtain ⟨u7c,q7c⟩ := ex_cell hzc (show c * 11 + 7 < (c + 1) * 11 by omega)
             obtain ⟨u8c,q8c⟩ := ex_cell hzc (show c * 11 + 8 < (c + 1) * 11 by omega)
             obtain ⟨u9c,q9c⟩ := ex_cell hzc (show c * 11 + 9 < (c + 1) * 11 by omega)
             obtain ⟨u10c,q10c⟩ := ex_cell hzc (show c * 11 + 10 < (c + 1) * 11 by omega)
             have o0c := fun a w => run_store Tryz.prog w a u0c .plain (hoc _ (by omega) _ q0c)
             have o1c := fun a w => run_store Tryz.prog w a u1c .plain (hoc _ (by omega) _ q1c)
             have o2c := fun a w => run_store Tryz.prog w a u2c .plain (hoc _ (by omega) _ q2c)
             have o4c := fun a w => run_store Tryz.prog w a u4c .plain (hoc _ (by omega) _ q4c)
             have o5c := fun a w => run_store Tryz.prog w a u5c .plain (hoc _ (by omega) _ q5c)
             have o7c := fun a w => run_store Tryz.prog w a u7c .plain (hoc _ (by omega) _ q7c)
             have o8c := fun a w => run_store Tryz.prog w a u8c .plain (hoc _ (by omega) _ q8c)
             have o9c := fun a w => run_store Tryz.prog w a u9c .plain (hoc _ (by omega) _ q9c)
             have o10c := fun a w => run_store Tryz.prog w a u10c .plain (hoc _ (by omega) _ q10c)
             have c0c : wr.cell? ⟨gc,c * 11,none⟩ = some (u0c) := blk_cell hhc _ q0c
             have c1c : wr.cell? ⟨gc,c * 11 + 1,none⟩ = some (u1c) := blk_cell hhc _ q1c
             have c2c : wr.cell? ⟨gc,c * 11 + 2,none⟩ = some (u2c) := blk_cell hhc _ q2c
             have c3c : wr.cell? ⟨gc,c * 11 + 3,none⟩ = some (.slice B3c m3c d3c) := blk_cell hhc _ e3c
             have c4c : wr.cell? ⟨gc,c * 11 + 4,none⟩ = some (u4c) := blk_cell hhc _ q4c
             have c5c : wr.cell? ⟨gc,c * 11 + 5,none⟩ = some (u5c) := blk_cell hhc _ q5c
             have c6c : wr.cell? ⟨gc,c * 11 + 6,none⟩ = some (.slice B6c m6c d6c) := blk_cell hhc _ e6c
             have c7c : wr.cell? ⟨gc,c * 11 + 7,none⟩ = some (u7c) := blk_cell hhc _ q7c
             have c8c : wr.cell? ⟨gc,c * 11 + 8,none⟩ = some (u8c) := blk_cell hhc _ q8c
             have c9c : wr.cell? ⟨gc,c * 11 + 9,none⟩ = some (u9c) := blk_cell hhc _ q9c
             have c10c : wr.cell? ⟨gc,c * 11 + 10,none⟩ = some (u10c) := blk_cell hhc _ q10c
             rw [hAc] at z4h
             have x0c : (0 : Int) ≤ (c : Int) := by omega
             have x1c : (c : Int) < (m4h : Int) := by omega
             have x5c : (c : Int) ≤ 4294967296 := by have := HM4h.out;omega
             have x2c : decide ((c : Int) < (m4h : Int)) = true := decide_eq_true x1c
             have x3c : decide (c < m4h) = true := decide_eq_true hltc
             obtain ⟨Y,hY⟩ : ∃ Y,wr.alloc (.cells #[u0c,u1c,u2c,.slice B3c m3c d3c,u4c,u5c,.slice B6c m6c d6c,u7c,u8c,u9c,u10c] 100) = Y := ⟨_,rfl⟩
             obtain ⟨pb,hpb⟩ : ∃ b,wr.heap.size = b := ⟨_,rfl⟩
             have hyb : Below wr.heap.size wr Y := by rw [← hY];exact (Below.refl _ wr).alloc (Nat.le_refl _) _
             have hyp : Y.heap[pb]? = some (.cells #[u0c,u1c,u2c,.slice B3c m3c d3c,u4c,u5c,.slice B6c m6c d6c,u7c,u8c,u9c,u10c] 100 (0,0)) := by rw [← hY,← hpb];exact heap_alloc_new wr _
             obtain ⟨Pc,hPc⟩ : ∃ Q : World → Prop,Q = fun wr => Ph wr ∧ wr.heap[gc]? = some (.cells csc 100 (0,0)) ∧ wr.heap[pb]? = some (.cells #[u0c,u1c,u2c,.slice B3c m3c d3c,u4c,u5c,.slice B6c m6c d6c,u7c,u8c,u9c,u10c] 100 (0,0)) ∧ R1 base 9 1 wr (.slice B3c m3c d3c) ∧ R1 base 102 4 wr (.slice B6c m6c d6c) := ⟨_,rfl⟩
             have HOc := Lib.hid (show ∀ wr,Pc wr → Ph wr ∧ wr.heap[gc]? = some (.cells csc 100 (0,0)) ∧ wr.heap[pb]? = some (.cells #[u0c,u1c,u2c,.slice B3c m3c d3c,u4c,u5c,.slice B6c m6c d6c,u7c,u8c,u9c,u10c] 100 (0,0)) ∧ R1 base 9 1 wr (.slice B3c m3c d3c) ∧ R1 base 102 4 wr (.slice B6c m6c d6c) by rw [hPc];exact fun _ h => h)
             have HCc := Lib.hid (show Cl [32,93,100] base Pc by rw [hPc];exact (HCh.out.mono (fun t h e => h (by simp at e;rcases e with rfl | rfl <;> decide))).and ((Cl.blk gc 100 csc (by decide)).and ((Cl.blk pb 100 _ (by decide)).and ((Cl.r1 9 1 _).and (Cl.r1 102 4 _)))))
             have HSc := Lib.hid (show Pc Y by rw [hPc];exact ⟨HCBh.out wr Y hpc hyb,(hyb.block _ (blk_lt hhc)).trans hhc,hyp,k3c.below hyb,k6c.below hyb⟩)
             have v3c := blk_cell (v := .slice B3c m3c d3c) hyp 3 rfl
             have HE3c := Lib.hid e3c
             have HE6c := Lib.hid e6c
             clear hhc hgc hltc hic hpc hzc hAc hac hSc hPc hyb hyp e3c k3c hm3c e6c k6c hm6c q0c q1c q2c q4c q5c q7c q8c q9c q10c
             go_upto_region 35 with fail
             try rw [hY]
             try rw [hpb]
             clear hY hpb c0c c1c c2c c3c c4c c5c c6c c7c c8c c9c c10c o0c o1c o2c o4c o5c o7c o8c o9c o10c
             go_wp2_with fail
             obtain ⟨wo,rfl⟩ : ∃ wo : World,wo = wr := ⟨_,rfl⟩
             go_loopw [12] (fun u12 wr => ∃ e : Nat,u12 = .int .i64 e ∧ e ≤ m3c ∧ Pc wr) (fun u12 _ => m3c - (RowKit.intOf u12).toNat)
             case atStart => exact ⟨0,rfl,Nat.zero_le _,HSc.out⟩
             case round =>
              obtain ⟨e,rfl,hie,hpe⟩ := hrel
              have HPe := Lib.hid hpe
              have z3c := blk_cell (v := .slice B3c m3c d3c) (HOc.out _ hpe).2.2.1 3 rfl
              by_cases hlte : e < m3c
              ·have HLTe := Lib.hid hlte
               obtain ⟨ae,ge,cse,hAe,hae,hge,hhe,hze,hoe,_⟩ := Row.at_ (HOc.out _ hpe).2.2.2.1 hlte
               have hxe : ae.add e = ⟨ge,e,none⟩ := by rw [hae];exact add0 _ _
               rw [hAe] at z3c
               obtain ⟨u0e,q0e⟩ := ex_cell hze (show e < (e + 1) * 1 by omega)
               have c0e : wr.cell? ⟨ge,e,none⟩ = some (u0e) := blk_cell hhe _ q0e
               have f0e : wr.frozen? ⟨ge,e,none⟩ = false := blk_free hhe _
               have HWe := Lib.hid (⟨hpe,hge,by decide,_,hhe⟩ : Wr Pc [32,93,100] base ge 9 wr)
               have x0e : (0 : Int) ≤ (e : Int) := by omega
               have x1e : (e : Int) < (m3c : Int) := by omega
               have x5e : (e : Int) ≤ 4294967296 := by have := HM3c.out;omega
               have x2e : decide ((e : Int) < (m3c : Int)) = true := decide_eq_true x1e
               have x3e : decide (e < m3c) = true := decide_eq_true hlte
               clear hhe hge hlte hie hpe hze hAe hae q0e
               go_wp2_with fail
               go_roundw
               case rel => exact ⟨e + 1,rfl,HLTe.out,(HWe.out.st HCc.out _ e _ rfl rfl (fun h => by first | rfl | (unfold Mk.hits at h;omega))).p⟩
               case measure => (show m3c - (e + 1 : Int).toNat < m3c - (e : Int).toNat;have := HLTe.out;omega)
              ·have x2e : decide ((e : Int) < (m3c : Int)) = false := decide_eq_false (by omega)
               have x3e : decide (e < m3c) = false := decide_eq_false hlte
               have z6c := blk_cell (v := .slice B6c m6c d6c) (HOc.out _ hpe).2.2.1 6 rfl
               clear hlte hie hpe
               go_wp2_with fail
               obtain ⟨wo,rfl⟩ : ∃ wo : World,wo = wr := ⟨_,rfl⟩
               go_loopw [13] (fun u13 wr => ∃ f : Nat,u13 = .int .i64 f ∧ f ≤ m6c ∧ Pc wr) (fun u13 _ => m6c - (RowKit.intOf u13).toNat)
               case atStart => exact ⟨0,rfl,Nat.zero_le _,HPe.out⟩
               case round =>
                obtain ⟨f,rfl,hif,hpf⟩ := hrel
                have HPf := Lib.hid hpf
                have z6c := blk_cell (v := .slice B6c m6c d6c) (HOc.out _ hpf).2.2.1 6 rfl
                by_cases hltf : f < m6c
                ·have HLTf := Lib.hid hltf
                 obtain ⟨af,gf,csf,hAf,haf,hgf,hhf,hzf,hof,_⟩ := Row.at_ (HOc.out _ hpf).2.2.2.2 hltf
                 have hxf : af.add (f * 4) = ⟨gf,f * 4,none⟩ := by rw [haf];exact add0 _ _
                 rw [hAf] at z6c
                 obtain ⟨u0f,q0f⟩ := ex_cell hzf (show f * 4 + 0 < (f + 1) * 4 by omega)
                 rw [Nat.add_zero] at q0f
                 obtain ⟨u1f,q1f⟩ := ex_cell hzf (show f * 4 + 1 < (f + 1) * 4 by omega)
                 obtain ⟨u2f,q2f⟩ := ex_cell hzf (show f * 4 + 2 < (f + 1) * 4 by omega)
                 obtain ⟨u3f,q3f⟩ := ex_cell hzf (show f * 4 + 3 < (f + 1) * 4 by omega)
                 have c0f : wr.cell? ⟨gf,f * 4,none⟩ = some (u0f) := blk_cell hhf _ q0f
                 have f0f : wr.frozen? ⟨gf,f * 4,none⟩ = false := blk_free hhf _
                 have c1f : wr.cell? ⟨gf,f * 4 + 1,none⟩ = some (u1f) := blk_cell hhf _ q1f
                 have f1f : wr.frozen? ⟨gf,f * 4 + 1,none⟩ = false := blk_free hhf _
                 have c2f : wr.cell? ⟨gf,f * 4 + 2,none⟩ = some (u2f) := blk_cell hhf _ q2f
                 have f2f : wr.frozen? ⟨gf,f * 4 + 2,none⟩ = false := blk_free hhf _
                 have c3f : wr.cell? ⟨gf,f * 4 + 3,none⟩ = some (u3f) := blk_cell hhf _ q3f
                 have f3f : wr.frozen? ⟨gf,f * 4 + 3,none⟩ = false := blk_free hhf _
                 have HWf := Lib.hid (⟨hpf,hgf,by decide,_,hhf⟩ : Wr Pc [32,93,100] base gf 102 wr)
                 have x0f : (0 : Int) ≤ (f : Int) := by omega
                 have x1f : (f : Int) < (m6c : Int) := by omega
                 have x5f : (f : Int) ≤ 4294967296 := by have := HM6c.out;omega
                 have x2f : decide ((f : Int) < (m6c : Int)) = true := decide_eq_true x1f
                 have x3f : decide (f < m6c) = true := decide_eq_true hltf
                 clear hhf hgf hltf hif hpf hzf hAf haf q0f q1f q2f q3f
                 go_wp2_with fail
                 go_roundw
                 case rel => exact ⟨f + 1,rfl,HLTf.out,((((HWf.out.st HCc.out _ (f * 4) _ rfl rfl (fun h => by first | rfl | (unfold Mk.hits at h;omega))).st HCc.out _ (f * 4 + 1) _ rfl rfl (fun h => by first | rfl | (unfold Mk.hits at h;omega))).st HCc.out _ (f * 4 + 2) _ rfl rfl (fun h => by first | rfl | (unfold Mk.hits at h;omega))).st HCc.out _ (f * 4 + 3) _ rfl rfl (fun h => by first | rfl | (unfold Mk.hits at h;omega))).p⟩
                 case measure => (show m6c - (f + 1 : Int).toNat < m6c - (f : Int).toNat;have := HLTf.out;omega)
                ·have x2f : decide ((f : Int) < (m6c : Int)) = false := decide_eq_false (by omega)
                 have x3f : decide (f < m6c) = false := decide_eq_false hltf
                 have hhc := (HOc.out _ hpf).2.1
                 have hph := (HOc.out _ hpf).1
                 have hzc := HZc.out.2
                 have y6 := blk_cell (v := .slice A6 n6 c6) (HO.out _ (HOh.out _ hph).1).bx 6 rfl
                 rw [HAh.out] at y6
                 have z4h : wr.cell? ⟨gh,h * 11 + 4,none⟩ = some (.slice B4h m4h d4h) := blk_cell (HOh.out _ hph).2.1 _ HE4h.out
                 rw [HAc.out] at z4h
                 obtain ⟨u0c,q0c⟩ := ex_cell hzc (show c * 11 + 0 < (c + 1) * 11 by omega)
                 rw [Nat.add_zero] at q0c
                 obtain ⟨u1c,q1c⟩ := ex_cell hzc (show c * 11 + 1 < (c + 1) * 11 by omega)
                 obtain ⟨u2c,q2c⟩ := ex_cell hzc (show c * 11 + 2 < (c + 1) * 11 by omega)
                 obtain ⟨u4c,q4c⟩ := ex_cell hzc (show c * 11 + 4 < (c + 1) * 11 by omega)
                 obtain ⟨u5c,q5c⟩ := ex_cell hzc (show c * 11 + 5 < (c + 1) * 11 by omega)
                 obtain ⟨u7c,q7c⟩ := ex_cell hzc (show c * 11 + 7 < (c + 1) * 11 by omega)
                 obtain ⟨u8c,q8c⟩ := ex_cell hzc (show c * 11 + 8 < (c + 1) * 11 by omega)
                 obtain ⟨u9c,q9c⟩ := ex_cell hzc (show c * 11 + 9 < (c + 1) * 11 by omega)
                 obtain ⟨u10c,q10c⟩ := ex_cell hzc (show c * 11 + 10 < (c + 1) * 11 by omega)
                 have c0c : wr.cell? ⟨gc,c * 11,none⟩ = some (u0c) := blk_cell hhc _ q0c
                 have f0c : wr.frozen? ⟨gc,c * 11,none⟩ = false := blk_free hhc _
                 have c1c : wr.cell? ⟨gc,c * 11 + 1,none⟩ = some (u1c) := blk_cell hhc _ q1c
                 have f1c : wr.frozen? ⟨gc,c * 11 + 1,none⟩ = false := blk_free hhc _
                 have c2c : wr.cell? ⟨gc,c * 11 + 2,none⟩ = some (u2c) := blk_cell hhc _ q2c
                 have f2c : wr.frozen? ⟨gc,c * 11 + 2,none⟩ = false := blk_free hhc _
                 have c3c : wr.cell? ⟨gc,c * 11 + 3,none⟩ = some (.slice B3c m3c d3c) := blk_cell hhc _ HE3c.out
                 have f3c : wr.frozen? ⟨gc,c * 11 + 3,none⟩ = false := blk_free hhc _
                 have c4c : wr.cell? ⟨gc,c * 11 + 4,none⟩ = some (u4c) := blk_cell hhc _ q4c
                 have f4c : wr.frozen? ⟨gc,c * 11 + 4,none⟩ = false := blk_free hhc _
                 have c5c : wr.cell? ⟨gc,c * 11 + 5,none⟩ = some (u5c) := blk_cell hhc _ q5c
                 have f5c : wr.frozen? ⟨gc,c * 11 + 5,none⟩ = false := blk_free hhc _
                 have c6c : wr.cell? ⟨gc,c * 11 + 6,none⟩ = some (.slice B6c m6c d6c) := blk_cell hhc _ HE6c.out
                 have f6c : wr.frozen? ⟨gc,c * 11 + 6,none⟩ = false := blk_free hhc _
                 have c7c : wr.cell? ⟨gc,c * 11 + 7,none⟩ = some (u7c) := blk_cell hhc _ q7c
                 have f7c : wr.frozen? ⟨gc,c * 11 + 7,none⟩ = false := blk_free hhc _
                 have c8c : wr.cell? ⟨gc,c * 11 + 8,none⟩ = some (u8c) := blk_cell hhc _ q8c
                 have f8c : wr.frozen? ⟨gc,c * 11 + 8,none⟩ = false := blk_free hhc _
                 have c9c : wr.cell? ⟨gc,c * 11 + 9,none⟩ = some (u9c) := blk_cell hhc _ q9c
                 have f9c : wr.frozen? ⟨gc,c * 11 + 9,none⟩ = false := blk_free hhc _
                 have c10c : wr.cell? ⟨gc,c * 11 + 10,none⟩ = some (u10c) := blk_cell hhc _ q10c
                 have f10c : wr.frozen? ⟨gc,c * 11 + 10,none⟩ = false := blk_free hhc _
                 have HVc := Lib.hid (⟨hph,HZc.out.1,by decide,_,hhc⟩ : Wr Ph [32,93] base gc 100 wr)
                 clear hhc hzc hph q0c q1c q2c q4c q5c q7c q8c q9c q10c
                 clear hltf hif hpf
                 go_wp2_with fail
                 go_roundw
                 case rel => exact ⟨c + 1,rfl,HLTc.out,(((((((((((HVc.out.st HCh.out _ (c * 11) _ rfl rfl (fun h => by first | rfl | (unfold Mk.hits at h;omega))).st HCh.out _ (c * 11 + 1) _ rfl rfl (fun h => by first | rfl | (unfold Mk.hits at h;omega))).st HCh.out _ (c * 11 + 2) _ rfl rfl (fun h => by first | rfl | (unfold Mk.hits at h;omega))).st HCh.out _ (c * 11 + 3) _ rfl rfl (fun h => by first | rfl | (unfold Mk.hits at h;omega))).st HCh.out _ (c * 11 + 4) _ rfl rfl (fun h => by first | rfl | (unfold Mk.hits at h;omega))).st HCh.out _ (c * 11 + 5) _ rfl rfl (fun h => by first | rfl | (unfold Mk.hits at h;omega))).st HCh.out _ (c * 11 + 6) _ rfl rfl (fun h => by first | rfl | (unfold Mk.hits at h;omega))).st HCh.out _ (c * 11 + 7) _ rfl rfl (fun h => by first | rfl | (unfold Mk.hits at h;omega))).st HCh.out _ (c * 11 + 8) _ rfl rfl (fun h => by first | rfl | (unfold Mk.hits at h;omega))).st HCh.out _ (c * 11 + 9) _ rfl rfl (fun h => by first | rfl | (unfold Mk.hits at h;omega))).st HCh.out _ (c * 11 + 10) _ rfl rfl (fun h => by first | rfl | (unfold Mk.hits at h;omega))).p⟩
                 case measure => (show m4h - (c + 1 : Int).toNat < m4h - (c : Int).toNat;have := HLTc.out;omega)
            ·have x2c : decide ((c : Int) < (m4h : Int)) = false := decide_eq_false (by omega)
             have x3c : decide (c < m4h) = false := decide_eq_false hltc
             have hhh := (HOh.out _ hpc).2.1
             have hzh := HZh.out.2
             have y6 := blk_cell (v := .slice A6 n6 c6) (HO.out _ (HOh.out _ hpc).1).bx 6 rfl
             rw [HAh.out] at y6
             obtain ⟨u0h,q0h⟩ := ex_cell hzh (show h * 11 + 0 < (h + 1) * 11 by omega)
             rw [Nat.add_zero] at q0h
             obtain ⟨u1h,q1h⟩ := ex_cell hzh (show h * 11 + 1 < (h + 1) * 11 by omega)
             obtain ⟨u2h,q2h⟩ := ex_cell hzh (show h * 11 + 2 < (h + 1) * 11 by omega)
             obtain ⟨u3h,q3h⟩ := ex_cell hzh (show h * 11 + 3 < (h + 1) * 11 by omega)
             obtain ⟨u5h,q5h⟩ := ex_cell hzh (show h * 11 + 5 < (h + 1) * 11 by omega)
             obtain ⟨u6h,q6h⟩ := ex_cell hzh (show h * 11 + 6 < (h + 1) * 11 by omega)
             obtain ⟨u7h,q7h⟩ := ex_cell hzh (show h * 11 + 7 < (h + 1) * 11 by omega)
             obtain ⟨u8h,q8h⟩ := ex_cell hzh (show h * 11 + 8 < (h + 1) * 11 by omega)
             obtain ⟨u9h,q9h⟩ := ex_cell hzh (show h * 11 + 9 < (h + 1) * 11 by omega)
             obtain ⟨u10h,q10h⟩ := ex_cell hzh (show h * 11 + 10 < (h + 1) * 11 by omega)
             have c0h : wr.cell? ⟨gh,h * 11,none⟩ = some (u0h) := blk_cell hhh _ q0h
             have f0h : wr.frozen? ⟨gh,h * 11,none⟩ = false := blk_free hhh _
             have c1h : wr.cell? ⟨gh,h * 11 + 1,none⟩ = some (u1h) := blk_cell hhh _ q1h
             have f1h : wr.frozen? ⟨gh,h * 11 + 1,none⟩ = false := blk_free hhh _
             have c2h : wr.cell? ⟨gh,h * 11 + 2,none⟩ = some (u2h) := blk_cell hhh _ q2h
             have f2h : wr.frozen? ⟨gh,h * 11 + 2,none⟩ = false := blk_free hhh _
             have c3h : wr.cell? ⟨gh,h * 11 + 3,none⟩ = some (u3h) := blk_cell hhh _ q3h
             have f3h : wr.frozen? ⟨gh,h * 11 + 3,none⟩ = false := blk_free hhh _
             have c4h : wr.cell? ⟨gh,h * 11 + 4,none⟩ = some (.slice B4h m4h d4h) := blk_cell hhh _ HE4h.out
             have f4h : wr.frozen? ⟨gh,h * 11 + 4,none⟩ = false := blk_free hhh _
             have c5h : wr.cell? ⟨gh,h * 11 + 5,none⟩ = some (u5h) := blk_cell hhh _ q5h
             have f5h : wr.frozen? ⟨gh,h * 11 + 5,none⟩ = false := blk_free hhh _
             have c6h : wr.cell? ⟨gh,h * 11 + 6,none⟩ = some (u6h) := blk_cell hhh _ q6h
             have f6h : wr.frozen? ⟨gh,h * 11 + 6,none⟩ = false := blk_free hhh _
             have c7h : wr.cell? ⟨gh,h * 11 + 7,none⟩ = some (u7h) := blk_cell hhh _ q7h
             have f7h : wr.frozen? ⟨gh,h * 11 + 7,none⟩ = false := blk_free hhh _
             have c8h : wr.cell? ⟨gh,h * 11 + 8,none⟩ = some (u8h) := blk_cell hhh _ q8h
             have f8h : wr.frozen? ⟨gh,h * 11 + 8,none⟩ = false := blk_free hhh _
             have c9h : wr.cell? ⟨gh,h * 11 + 9,none⟩ = some (u9h) := blk_cell hhh _ q9h
             have f9h : wr.frozen? ⟨gh,h * 11 + 9,none⟩ = false := blk_free hhh _
             have c10h : wr.cell? ⟨gh,h * 11 + 10,none⟩ = some (u10h) := blk_cell hhh _ q10h
             have f10h : wr.frozen? ⟨gh,h * 11 + 10,none⟩ = false := blk_free hhh _
             have HVh := Lib.hid (⟨(HOh.out _ hpc).1,HZh.out.1,by decide,_,hhh⟩ : Wr P [32] base gh 93 wr)
             clear hhh hzh q0h q1h q2h q3h q5h q6h q7h q8h q9h q10h
             clear hltc hic hpc
             go_wp2_with fail
             go_roundw
             case rel => exact ⟨h + 1,rfl,HLTh.out,(((((((((((HVh.out.st HC.out _ (h * 11) _ rfl rfl (fun h => by first | rfl | (unfold Mk.hits at h;omega))).st HC.out _ (h * 11 + 1) _ rfl rfl (fun h => by first | rfl | (unfold Mk.hits at h;omega))).st HC.out _ (h * 11 + 2) _ rfl rfl (fun h => by first | rfl | (unfold Mk.hits at h;omega))).st HC.out _ (h * 11 + 3) _ rfl rfl (fun h => by first | rfl | (unfold Mk.hits at h;omega))).st HC.out _ (h * 11 + 4) _ rfl rfl (fun h => by first | rfl | (unfold Mk.hits at h;omega))).st HC.out _ (h * 11 + 5) _ rfl rfl (fun h => by first | rfl | (unfold Mk.hits at h;omega))).st HC.out _ (h * 11 + 6) _ rfl rfl (fun h => by first | rfl | (unfold Mk.hits at h;omega))).st HC.out _ (h * 11 + 7) _ rfl rfl (fun h => by first | rfl | (unfold Mk.hits at h;omega))).st HC.out _ (h * 11 + 8) _ rfl rfl (fun h => by first | rfl | (unfold Mk.hits at h;omega))).st HC.out _ (h * 11 + 9) _ rfl rfl (fun h => by first | rfl | (unfold Mk.hits at h;omega))).st HC.out _ (h * 11 + 10) _ rfl rfl (fun h => by first | rfl | (unfold Mk.hits at h;omega))).p⟩
             case measure => (show n6 - (h + 1 : Int).toNat < n6 - (h : Int).toNat;have := HLTh.out;omega)
          ·have x2h : decide ((h : Int) < (n6 : Int)) = false := decide_eq_false (by omega)
           have x3h : decide (h < n6) = false := decide_eq_false hlth
           clear hlth hih hph
           go_wp2_with fail
           obtain ⟨wo,rfl⟩ : ∃ wo : World,wo = wr := ⟨_,rfl⟩
           go_loopw [14] (fun u14 wr => ∃ y : Nat,u14 = .int .i64 y ∧ y ≤ n8 ∧ P wr) (fun u14 _ => n8 - (RowKit.intOf u14).toNat)
           case atStart => exact ⟨0,rfl,Nat.zero_le _,HPh.out⟩
           case round =>
            obtain ⟨y,rfl,hiy,hpy⟩ := hrel
            have HPy := Lib.hid hpy
            have y8 := blk_cell (v := .slice A8 n8 c8) (HO.out _ hpy).bx 8 rfl
            by_cases hlty : y < n8
            ·have HLTy := Lib.hid hlty
             obtain ⟨ay,gy,csy,hAy,hay,hgy,hhy,hzy,hoy,hSy⟩ := Row.at_ (HO.out _ hpy).r8 hlty
             have hxy : ay.add (y * 5) = ⟨gy,y * 5,none⟩ := by rw [hay];exact add0 _ _
             have HAy := Lib.hid hAy
             have HZy := Lib.hid (show base ≤ gy ∧ (y + 1) * 5 ≤ csy.size from ⟨hgy,hzy⟩)
             obtain ⟨s2y,e2y,k2y⟩ := hSy (2,R1 base 9 1) (by simp)
             obtain ⟨B2y,m2y,d2y,rfl,hm2y⟩ := Row.open_ k2y
             have HE2y := Lib.hid e2y
             have HM2y := Lib.hid hm2y
             obtain ⟨Py,hPy⟩ : ∃ Q : World → Prop,Q = fun wr => P wr ∧ wr.heap[gy]? = some (.cells csy 104 (0,0)) ∧ R1 base 9 1 wr (.slice B2y m2y d2y) := ⟨_,rfl⟩
             have HOy := Lib.hid (show ∀ wr,Py wr → P wr ∧ wr.heap[gy]? = some (.cells csy 104 (0,0)) ∧ R1 base 9 1 wr (.slice B2y m2y d2y) by rw [hPy];exact fun _ h => h)
             have HCy := Lib.hid (show Cl [32,104] base Py by rw [hPy];exact (HC.out.mono (fun t h e => h (by simp at e;subst e;decide))).and ((Cl.blk gy 104 csy (by decide)).and (Cl.r1 9 1 _)))
             have HSy := Lib.hid (show Py wr by rw [hPy];exact ⟨hpy,hhy,k2y⟩)
             have x0y : (0 : Int) ≤ (y : Int) := by omega
             have x1y : (y : Int) < (n8 : Int) := by omega
             have x5y : (y : Int) ≤ 4294967296 := by have := HN.out.2.2.2.2.2;omega
             have x2y : decide ((y : Int) < (n8 : Int)) = true := decide_eq_true x1y
             have x3y : decide (y < n8) = true := decide_eq_true hlty
             rw [hAy] at y8
             have c2y : wr.cell? ⟨gy,y * 5 + 2,none⟩ = some (.slice B2y m2y d2y) := blk_cell hhy _ e2y
             clear hhy hgy hlty hiy hpy hzy hAy hay hSy hPy e2y k2y hm2y
             go_wp2_with fail
             obtain ⟨wo,rfl⟩ : ∃ wo : World,wo = wr := ⟨_,rfl⟩
             go_loopw [15] (fun u15 wr => ∃ z : Nat,u15 = .int .i64 z ∧ z ≤ m2y ∧ Py wr) (fun u15 _ => m2y - (RowKit.intOf u15).toNat)
             case atStart => exact ⟨0,rfl,Nat.zero_le _,HSy.out⟩
             case round =>
              obtain ⟨z,rfl,hiz,hpz⟩ := hrel
              have HPz := Lib.hid hpz
              have y8 := blk_cell (v := .slice A8 n8 c8) (HO.out _ (HOy.out _ hpz).1).bx 8 rfl
              rw [HAy.out] at y8
              have z2y : wr.cell? ⟨gy,y * 5 + 2,none⟩ = some (.slice B2y m2y d2y) := blk_cell (HOy.out _ hpz).2.1 _ HE2y.out
              by_cases hltz : z < m2y
              ·have HLTz := Lib.hid hltz
               obtain ⟨az,gz,csz,hAz,haz,hgz,hhz,hzz,hoz,_⟩ := Row.at_ (HOy.out _ hpz).2.2 hltz
               have hxz : az.add z = ⟨gz,z,none⟩ := by rw [haz];exact add0 _ _
               rw [hAz] at z2y
               obtain ⟨u0z,q0z⟩ := ex_cell hzz (show z < (z + 1) * 1 by omega)
               have c0z : wr.cell? ⟨gz,z,none⟩ = some (u0z) := blk_cell hhz _ q0z
               have f0z : wr.frozen? ⟨gz,z,none⟩ = false := blk_free hhz _
               have HWz := Lib.hid (⟨hpz,hgz,by decide,_,hhz⟩ : Wr Py [32,104] base gz 9 wr)
               have x0z : (0 : Int) ≤ (z : Int) := by omega
               have x1z : (z : Int) < (m2y : Int) := by omega
               have x5z : (z : Int) ≤ 4294967296 := by have := HM2y.out;omega
               have x2z : decide ((z : Int) < (m2y : Int)) = true := decide_eq_true x1z
               have x3z : decide (z < m2y) = true := decide_eq_true hltz
               clear hhz hgz hltz hiz hpz hzz hAz haz q0z
               go_wp2_with fail
               go_roundw
               case rel => exact ⟨z + 1,rfl,HLTz.out,(HWz.out.st HCy.out _ z _ rfl rfl (fun h => by first | rfl | (unfold Mk.hits at h;omega))).p⟩
               case measure => (show m2y - (z + 1 : Int).toNat < m2y - (z : Int).toNat;have := HLTz.out;omega)
              ·have x2z : decide ((z : Int) < (m2y : Int)) = false := decide_eq_false (by omega)
               have x3z : decide (z < m2y) = false := decide_eq_false hltz
               clear hltz hiz hpz
               go_wp2_with fail
               go_roundw
               case rel => exact ⟨y + 1,rfl,HLTy.out,(HOy.out _ HPz.out).1⟩
               case measure => (show n8 - (y + 1 : Int).toNat < n8 - (y : Int).toNat;have := HLTy.out;omega)
            ·have x2y : decide ((y : Int) < (n8 : Int)) = false := decide_eq_false (by omega)
             have x3y : decide (y < n8) = false := decide_eq_false hlty
             clear hlty hiy hpy
             go_wp2_with fail
             go_end0
             exact ⟨rfl,HQ.out _ HPy.out⟩
end Go.Proofs.YtcakgennlliejaaGreatDoor
