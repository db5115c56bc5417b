import Derived.Deep.RegionLaw
import Derived.Test.YtcakgennlliejaaGreatDoorSynK6
set_option maxHeartbeats 8000000
set_option maxRecDepth 100000
namespace Go.Proofs.YtcakgennlliejaaGreatDoor
open Go.Shelf Go.RowKit Go.Lib
open Go.Proofs.YtcakgennlliejaaGreatDoorW.PrintWords
open Go.Proofs.YtcakgennlliejaaGreatDoor.PSyntaxJoined
set_option linter.unusedVariables false
set_option linter.unusedSimpArgs false
def Sx.calOk (y m d:Int):Bool:=Sx.hasMonth y m&&decide (1≤d)&&decide (d≤Sx.calLen y m)
theorem Sx.hasMonth_in {y m:Int} (h:Sx.hasMonth y m=true):1≤m∧m≤12:=by
 unfold Sx.hasMonth at h
 split at h
 ·split at h
  ·split at h
   ·simp at h;omega
   ·cases h
  ·cases h
 ·cases h
theorem ok_calls (y m d:Int) (w:World):Calls Tryz.prog 141 #[.agg #[.int .i64 y,.int .i64 m,.int .i64 d]] w fun e w'=>e=.returned (.bool (Sx.calOk y m d))∧Below w.heap.size w w':=by
 have HM:=Lib.hid (hasMonth_calls y m d)
 cases hm:Sx.hasMonth y m
 ·skip
  have HF:=Lib.hid (show Sx.calOk y m d=false by unfold Sx.calOk;rw [hm];rfl)
  rw [hm] at HM
  clear hm
  go_enter Tryz.func141,Tryz.ntmps141
  go_upto_region 1 with (fail)
  obtain ⟨X,hX⟩:∃ X,w.alloc (Obj.cells #[.int .i64 y,.int .i64 m,.int .i64 d] 202)=X:=⟨_,rfl⟩
  have hb:X.heap[w.heap.size]?=some (.cells #[.int .i64 y,.int .i64 m,.int .i64 d] 202 (0,0)):=by rw [← hX];exact heap_alloc_new w _
  have HB:=Lib.hid (show Below w.heap.size w X by rw [← hX];exact (Below.refl _ w).alloc (Nat.le_refl _) _)
  have x0:X.cell? ⟨w.heap.size,0,none⟩=some (.int .i64 y):=blk_cell hb 0 rfl
  have x1:X.cell? ⟨w.heap.size,1,none⟩=some (.int .i64 m):=blk_cell hb 1 rfl
  have x2:X.cell? ⟨w.heap.size,2,none⟩=some (.int .i64 d):=blk_cell hb 2 rfl
  try rw [hX]
  clear hX hb
  have kc:∀ (W W2:World) (j:Nat) (v:Value),Below W.heap.size W W2→W.cell? ⟨w.heap.size,j,none⟩=some v→W2.cell? ⟨w.heap.size,j,none⟩=some v:=fun W W2 j v hb h=>keep_cell h hb
  have HKC:=Lib.hid kc
  clear kc
  refine wp_region_any (by kernel_rfl) ?_
  try (change wpAny _ _ _ _ _ _ _ (World.drew _))
  refine wpAny_ready (rs:=[0]) (by kernel_rfl) (by simp) ?_
  refine AllReady.cons rfl (fun K hK=>?_) AllReady.nil
  go_simp
  try (refine hK _ _ ?_;clear hK K)
  refine wpAny_ready (rs:=[1]) (by kernel_rfl) (by simp) ?_
  refine AllReady.cons rfl (fun K hK=>?_) AllReady.nil
  go_simp
  go_wp2_with (first | (go_at_call 155;refine (HM.out _).mono ?_;rintro e w4 ⟨rfl,hb1⟩;have z0:=HKC.out _ _ _ _ hb1 x0;have z1:=HKC.out _ _ _ _ hb1 x1;have z2:=HKC.out _ _ _ _ hb1 x2))
  try (refine hK _ _ ?_;clear hK K)
  refine wpAny_ready (rs:=[2]) (by kernel_rfl) (by simp) ?_
  refine AllReady.cons rfl (fun K hK=>?_) AllReady.nil
  go_simp
  try (refine hK _ _ ?_;clear hK K)
  refine wpAny_take (i:=3) (v:=undef) rfl (by kernel_rfl) (by kernel_rfl) (by kernel_rfl) (fun _ _ _ h=>h) (Or.inr ⟨by rfl,rfl⟩) ?_
  refine wpAny_take (i:=4) (v:=undef) rfl (by kernel_rfl) (by kernel_rfl) (by kernel_rfl) (fun _ _ _ h=>h) (Or.inr ⟨by rfl,rfl⟩) ?_
  refine wpAny_take (i:=5) (v:=undef) rfl (by kernel_rfl) (by kernel_rfl) (by kernel_rfl) (fun _ _ _ h=>h) (Or.inr ⟨by rfl,rfl⟩) ?_
  refine wpAny_ready (rs:=[6]) (by kernel_rfl) (by simp) ?_
  refine AllReady.cons rfl (fun K hK=>?_) AllReady.nil
  go_simp
  try (refine hK _ _ ?_;clear hK K)
  refine wpAny_ready (rs:=[7]) (by kernel_rfl) (by simp) ?_
  refine AllReady.cons rfl (fun K hK=>?_) AllReady.nil
  go_simp
  try (refine hK _ _ ?_;clear hK K)
  refine wpAny_take (i:=8) (v:=undef) rfl (by kernel_rfl) (by kernel_rfl) (by kernel_rfl) (fun _ _ _ h=>h) (Or.inr ⟨by rfl,rfl⟩) ?_
  refine wpAny_take (i:=9) (v:=undef) rfl (by kernel_rfl) (by kernel_rfl) (by kernel_rfl) (fun _ _ _ h=>h) (Or.inr ⟨by rfl,rfl⟩) ?_
  refine wpAny_take (i:=10) (v:=undef) rfl (by kernel_rfl) (by kernel_rfl) (by kernel_rfl) (fun _ _ _ h=>h) (Or.inr ⟨by rfl,rfl⟩) ?_
  refine wpAny_take (i:=11) (v:=undef) rfl (by kernel_rfl) (by kernel_rfl) (by kernel_rfl) (fun _ _ _ h=>h) (Or.inr ⟨by rfl,rfl⟩) ?_
  refine wpAny_take (i:=12) (v:=undef) rfl (by kernel_rfl) (by kernel_rfl) (by kernel_rfl) (fun _ _ _ h=>h) (Or.inr ⟨by rfl,rfl⟩) ?_
  refine wpAny_take (i:=13) (v:=undef) rfl (by kernel_rfl) (by kernel_rfl) (by kernel_rfl) (fun _ _ _ h=>h) (Or.inr ⟨by rfl,rfl⟩) ?_
  refine wpAny_take (i:=14) (v:=undef) rfl (by kernel_rfl) (by kernel_rfl) (by kernel_rfl) (fun _ _ _ h=>h) (Or.inr ⟨by rfl,rfl⟩) ?_
  refine wpAny_take (i:=15) (v:=undef) rfl (by kernel_rfl) (by kernel_rfl) (by kernel_rfl) (fun _ _ _ h=>h) (Or.inr ⟨by rfl,rfl⟩) ?_
  refine wpAny_ready (rs:=[16]) (by kernel_rfl) (by simp) ?_
  refine AllReady.cons rfl (fun K hK=>?_) AllReady.nil
  go_simp
  try (refine hK _ _ ?_;clear hK K)
  refine wpAny_ready (rs:=[17]) (by kernel_rfl) (by simp) ?_
  refine AllReady.cons rfl (fun K hK=>?_) AllReady.nil
  go_simp
  try (refine hK _ _ ?_;clear hK K)
  refine wpAny_done (by kernel_rfl) ?_ _
  all_goals
   go_wp2_with fail
   go_ret
   exact ⟨by rw [HF.out];try rfl,below_next (HB.out.trans ((Below.refl _ X).drew.mono HB.out.size)) hb1⟩
 ·by_cases hd1:1≤d
  ·have d1:decide (1≤d)=true:=decide_eq_true hd1
   by_cases hd2:d≤Sx.calLen y m
   ·have d2:decide (d≤Sx.calLen y m)=true:=decide_eq_true hd2
    clear hd2
    have HF:=Lib.hid (show Sx.calOk y m d=true by unfold Sx.calOk;rw [hm,d1,d2];rfl)
    rw [hm] at HM
    have HLN:=Lib.hid (fun w1=>length_calls y m (Sx.hasMonth_in hm).1 (Sx.hasMonth_in hm).2 w1)
    clear hm hd1
    go_enter Tryz.func141,Tryz.ntmps141
    go_upto_region 1 with (fail)
    obtain ⟨X,hX⟩:∃ X,w.alloc (Obj.cells #[.int .i64 y,.int .i64 m,.int .i64 d] 202)=X:=⟨_,rfl⟩
    have hb:X.heap[w.heap.size]?=some (.cells #[.int .i64 y,.int .i64 m,.int .i64 d] 202 (0,0)):=by rw [← hX];exact heap_alloc_new w _
    have HB:=Lib.hid (show Below w.heap.size w X by rw [← hX];exact (Below.refl _ w).alloc (Nat.le_refl _) _)
    have x0:X.cell? ⟨w.heap.size,0,none⟩=some (.int .i64 y):=blk_cell hb 0 rfl
    have x1:X.cell? ⟨w.heap.size,1,none⟩=some (.int .i64 m):=blk_cell hb 1 rfl
    have x2:X.cell? ⟨w.heap.size,2,none⟩=some (.int .i64 d):=blk_cell hb 2 rfl
    try rw [hX]
    clear hX hb
    have kc:∀ (W W2:World) (j:Nat) (v:Value),Below W.heap.size W W2→W.cell? ⟨w.heap.size,j,none⟩=some v→W2.cell? ⟨w.heap.size,j,none⟩=some v:=fun W W2 j v hb h=>keep_cell h hb
    have HKC:=Lib.hid kc
    clear kc
    go_region_with (first | (go_at_call 155;refine (HM.out _).mono ?_;rintro e w4 ⟨rfl,hb1⟩;have z0:=HKC.out _ _ _ _ hb1 x0;have z1:=HKC.out _ _ _ _ hb1 x1;have z2:=HKC.out _ _ _ _ hb1 x2) | (go_at_call 156;refine (HLN.out _).mono ?_;rintro e w5 ⟨rfl,hb2⟩;have v0:=HKC.out _ _ _ _ hb2 z0;have v2:=HKC.out _ _ _ _ hb2 z2))
    all_goals
     go_wp2_with fail
     go_ret
     exact ⟨by rw [HF.out];try rfl,below_next (below_next (HB.out.trans ((Below.refl _ X).drew.mono HB.out.size)) hb1) hb2⟩
   ·have d2:decide (d≤Sx.calLen y m)=false:=decide_eq_false hd2
    clear hd2
    have HF:=Lib.hid (show Sx.calOk y m d=false by unfold Sx.calOk;rw [hm,d1,d2];rfl)
    rw [hm] at HM
    have HLN:=Lib.hid (fun w1=>length_calls y m (Sx.hasMonth_in hm).1 (Sx.hasMonth_in hm).2 w1)
    clear hm hd1
    go_enter Tryz.func141,Tryz.ntmps141
    go_upto_region 1 with (fail)
    obtain ⟨X,hX⟩:∃ X,w.alloc (Obj.cells #[.int .i64 y,.int .i64 m,.int .i64 d] 202)=X:=⟨_,rfl⟩
    have hb:X.heap[w.heap.size]?=some (.cells #[.int .i64 y,.int .i64 m,.int .i64 d] 202 (0,0)):=by rw [← hX];exact heap_alloc_new w _
    have HB:=Lib.hid (show Below w.heap.size w X by rw [← hX];exact (Below.refl _ w).alloc (Nat.le_refl _) _)
    have x0:X.cell? ⟨w.heap.size,0,none⟩=some (.int .i64 y):=blk_cell hb 0 rfl
    have x1:X.cell? ⟨w.heap.size,1,none⟩=some (.int .i64 m):=blk_cell hb 1 rfl
    have x2:X.cell? ⟨w.heap.size,2,none⟩=some (.int .i64 d):=blk_cell hb 2 rfl
    try rw [hX]
    clear hX hb
    have kc:∀ (W W2:World) (j:Nat) (v:Value),Below W.heap.size W W2→W.cell? ⟨w.heap.size,j,none⟩=some v→W2.cell? ⟨w.heap.size,j,none⟩=some v:=fun W W2 j v hb h=>keep_cell h hb
    have HKC:=Lib.hid kc
    clear kc
    go_region_with (first | (go_at_call 155;refine (HM.out _).mono ?_;rintro e w4 ⟨rfl,hb1⟩;have z0:=HKC.out _ _ _ _ hb1 x0;have z1:=HKC.out _ _ _ _ hb1 x1;have z2:=HKC.out _ _ _ _ hb1 x2) | (go_at_call 156;refine (HLN.out _).mono ?_;rintro e w5 ⟨rfl,hb2⟩;have v0:=HKC.out _ _ _ _ hb2 z0;have v2:=HKC.out _ _ _ _ hb2 z2))
    all_goals
     go_wp2_with fail
     go_ret
     exact ⟨by rw [HF.out];try rfl,below_next (below_next (HB.out.trans ((Below.refl _ X).drew.mono HB.out.size)) hb1) hb2⟩
  ·have d1:decide (1≤d)=false:=decide_eq_false hd1
   have HF:=Lib.hid (show Sx.calOk y m d=false by unfold Sx.calOk;rw [hm,d1];rfl)
   rw [hm] at HM
   clear hm hd1
   go_enter Tryz.func141,Tryz.ntmps141
   go_upto_region 1 with (fail)
   obtain ⟨X,hX⟩:∃ X,w.alloc (Obj.cells #[.int .i64 y,.int .i64 m,.int .i64 d] 202)=X:=⟨_,rfl⟩
   have hb:X.heap[w.heap.size]?=some (.cells #[.int .i64 y,.int .i64 m,.int .i64 d] 202 (0,0)):=by rw [← hX];exact heap_alloc_new w _
   have HB:=Lib.hid (show Below w.heap.size w X by rw [← hX];exact (Below.refl _ w).alloc (Nat.le_refl _) _)
   have x0:X.cell? ⟨w.heap.size,0,none⟩=some (.int .i64 y):=blk_cell hb 0 rfl
   have x1:X.cell? ⟨w.heap.size,1,none⟩=some (.int .i64 m):=blk_cell hb 1 rfl
   have x2:X.cell? ⟨w.heap.size,2,none⟩=some (.int .i64 d):=blk_cell hb 2 rfl
   try rw [hX]
   clear hX hb
   have kc:∀ (W W2:World) (j:Nat) (v:Value),Below W.heap.size W W2→W.cell? ⟨w.heap.size,j,none⟩=some v→W2.cell? ⟨w.heap.size,j,none⟩=some v:=fun W W2 j v hb h=>keep_cell h hb
   have HKC:=Lib.hid kc
   clear kc
   refine wp_region_any (by kernel_rfl) ?_
   try (change wpAny _ _ _ _ _ _ _ (World.drew _))
   refine wpAny_ready (rs:=[0]) (by kernel_rfl) (by simp) ?_
   refine AllReady.cons rfl (fun K hK=>?_) AllReady.nil
   go_simp
   try (refine hK _ _ ?_;clear hK K)
   refine wpAny_ready (rs:=[1]) (by kernel_rfl) (by simp) ?_
   refine AllReady.cons rfl (fun K hK=>?_) AllReady.nil
   go_simp
   go_wp2_with (first | (go_at_call 155;refine (HM.out _).mono ?_;rintro e w4 ⟨rfl,hb1⟩;have z0:=HKC.out _ _ _ _ hb1 x0;have z1:=HKC.out _ _ _ _ hb1 x1;have z2:=HKC.out _ _ _ _ hb1 x2))
   try (refine hK _ _ ?_;clear hK K)
   refine wpAny_ready (rs:=[2]) (by kernel_rfl) (by simp) ?_
   refine AllReady.cons rfl (fun K hK=>?_) AllReady.nil
   go_simp
   try (refine hK _ _ ?_;clear hK K)
   refine wpAny_ready (rs:=[3]) (by kernel_rfl) (by simp) ?_
   refine AllReady.cons rfl (fun K hK=>?_) AllReady.nil
   go_simp
   try (refine hK _ _ ?_;clear hK K)
   refine wpAny_ready (rs:=[4]) (by kernel_rfl) (by simp) ?_
   refine AllReady.cons rfl (fun K hK=>?_) AllReady.nil
   go_simp
   try (refine hK _ _ ?_;clear hK K)
   refine wpAny_ready (rs:=[5]) (by kernel_rfl) (by simp) ?_
   refine AllReady.cons rfl (fun K hK=>?_) AllReady.nil
   go_simp
   try (refine hK _ _ ?_;clear hK K)
   refine wpAny_ready (rs:=[6]) (by kernel_rfl) (by simp) ?_
   refine AllReady.cons rfl (fun K hK=>?_) AllReady.nil
   go_simp
   try (refine hK _ _ ?_;clear hK K)
   refine wpAny_ready (rs:=[7]) (by kernel_rfl) (by simp) ?_
   refine AllReady.cons rfl (fun K hK=>?_) AllReady.nil
   go_simp
   try (refine hK _ _ ?_;clear hK K)
   refine wpAny_take (i:=8) (v:=undef) rfl (by kernel_rfl) (by kernel_rfl) (by kernel_rfl) (fun _ _ _ h=>h) (Or.inr ⟨by rfl,rfl⟩) ?_
   refine wpAny_take (i:=9) (v:=undef) rfl (by kernel_rfl) (by kernel_rfl) (by kernel_rfl) (fun _ _ _ h=>h) (Or.inr ⟨by rfl,rfl⟩) ?_
   refine wpAny_take (i:=10) (v:=undef) rfl (by kernel_rfl) (by kernel_rfl) (by kernel_rfl) (fun _ _ _ h=>h) (Or.inr ⟨by rfl,rfl⟩) ?_
   refine wpAny_take (i:=11) (v:=undef) rfl (by kernel_rfl) (by kernel_rfl) (by kernel_rfl) (fun _ _ _ h=>h) (Or.inr ⟨by rfl,rfl⟩) ?_
   refine wpAny_take (i:=12) (v:=undef) rfl (by kernel_rfl) (by kernel_rfl) (by kernel_rfl) (fun _ _ _ h=>h) (Or.inr ⟨by rfl,rfl⟩) ?_
   refine wpAny_take (i:=13) (v:=undef) rfl (by kernel_rfl) (by kernel_rfl) (by kernel_rfl) (fun _ _ _ h=>h) (Or.inr ⟨by rfl,rfl⟩) ?_
   refine wpAny_take (i:=14) (v:=undef) rfl (by kernel_rfl) (by kernel_rfl) (by kernel_rfl) (fun _ _ _ h=>h) (Or.inr ⟨by rfl,rfl⟩) ?_
   refine wpAny_take (i:=15) (v:=undef) rfl (by kernel_rfl) (by kernel_rfl) (by kernel_rfl) (fun _ _ _ h=>h) (Or.inr ⟨by rfl,rfl⟩) ?_
   refine wpAny_ready (rs:=[16]) (by kernel_rfl) (by simp) ?_
   refine AllReady.cons rfl (fun K hK=>?_) AllReady.nil
   go_simp
   try (refine hK _ _ ?_;clear hK K)
   refine wpAny_ready (rs:=[17]) (by kernel_rfl) (by simp) ?_
   refine AllReady.cons rfl (fun K hK=>?_) AllReady.nil
   go_simp
   try (refine hK _ _ ?_;clear hK K)
   refine wpAny_done (by kernel_rfl) ?_ _
   all_goals
    go_wp2_with fail
    go_ret
    exact ⟨by rw [HF.out];try rfl,below_next (HB.out.trans ((Below.refl _ X).drew.mono HB.out.size)) hb1⟩
end Go.Proofs.YtcakgennlliejaaGreatDoor
