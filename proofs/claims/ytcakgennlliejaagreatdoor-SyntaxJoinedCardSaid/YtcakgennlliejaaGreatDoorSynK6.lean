import Derived.Deep.RegionHeld3
import Derived.Test.YtcakgennlliejaaGreatDoorSynK5
set_option maxHeartbeats 8000000
set_option maxRecDepth 100000
namespace Go.Proofs.YtcakgennlliejaaGreatDoor
open Go.Shelf Go.RowKit Go.Lib
open Go.Proofs.YtcakgennlliejaaGreatDoorW.PrintWords
open Go.Proofs.YtcakgennlliejaaGreatDoor.PSyntaxJoined
set_option linter.unusedVariables false
set_option linter.unusedSimpArgs false
def Sx.leap (y:Int):Bool:=if (Int.tmod y 4)=0 then (if (Int.tmod y 100)=0 then ((Int.tmod y 400)==0) else true) else false
theorem leap_calls (y:Int) (w:World):Calls Tryz.prog 164 #[.int .i64 y] w fun e w'=>e=.returned (.bool (Sx.leap y))∧Below w.heap.size w w' :=
 (calendar_leap.calls y (Sx.leap y) w (by unfold calendar_leap.f Sx.leap;repeat (first | rfl | split))).mono fun e w' h=>⟨h.1,by obtain ⟨n,rfl⟩:=h.2.out;exact below_drewn (Below.refl _ _) n⟩
def Sx.calLen (y m:Int):Int:=if m==2&&Sx.leap y then 29 else [31,28,31,30,31,30,31,31,30,31,30,31].getD (m.toNat-1) 0
theorem length_calls (y m:Int) (h1:1≤m) (h2:m≤12) (w:World):Calls Tryz.prog 156 #[.int .i64 y,.int .i64 m] w fun e w'=>e=.returned (.int .i64 (Sx.calLen y m))∧Below w.heap.size w w':=by
 obtain ⟨W,hW⟩:∃ W,w.alloc (Obj.cells #[.int .i64 31,.int .i64 28,.int .i64 31,.int .i64 30,.int .i64 31,.int .i64 30,.int .i64 31,.int .i64 31,.int .i64 30,.int .i64 31,.int .i64 30,.int .i64 31] 227)=W:=⟨_,rfl⟩
 have hb:W.heap[w.heap.size]?=some (.cells #[.int .i64 31,.int .i64 28,.int .i64 31,.int .i64 30,.int .i64 31,.int .i64 30,.int .i64 31,.int .i64 31,.int .i64 30,.int .i64 31,.int .i64 30,.int .i64 31] 227 (0,0)):=by rw [← hW];exact heap_alloc_new w _
 have HB:=Lib.hid (show Below w.heap.size w W by rw [← hW];exact (Below.refl _ w).alloc (Nat.le_refl _) _)
 have x0:W.cell? ⟨w.heap.size,0,none⟩=some (.int .i64 31):=blk_cell hb 0 rfl
 have x1:W.cell? ⟨w.heap.size,1,none⟩=some (.int .i64 28):=blk_cell hb 1 rfl
 have x2:W.cell? ⟨w.heap.size,2,none⟩=some (.int .i64 31):=blk_cell hb 2 rfl
 have x3:W.cell? ⟨w.heap.size,3,none⟩=some (.int .i64 30):=blk_cell hb 3 rfl
 have x4:W.cell? ⟨w.heap.size,4,none⟩=some (.int .i64 31):=blk_cell hb 4 rfl
 have x5:W.cell? ⟨w.heap.size,5,none⟩=some (.int .i64 30):=blk_cell hb 5 rfl
 have x6:W.cell? ⟨w.heap.size,6,none⟩=some (.int .i64 31):=blk_cell hb 6 rfl
 have x7:W.cell? ⟨w.heap.size,7,none⟩=some (.int .i64 31):=blk_cell hb 7 rfl
 have x8:W.cell? ⟨w.heap.size,8,none⟩=some (.int .i64 30):=blk_cell hb 8 rfl
 have x9:W.cell? ⟨w.heap.size,9,none⟩=some (.int .i64 31):=blk_cell hb 9 rfl
 have x10:W.cell? ⟨w.heap.size,10,none⟩=some (.int .i64 30):=blk_cell hb 10 rfl
 have x11:W.cell? ⟨w.heap.size,11,none⟩=some (.int .i64 31):=blk_cell hb 11 rfl
 have HC:=Lib.hid (leap_calls y W)
 have:m=1∨m=2∨m=3∨m=4∨m=5∨m=6∨m=7∨m=8∨m=9∨m=10∨m=11∨m=12:=by omega
 clear hb h1 h2
 rcases this with rfl | rfl | rfl | rfl | rfl | rfl | rfl | rfl | rfl | rfl | rfl | rfl
 rotate_left
 ·cases hl:Sx.leap y
  all_goals
   rw [hl] at HC
   have HF:=Lib.hid (show Sx.calLen y 2=if Sx.leap y then 29 else 28 from by unfold Sx.calLen;cases Sx.leap y <;> rfl)
   rw [hl] at HF
   clear hl
   go_enter Tryz.func156,Tryz.ntmps156
   go_upto_region 2 with (fail)
   try rw [hW]
   clear hW
   go_wp2_with (first | (go_at_call 164;refine HC.out.mono ?_;rintro e w2 ⟨rfl,hb2⟩;have x1:=keep_cell x1 hb2))
   go_ret
   exact ⟨by rw [HF.out];rfl,below_next HB.out hb2⟩
 all_goals
  go_enter Tryz.func156,Tryz.ntmps156
  go_upto_region 2 with (fail)
  try rw [hW]
  clear hW
  go_wp2_with fail
  go_ret
  exact ⟨rfl,HB.out⟩
end Go.Proofs.YtcakgennlliejaaGreatDoor
namespace Go.Proofs.YtcakgennlliejaaGreatDoor
open Go.Shelf Go.RowKit Go.Lib
open Go.Proofs.YtcakgennlliejaaGreatDoorW.PrintWords
open Go.Proofs.YtcakgennlliejaaGreatDoor.PSyntaxJoined
set_option linter.unusedVariables false
set_option linter.unusedSimpArgs false
def Sx.hasMonth (y m:Int):Bool:=if y ≥ 1 then (if y≤9999 then (if m ≥ 1 then decide (m≤12) else false) else false) else false
theorem hasMonth_calls (y m d:Int) (w:World):Calls Tryz.prog 155 #[.agg #[.int .i64 y,.int .i64 m,.int .i64 d]] w fun e w'=>e=.returned (.bool (Sx.hasMonth y m))∧Below w.heap.size w w' :=
 calendar_civil_hasMonth.calls y m d (Sx.hasMonth y m) w (by unfold calendar_civil_hasMonth.f Sx.hasMonth;repeat (first | rfl | split))
end Go.Proofs.YtcakgennlliejaaGreatDoor
