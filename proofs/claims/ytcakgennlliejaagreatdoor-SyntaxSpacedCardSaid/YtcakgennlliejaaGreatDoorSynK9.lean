import Derived.Deep.RegionHeld3
import Derived.Test.YtcakgennlliejaaGreatDoorSynK8
/- calendar: hasMonth (ok is to follow) -/
namespace Go.Proofs.YtcakgennlliejaaGreatDoor
open Go.Shelf Go.RowKit Go.Lib
open Go.Proofs.YtcakgennlliejaaGreatDoorW.PrintWords
open Go.Proofs.YtcakgennlliejaaGreatDoor.PSyntaxJoined
set_option linter.unusedVariables false
set_option linter.unusedSimpArgs false
def Sx.hasMonth (y m : Int) : Bool := if y ≥ 1 then (if y ≤ 9999 then (if m ≥ 1 then decide (m ≤ 12) else false) else false) else false
theorem hasMonth_calls (y m d : Int) (w : World) : Calls Tryz.prog 155 #[.agg #[.int .i64 y, .int .i64 m, .int .i64 d]] w fun e w' => e = .returned (.bool (Sx.hasMonth y m)) ∧ Below w.heap.size w w' :=
  calendar_civil_hasMonth.calls y m d (Sx.hasMonth y m) w (by unfold calendar_civil_hasMonth.f Sx.hasMonth; repeat (first | rfl | split))
end Go.Proofs.YtcakgennlliejaaGreatDoor
