/-
  DERIVED. GIVEN WITH THE SEED: THE CARDS: each row of YtgkliaalfiginaaGreatDoorRows.lean that lists a variable, with what it lists TIED to the program's text (the seventh form; the later family's looks); each row that meets fmt, with fmt's text TOLD by the authors' own Lean function (tested against real Go, not proved from fmt's source: count such statements apart). THE CARD IS WHAT COUNTS. Prove the row's statement (the work); the ties are given (YtgkliaalfiginaaGreatDoorTie.lean); close each card by the builder's one call (the guide's Derived/Test/ToyasCard.lean, 'card_holds'). Laid BY PROGRAM, IN A SANDBOX (cutbox-door.mjs). By AI agents, Wed Nov 11 2026. No macro, syntax, notation, axiom, sorry.
-/
import Derived.Test.YtgkliaalfiginaaGreatDoorRows
import GoSem.ClaimSeven
namespace Go.Proofs.YtgkliaalfiginaaGreatDoor
namespace Rows

/-- THE TIED CARD OF 'lexpriorlaw02.MoneyOwn'. -/
def moneyOwnCard : Claim7 := { stood := { row := moneyOwnRow, standIns := [], harness := (true, "769912cdeffd41a6878b1c964ea376c4b286c6fb78e33e0dbcc0c51fc9cf57da"), looks := true }, kinds := [], alts := [], laidByText := true, laidKinds := [.data, .data, .data, .data, .sentinel, .sentinel, .pinned], laidTests := true, laidLooks := .later }
def MoneyOwnCardSaid : Prop := Claim7.holds Tryz.pinned (.plain (OpenSpec.ofChange moneyOwnSpec)) moneyOwnCard

/-- THE SECOND FORM's CARD OF 'lexpriorlaw02.MoneyOwn'. -/
def moneyOwnUptoCard : Claim7 := { stood := { row := moneyOwnUptoRow, standIns := [], harness := (true, "769912cdeffd41a6878b1c964ea376c4b286c6fb78e33e0dbcc0c51fc9cf57da"), looks := true }, kinds := [], alts := [], laidByText := true, laidKinds := [.data, .data, .data, .data, .sentinel, .sentinel, .pinned], laidTests := true, laidLooks := .later }
def MoneyOwnUptoCardSaid : Prop := Claim7.holds Tryz.pinned (.plain (OpenSpec.upto moneyOwnSpec)) moneyOwnUptoCard
end Rows
end Go.Proofs.YtgkliaalfiginaaGreatDoor
