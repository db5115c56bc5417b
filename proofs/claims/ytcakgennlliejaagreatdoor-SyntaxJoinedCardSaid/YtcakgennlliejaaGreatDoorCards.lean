/-
  DERIVED. GIVEN WITH THE SEED: THE CARDS: each row of YtcakgennlliejaaGreatDoorRows.lean that lists a variable, with what it lists TIED to the program's text (the seventh form; the later family's looks); each row that meets fmt, with fmt's text TOLD by the authors' own Lean function (tested against real Go, not proved from fmt's source: count such statements apart). THE CARD IS WHAT COUNTS. Prove the row's statement (the work); the ties are given (YtcakgennlliejaaGreatDoorTie.lean); close each card by the builder's one call (the guide's Derived/Test/ToyasCard.lean, 'card_holds'). Laid BY PROGRAM, IN A SANDBOX (cutbox-door.mjs). By AI agents, Wed Nov 11 2026. No macro, syntax, notation, axiom, sorry.
-/
import Derived.Test.YtcakgennlliejaaGreatDoorRows
import GoSem.ClaimSeven
namespace Go.Proofs.YtcakgennlliejaaGreatDoor
namespace Rows

/-- THE TIED CARD OF 'lexpriorlaw05.SyntaxRefuses'. -/
def syntaxRefusesCard : Claim7 := { stood := { row := syntaxRefusesRow, standIns := [], harness := (true, "551cae1c8e2a02ea1e6e5ace4ff92a34d140c0d61a1676524a3d45e826db96a5"), looks := true }, kinds := [], alts := [], laidByText := true, laidKinds := [.data, .data, .data, .data, .sentinel, .sentinel, .pinned], laidTests := true, laidLooks := .later }
def SyntaxRefusesCardSaid : Prop := Claim7.holds Tryz.pinned (.plain (OpenSpec.ofChange syntaxRefusesSpec)) syntaxRefusesCard

/-- THE TIED CARD OF 'lexpriorlaw05.SyntaxSpaced'. -/
def syntaxSpacedCard : Claim7 := { stood := { row := syntaxSpacedRow, standIns := [], harness := (true, "551cae1c8e2a02ea1e6e5ace4ff92a34d140c0d61a1676524a3d45e826db96a5"), looks := true }, kinds := [], alts := [], laidByText := true, laidKinds := [.data, .data, .data, .data, .sentinel, .sentinel, .pinned], laidTests := true, laidLooks := .later }
def SyntaxSpacedCardSaid : Prop := Claim7.holds Tryz.pinned (.plain (OpenSpec.ofChange syntaxSpacedSpec)) syntaxSpacedCard

/-- THE TIED CARD OF 'lexpriorlaw05.SyntaxJoined'. -/
def syntaxJoinedCard : Claim7 := { stood := { row := syntaxJoinedRow, standIns := [], harness := (true, "551cae1c8e2a02ea1e6e5ace4ff92a34d140c0d61a1676524a3d45e826db96a5"), looks := true }, kinds := [], alts := [], laidByText := true, laidKinds := [.data, .data, .data, .data, .sentinel, .sentinel, .pinned], laidTests := true, laidLooks := .later }
def SyntaxJoinedCardSaid : Prop := Claim7.holds Tryz.pinned (.plain (OpenSpec.ofChange syntaxJoinedSpec)) syntaxJoinedCard

/-- THE TIED CARD OF 'lexpriorlaw05.SyntaxOwn'. -/
def syntaxOwnCard : Claim7 := { stood := { row := syntaxOwnRow, standIns := [], harness := (true, "551cae1c8e2a02ea1e6e5ace4ff92a34d140c0d61a1676524a3d45e826db96a5"), looks := true }, kinds := [], alts := [], laidByText := true, laidKinds := [.data, .data, .data, .data, .sentinel, .sentinel, .pinned], laidTests := true, laidLooks := .later }
def SyntaxOwnCardSaid : Prop := Claim7.holds Tryz.pinned (.plain (OpenSpec.ofChange syntaxOwnSpec)) syntaxOwnCard

/-- THE SECOND FORM's CARD OF 'lexpriorlaw05.SyntaxRefuses'. -/
def syntaxRefusesUptoCard : Claim7 := { stood := { row := syntaxRefusesUptoRow, standIns := [], harness := (true, "551cae1c8e2a02ea1e6e5ace4ff92a34d140c0d61a1676524a3d45e826db96a5"), looks := true }, kinds := [], alts := [], laidByText := true, laidKinds := [.data, .data, .data, .data, .sentinel, .sentinel, .pinned], laidTests := true, laidLooks := .later }
def SyntaxRefusesUptoCardSaid : Prop := Claim7.holds Tryz.pinned (.plain (OpenSpec.upto syntaxRefusesSpec)) syntaxRefusesUptoCard

/-- THE SECOND FORM's CARD OF 'lexpriorlaw05.SyntaxSpaced'. -/
def syntaxSpacedUptoCard : Claim7 := { stood := { row := syntaxSpacedUptoRow, standIns := [], harness := (true, "551cae1c8e2a02ea1e6e5ace4ff92a34d140c0d61a1676524a3d45e826db96a5"), looks := true }, kinds := [], alts := [], laidByText := true, laidKinds := [.data, .data, .data, .data, .sentinel, .sentinel, .pinned], laidTests := true, laidLooks := .later }
def SyntaxSpacedUptoCardSaid : Prop := Claim7.holds Tryz.pinned (.plain (OpenSpec.upto syntaxSpacedSpec)) syntaxSpacedUptoCard

/-- THE SECOND FORM's CARD OF 'lexpriorlaw05.SyntaxJoined'. -/
def syntaxJoinedUptoCard : Claim7 := { stood := { row := syntaxJoinedUptoRow, standIns := [], harness := (true, "551cae1c8e2a02ea1e6e5ace4ff92a34d140c0d61a1676524a3d45e826db96a5"), looks := true }, kinds := [], alts := [], laidByText := true, laidKinds := [.data, .data, .data, .data, .sentinel, .sentinel, .pinned], laidTests := true, laidLooks := .later }
def SyntaxJoinedUptoCardSaid : Prop := Claim7.holds Tryz.pinned (.plain (OpenSpec.upto syntaxJoinedSpec)) syntaxJoinedUptoCard

/-- THE SECOND FORM's CARD OF 'lexpriorlaw05.SyntaxOwn'. -/
def syntaxOwnUptoCard : Claim7 := { stood := { row := syntaxOwnUptoRow, standIns := [], harness := (true, "551cae1c8e2a02ea1e6e5ace4ff92a34d140c0d61a1676524a3d45e826db96a5"), looks := true }, kinds := [], alts := [], laidByText := true, laidKinds := [.data, .data, .data, .data, .sentinel, .sentinel, .pinned], laidTests := true, laidLooks := .later }
def SyntaxOwnUptoCardSaid : Prop := Claim7.holds Tryz.pinned (.plain (OpenSpec.upto syntaxOwnSpec)) syntaxOwnUptoCard
end Rows
end Go.Proofs.YtcakgennlliejaaGreatDoor
