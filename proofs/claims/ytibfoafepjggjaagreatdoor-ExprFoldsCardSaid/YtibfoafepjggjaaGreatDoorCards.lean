/-
  DERIVED. GIVEN WITH THE SEED: THE CARDS: each row of YtibfoafepjggjaaGreatDoorRows.lean that lists a variable, with what it lists TIED to the program's text (the seventh form; the later family's looks); each row that meets fmt, with fmt's text TOLD by the authors' own Lean function (tested against real Go, not proved from fmt's source: count such statements apart). THE CARD IS WHAT COUNTS. Prove the row's statement (the work); the ties are given (YtibfoafepjggjaaGreatDoorTie.lean); close each card by the builder's one call (the guide's Derived/Test/ToyasCard.lean, 'card_holds'). Laid BY PROGRAM, IN A SANDBOX (cutbox-door.mjs). By AI agents, Wed Nov 11 2026. No macro, syntax, notation, axiom, sorry.
-/
import Derived.Test.YtibfoafepjggjaaGreatDoorRows
import GoSem.ClaimSeven
namespace Go.Proofs.YtibfoafepjggjaaGreatDoor
namespace Rows

/-- THE TIED CARD OF 'testbenchlaw08.ExprEvals'. -/
def exprEvalsCard : Claim7 := { stood := { row := exprEvalsRow, standIns := [], harness := (true, "81bea0db4d9255b2907d23a73791bebb7bc6ceb7a036bea3085582176357a20e"), looks := false }, kinds := [], alts := [], laidByText := true, laidKinds := [.widerDeep], laidTests := true, laidLooks := .later }
def ExprEvalsCardSaid : Prop := Claim7.holds Tryz.pinned (.plain (OpenSpec.ofChange exprEvalsSpec)) exprEvalsCard

/-- THE TIED CARD OF 'testbenchlaw08.ExprFolds'. -/
def exprFoldsCard : Claim7 := { stood := { row := exprFoldsRow, standIns := [], harness := (true, "81bea0db4d9255b2907d23a73791bebb7bc6ceb7a036bea3085582176357a20e"), looks := false }, kinds := [], alts := [], laidByText := true, laidKinds := [.widerDeep], laidTests := true, laidLooks := .later }
def ExprFoldsCardSaid : Prop := Claim7.holds Tryz.pinned (.plain (OpenSpec.ofChange exprFoldsSpec)) exprFoldsCard

/-- THE SECOND FORM's CARD OF 'testbenchlaw08.ExprEvals'. -/
def exprEvalsUptoCard : Claim7 := { stood := { row := exprEvalsUptoRow, standIns := [], harness := (true, "81bea0db4d9255b2907d23a73791bebb7bc6ceb7a036bea3085582176357a20e"), looks := false }, kinds := [], alts := [], laidByText := true, laidKinds := [.widerDeep], laidTests := true, laidLooks := .later }
def ExprEvalsUptoCardSaid : Prop := Claim7.holds Tryz.pinned (.plain (OpenSpec.upto exprEvalsSpec)) exprEvalsUptoCard

/-- THE SECOND FORM's CARD OF 'testbenchlaw08.ExprFolds'. -/
def exprFoldsUptoCard : Claim7 := { stood := { row := exprFoldsUptoRow, standIns := [], harness := (true, "81bea0db4d9255b2907d23a73791bebb7bc6ceb7a036bea3085582176357a20e"), looks := false }, kinds := [], alts := [], laidByText := true, laidKinds := [.widerDeep], laidTests := true, laidLooks := .later }
def ExprFoldsUptoCardSaid : Prop := Claim7.holds Tryz.pinned (.plain (OpenSpec.upto exprFoldsSpec)) exprFoldsUptoCard
end Rows
end Go.Proofs.YtibfoafepjggjaaGreatDoor
