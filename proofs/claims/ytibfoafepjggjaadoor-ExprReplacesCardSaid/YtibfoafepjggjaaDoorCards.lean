/-
  DERIVED. GIVEN WITH THE SEED: THE CARDS: each row of YtibfoafepjggjaaDoorRows.lean that lists a variable, with what it lists TIED to the program's text (the seventh form; the later family's looks); each row that meets fmt, with fmt's text TOLD by the authors' own Lean function (tested against real Go, not proved from fmt's source: count such statements apart). THE CARD IS WHAT COUNTS. Prove the row's statement (the work); the ties are given (YtibfoafepjggjaaDoorTie.lean); close each card by the builder's one call (the guide's Derived/Test/ToyasCard.lean, 'card_holds'). Laid BY PROGRAM, IN A SANDBOX (cutbox-door.mjs). By AI agents, Wed Nov 11 2026. No macro, syntax, notation, axiom, sorry.
-/
import Derived.Test.YtibfoafepjggjaaDoorRows
import GoSem.ClaimSeven
namespace Go.Proofs.YtibfoafepjggjaaDoor
namespace Rows

/-- THE TIED CARD OF 'testbenchlaw08.ExprShapes'. -/
def exprShapesCard : Claim7 := { stood := { row := exprShapesRow, standIns := [], harness := (true, "d2c882eae8bea0f885dd5307b9f42f2822a31a86400966ce6a351caeca78f80e"), looks := false }, kinds := [], alts := [], laidByText := true, laidKinds := [.widerDeep], laidTests := true, laidLooks := .later }
def ExprShapesCardSaid : Prop := Claim7.holds Tryd.pinned (.plain (OpenSpec.ofChange exprShapesSpec)) exprShapesCard

/-- THE TIED CARD OF 'testbenchlaw08.ExprChecks'. -/
def exprChecksCard : Claim7 := { stood := { row := exprChecksRow, standIns := [], harness := (true, "d2c882eae8bea0f885dd5307b9f42f2822a31a86400966ce6a351caeca78f80e"), looks := false }, kinds := [], alts := [], laidByText := true, laidKinds := [.widerDeep], laidTests := true, laidLooks := .later }
def ExprChecksCardSaid : Prop := Claim7.holds Tryd.pinned (.plain (OpenSpec.ofChange exprChecksSpec)) exprChecksCard

/-- THE TIED CARD OF 'testbenchlaw08.ExprKnows'. -/
def exprKnowsCard : Claim7 := { stood := { row := exprKnowsRow, standIns := [], harness := (true, "d2c882eae8bea0f885dd5307b9f42f2822a31a86400966ce6a351caeca78f80e"), looks := false }, kinds := [], alts := [], laidByText := true, laidKinds := [.widerDeep], laidTests := true, laidLooks := .later }
def ExprKnowsCardSaid : Prop := Claim7.holds Tryd.pinned (.plain (OpenSpec.ofChange exprKnowsSpec)) exprKnowsCard

/-- THE TIED CARD OF 'testbenchlaw08.ExprReplaces'. -/
def exprReplacesCard : Claim7 := { stood := { row := exprReplacesRow, standIns := [], harness := (true, "d2c882eae8bea0f885dd5307b9f42f2822a31a86400966ce6a351caeca78f80e"), looks := false }, kinds := [], alts := [], laidByText := true, laidKinds := [.widerDeep], laidTests := true, laidLooks := .later }
def ExprReplacesCardSaid : Prop := Claim7.holds Tryd.pinned (.plain (OpenSpec.ofChange exprReplacesSpec)) exprReplacesCard

/-- THE TIED CARD OF 'testbenchlaw08.ExprSame'. -/
def exprSameCard : Claim7 := { stood := { row := exprSameRow, standIns := [], harness := (true, "d2c882eae8bea0f885dd5307b9f42f2822a31a86400966ce6a351caeca78f80e"), looks := false }, kinds := [], alts := [], laidByText := true, laidKinds := [.widerDeep], laidTests := true, laidLooks := .later }
def ExprSameCardSaid : Prop := Claim7.holds Tryd.pinned (.plain (OpenSpec.ofChange exprSameSpec)) exprSameCard

/-- THE TIED CARD OF 'testbenchlaw08.ExprSubsts'. -/
def exprSubstsCard : Claim7 := { stood := { row := exprSubstsRow, standIns := [], harness := (true, "d2c882eae8bea0f885dd5307b9f42f2822a31a86400966ce6a351caeca78f80e"), looks := false }, kinds := [], alts := [], laidByText := true, laidKinds := [.widerDeep], laidTests := true, laidLooks := .later }
def ExprSubstsCardSaid : Prop := Claim7.holds Tryd.pinned (.plain (OpenSpec.ofChange exprSubstsSpec)) exprSubstsCard

/-- THE SECOND FORM's CARD OF 'testbenchlaw08.ExprShapes'. -/
def exprShapesUptoCard : Claim7 := { stood := { row := exprShapesUptoRow, standIns := [], harness := (true, "d2c882eae8bea0f885dd5307b9f42f2822a31a86400966ce6a351caeca78f80e"), looks := false }, kinds := [], alts := [], laidByText := true, laidKinds := [.widerDeep], laidTests := true, laidLooks := .later }
def ExprShapesUptoCardSaid : Prop := Claim7.holds Tryd.pinned (.plain (OpenSpec.upto exprShapesSpec)) exprShapesUptoCard

/-- THE SECOND FORM's CARD OF 'testbenchlaw08.ExprChecks'. -/
def exprChecksUptoCard : Claim7 := { stood := { row := exprChecksUptoRow, standIns := [], harness := (true, "d2c882eae8bea0f885dd5307b9f42f2822a31a86400966ce6a351caeca78f80e"), looks := false }, kinds := [], alts := [], laidByText := true, laidKinds := [.widerDeep], laidTests := true, laidLooks := .later }
def ExprChecksUptoCardSaid : Prop := Claim7.holds Tryd.pinned (.plain (OpenSpec.upto exprChecksSpec)) exprChecksUptoCard

/-- THE SECOND FORM's CARD OF 'testbenchlaw08.ExprKnows'. -/
def exprKnowsUptoCard : Claim7 := { stood := { row := exprKnowsUptoRow, standIns := [], harness := (true, "d2c882eae8bea0f885dd5307b9f42f2822a31a86400966ce6a351caeca78f80e"), looks := false }, kinds := [], alts := [], laidByText := true, laidKinds := [.widerDeep], laidTests := true, laidLooks := .later }
def ExprKnowsUptoCardSaid : Prop := Claim7.holds Tryd.pinned (.plain (OpenSpec.upto exprKnowsSpec)) exprKnowsUptoCard

/-- THE SECOND FORM's CARD OF 'testbenchlaw08.ExprReplaces'. -/
def exprReplacesUptoCard : Claim7 := { stood := { row := exprReplacesUptoRow, standIns := [], harness := (true, "d2c882eae8bea0f885dd5307b9f42f2822a31a86400966ce6a351caeca78f80e"), looks := false }, kinds := [], alts := [], laidByText := true, laidKinds := [.widerDeep], laidTests := true, laidLooks := .later }
def ExprReplacesUptoCardSaid : Prop := Claim7.holds Tryd.pinned (.plain (OpenSpec.upto exprReplacesSpec)) exprReplacesUptoCard

/-- THE SECOND FORM's CARD OF 'testbenchlaw08.ExprSame'. -/
def exprSameUptoCard : Claim7 := { stood := { row := exprSameUptoRow, standIns := [], harness := (true, "d2c882eae8bea0f885dd5307b9f42f2822a31a86400966ce6a351caeca78f80e"), looks := false }, kinds := [], alts := [], laidByText := true, laidKinds := [.widerDeep], laidTests := true, laidLooks := .later }
def ExprSameUptoCardSaid : Prop := Claim7.holds Tryd.pinned (.plain (OpenSpec.upto exprSameSpec)) exprSameUptoCard

/-- THE SECOND FORM's CARD OF 'testbenchlaw08.ExprSubsts'. -/
def exprSubstsUptoCard : Claim7 := { stood := { row := exprSubstsUptoRow, standIns := [], harness := (true, "d2c882eae8bea0f885dd5307b9f42f2822a31a86400966ce6a351caeca78f80e"), looks := false }, kinds := [], alts := [], laidByText := true, laidKinds := [.widerDeep], laidTests := true, laidLooks := .later }
def ExprSubstsUptoCardSaid : Prop := Claim7.holds Tryd.pinned (.plain (OpenSpec.upto exprSubstsSpec)) exprSubstsUptoCard
end Rows
end Go.Proofs.YtibfoafepjggjaaDoor
