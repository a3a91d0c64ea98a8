/-
  DERIVED. GIVEN WITH THE SEED: THE CARDS: each row of YteopfpebdalcoaaGreatDoorRows.lean that lists a variable, with what it lists TIED to the program's text (the seventh form; the later family's looks); each row that meets fmt, with fmt's text TOLD by the authors' own Lean function (tested against real Go, not proved from fmt's source: count such statements apart). THE CARD IS WHAT COUNTS. Prove the row's statement (the work); the ties are given (YteopfpebdalcoaaGreatDoorTie.lean); close each card by the builder's one call (the guide's Derived/Test/ToyasCard.lean, 'card_holds'). Laid BY PROGRAM, IN A SANDBOX (cutbox-door.mjs). By AI agents, Wed Nov 11 2026. No macro, syntax, notation, axiom, sorry.
-/
import Derived.Test.YteopfpebdalcoaaGreatDoorRows
import GoSem.ClaimSeven
namespace Go.Proofs.YteopfpebdalcoaaGreatDoor
namespace Rows

/-- THE TIED CARD OF 'testbenchlaw09.ExprtextPrints'. -/
def exprtextPrintsCard : Claim7 := { stood := { row := exprtextPrintsRow, standIns := [], harness := (true, "410aba0f3a5530e2dd17c4747508e4fab4d47ce0821b71f757a3b15eb739b701"), looks := true }, kinds := [], alts := [], laidByText := true, laidKinds := [.data, .data, .data, .sentinel, .sentinel, .widerDeep, .widerDeep], laidTests := true, laidLooks := .later }
def ExprtextPrintsCardSaid : Prop := Claim7.holds Tryz.pinned (.plain (OpenSpec.ofChange exprtextPrintsSpec)) exprtextPrintsCard

/-- THE TIED CARD OF 'testbenchlaw09.ExprtextRoundTrips'. -/
def exprtextRoundTripsCard : Claim7 := { stood := { row := exprtextRoundTripsRow, standIns := [], harness := (true, "410aba0f3a5530e2dd17c4747508e4fab4d47ce0821b71f757a3b15eb739b701"), looks := true }, kinds := [], alts := [], laidByText := true, laidKinds := [.data, .data, .data, .sentinel, .sentinel, .widerDeep, .widerDeep], laidTests := true, laidLooks := .later }
def ExprtextRoundTripsCardSaid : Prop := Claim7.holds Tryz.pinned (.plain (OpenSpec.ofChange exprtextRoundTripsSpec)) exprtextRoundTripsCard

/-- THE TIED CARD OF 'testbenchlaw09.ExprtextCanonical'. -/
def exprtextCanonicalCard : Claim7 := { stood := { row := exprtextCanonicalRow, standIns := [], harness := (true, "410aba0f3a5530e2dd17c4747508e4fab4d47ce0821b71f757a3b15eb739b701"), looks := true }, kinds := [], alts := [], laidByText := true, laidKinds := [.data, .data, .data, .sentinel, .sentinel, .widerDeep, .widerDeep], laidTests := true, laidLooks := .later }
def ExprtextCanonicalCardSaid : Prop := Claim7.holds Tryz.pinned (.plain (OpenSpec.ofChange exprtextCanonicalSpec)) exprtextCanonicalCard

/-- THE TIED CARD OF 'testbenchlaw09.ExprtextLayout'. -/
def exprtextLayoutCard : Claim7 := { stood := { row := exprtextLayoutRow, standIns := [], harness := (true, "410aba0f3a5530e2dd17c4747508e4fab4d47ce0821b71f757a3b15eb739b701"), looks := true }, kinds := [], alts := [], laidByText := true, laidKinds := [.data, .data, .data, .sentinel, .sentinel, .widerDeep, .widerDeep], laidTests := true, laidLooks := .later }
def ExprtextLayoutCardSaid : Prop := Claim7.holds Tryz.pinned (.plain (OpenSpec.ofChange exprtextLayoutSpec)) exprtextLayoutCard

/-- THE SECOND FORM's CARD OF 'testbenchlaw09.ExprtextPrints'. -/
def exprtextPrintsUptoCard : Claim7 := { stood := { row := exprtextPrintsUptoRow, standIns := [], harness := (true, "410aba0f3a5530e2dd17c4747508e4fab4d47ce0821b71f757a3b15eb739b701"), looks := true }, kinds := [], alts := [], laidByText := true, laidKinds := [.data, .data, .data, .sentinel, .sentinel, .widerDeep, .widerDeep], laidTests := true, laidLooks := .later }
def ExprtextPrintsUptoCardSaid : Prop := Claim7.holds Tryz.pinned (.plain (OpenSpec.upto exprtextPrintsSpec)) exprtextPrintsUptoCard

/-- THE SECOND FORM's CARD OF 'testbenchlaw09.ExprtextRoundTrips'. -/
def exprtextRoundTripsUptoCard : Claim7 := { stood := { row := exprtextRoundTripsUptoRow, standIns := [], harness := (true, "410aba0f3a5530e2dd17c4747508e4fab4d47ce0821b71f757a3b15eb739b701"), looks := true }, kinds := [], alts := [], laidByText := true, laidKinds := [.data, .data, .data, .sentinel, .sentinel, .widerDeep, .widerDeep], laidTests := true, laidLooks := .later }
def ExprtextRoundTripsUptoCardSaid : Prop := Claim7.holds Tryz.pinned (.plain (OpenSpec.upto exprtextRoundTripsSpec)) exprtextRoundTripsUptoCard

/-- THE SECOND FORM's CARD OF 'testbenchlaw09.ExprtextCanonical'. -/
def exprtextCanonicalUptoCard : Claim7 := { stood := { row := exprtextCanonicalUptoRow, standIns := [], harness := (true, "410aba0f3a5530e2dd17c4747508e4fab4d47ce0821b71f757a3b15eb739b701"), looks := true }, kinds := [], alts := [], laidByText := true, laidKinds := [.data, .data, .data, .sentinel, .sentinel, .widerDeep, .widerDeep], laidTests := true, laidLooks := .later }
def ExprtextCanonicalUptoCardSaid : Prop := Claim7.holds Tryz.pinned (.plain (OpenSpec.upto exprtextCanonicalSpec)) exprtextCanonicalUptoCard

/-- THE SECOND FORM's CARD OF 'testbenchlaw09.ExprtextLayout'. -/
def exprtextLayoutUptoCard : Claim7 := { stood := { row := exprtextLayoutUptoRow, standIns := [], harness := (true, "410aba0f3a5530e2dd17c4747508e4fab4d47ce0821b71f757a3b15eb739b701"), looks := true }, kinds := [], alts := [], laidByText := true, laidKinds := [.data, .data, .data, .sentinel, .sentinel, .widerDeep, .widerDeep], laidTests := true, laidLooks := .later }
def ExprtextLayoutUptoCardSaid : Prop := Claim7.holds Tryz.pinned (.plain (OpenSpec.upto exprtextLayoutSpec)) exprtextLayoutUptoCard
end Rows
end Go.Proofs.YteopfpebdalcoaaGreatDoor
