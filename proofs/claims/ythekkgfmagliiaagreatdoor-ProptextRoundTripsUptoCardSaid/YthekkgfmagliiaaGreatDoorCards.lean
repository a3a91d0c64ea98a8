/-
  DERIVED. GIVEN WITH THE SEED: THE CARDS: each row of YthekkgfmagliiaaGreatDoorRows.lean that lists a variable, with what it lists TIED to the program's text (the seventh form; the later family's looks); each row that meets fmt, with fmt's text TOLD by the authors' own Lean function (tested against real Go, not proved from fmt's source: count such statements apart). THE CARD IS WHAT COUNTS. Prove the row's statement (the work); the ties are given (YthekkgfmagliiaaGreatDoorTie.lean); close each card by the builder's one call (the guide's Derived/Test/ToyasCard.lean, 'card_holds'). Laid BY PROGRAM, IN A SANDBOX (cutbox-door.mjs). By AI agents, Wed Nov 11 2026. No macro, syntax, notation, axiom, sorry.
-/
import Derived.Test.YthekkgfmagliiaaGreatDoorRows
import GoSem.ClaimSeven
namespace Go.Proofs.YthekkgfmagliiaaGreatDoor
namespace Rows

/-- THE TIED CARD OF 'testbenchlaw42.ProptextCanonical'. -/
def proptextCanonicalCard : Claim7 := { stood := { row := proptextCanonicalRow, standIns := [], harness := (true, "5a70e4cf6e99408b771f53d1d9c7f4c96b49529bfa2c5504c0847b3edf25b265"), looks := true }, kinds := [], alts := [], laidByText := true, laidKinds := [.data, .data, .data, .sentinel, .sentinel, .widerDeep, .widerDeep], laidTests := true, laidLooks := .later }
def ProptextCanonicalCardSaid : Prop := Claim7.holds Tryz.pinned (.plain (OpenSpec.ofChange proptextCanonicalSpec)) proptextCanonicalCard

/-- THE TIED CARD OF 'testbenchlaw42.ProptextPrints'. -/
def proptextPrintsCard : Claim7 := { stood := { row := proptextPrintsRow, standIns := [], harness := (true, "5a70e4cf6e99408b771f53d1d9c7f4c96b49529bfa2c5504c0847b3edf25b265"), looks := true }, kinds := [], alts := [], laidByText := true, laidKinds := [.data, .data, .data, .sentinel, .sentinel, .widerDeep, .widerDeep], laidTests := true, laidLooks := .later }
def ProptextPrintsCardSaid : Prop := Claim7.holds Tryz.pinned (.plain (OpenSpec.ofChange proptextPrintsSpec)) proptextPrintsCard

/-- THE TIED CARD OF 'testbenchlaw42.ProptextDistinct'. -/
def proptextDistinctCard : Claim7 := { stood := { row := proptextDistinctRow, standIns := [], harness := (true, "5a70e4cf6e99408b771f53d1d9c7f4c96b49529bfa2c5504c0847b3edf25b265"), looks := true }, kinds := [], alts := [], laidByText := true, laidKinds := [.data, .data, .data, .sentinel, .sentinel, .widerDeep, .widerDeep], laidTests := true, laidLooks := .later }
def ProptextDistinctCardSaid : Prop := Claim7.holds Tryz.pinned (.plain (OpenSpec.ofChange proptextDistinctSpec)) proptextDistinctCard

/-- THE TIED CARD OF 'testbenchlaw42.ProptextRoundTrips'. -/
def proptextRoundTripsCard : Claim7 := { stood := { row := proptextRoundTripsRow, standIns := [], harness := (true, "5a70e4cf6e99408b771f53d1d9c7f4c96b49529bfa2c5504c0847b3edf25b265"), looks := true }, kinds := [], alts := [], laidByText := true, laidKinds := [.data, .data, .data, .sentinel, .sentinel, .widerDeep, .widerDeep], laidTests := true, laidLooks := .later }
def ProptextRoundTripsCardSaid : Prop := Claim7.holds Tryz.pinned (.plain (OpenSpec.ofChange proptextRoundTripsSpec)) proptextRoundTripsCard

/-- THE SECOND FORM's CARD OF 'testbenchlaw42.ProptextCanonical'. -/
def proptextCanonicalUptoCard : Claim7 := { stood := { row := proptextCanonicalUptoRow, standIns := [], harness := (true, "5a70e4cf6e99408b771f53d1d9c7f4c96b49529bfa2c5504c0847b3edf25b265"), looks := true }, kinds := [], alts := [], laidByText := true, laidKinds := [.data, .data, .data, .sentinel, .sentinel, .widerDeep, .widerDeep], laidTests := true, laidLooks := .later }
def ProptextCanonicalUptoCardSaid : Prop := Claim7.holds Tryz.pinned (.plain (OpenSpec.upto proptextCanonicalSpec)) proptextCanonicalUptoCard

/-- THE SECOND FORM's CARD OF 'testbenchlaw42.ProptextPrints'. -/
def proptextPrintsUptoCard : Claim7 := { stood := { row := proptextPrintsUptoRow, standIns := [], harness := (true, "5a70e4cf6e99408b771f53d1d9c7f4c96b49529bfa2c5504c0847b3edf25b265"), looks := true }, kinds := [], alts := [], laidByText := true, laidKinds := [.data, .data, .data, .sentinel, .sentinel, .widerDeep, .widerDeep], laidTests := true, laidLooks := .later }
def ProptextPrintsUptoCardSaid : Prop := Claim7.holds Tryz.pinned (.plain (OpenSpec.upto proptextPrintsSpec)) proptextPrintsUptoCard

/-- THE SECOND FORM's CARD OF 'testbenchlaw42.ProptextDistinct'. -/
def proptextDistinctUptoCard : Claim7 := { stood := { row := proptextDistinctUptoRow, standIns := [], harness := (true, "5a70e4cf6e99408b771f53d1d9c7f4c96b49529bfa2c5504c0847b3edf25b265"), looks := true }, kinds := [], alts := [], laidByText := true, laidKinds := [.data, .data, .data, .sentinel, .sentinel, .widerDeep, .widerDeep], laidTests := true, laidLooks := .later }
def ProptextDistinctUptoCardSaid : Prop := Claim7.holds Tryz.pinned (.plain (OpenSpec.upto proptextDistinctSpec)) proptextDistinctUptoCard

/-- THE SECOND FORM's CARD OF 'testbenchlaw42.ProptextRoundTrips'. -/
def proptextRoundTripsUptoCard : Claim7 := { stood := { row := proptextRoundTripsUptoRow, standIns := [], harness := (true, "5a70e4cf6e99408b771f53d1d9c7f4c96b49529bfa2c5504c0847b3edf25b265"), looks := true }, kinds := [], alts := [], laidByText := true, laidKinds := [.data, .data, .data, .sentinel, .sentinel, .widerDeep, .widerDeep], laidTests := true, laidLooks := .later }
def ProptextRoundTripsUptoCardSaid : Prop := Claim7.holds Tryz.pinned (.plain (OpenSpec.upto proptextRoundTripsSpec)) proptextRoundTripsUptoCard
end Rows
end Go.Proofs.YthekkgfmagliiaaGreatDoor
