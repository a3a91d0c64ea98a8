/-
  DERIVED. GIVEN WITH THE SEED: THE CARDS: each row of YtnhphlmblenapaaGreatDoorRows.lean that lists a variable, with what it lists TIED to the program's text (the seventh form; the later family's looks); each row that meets fmt, with fmt's text TOLD by the authors' own Lean function (tested against real Go, not proved from fmt's source: count such statements apart). THE CARD IS WHAT COUNTS. Prove the row's statement (the work); the ties are given (YtnhphlmblenapaaGreatDoorTie.lean); close each card by the builder's one call (the guide's Derived/Test/ToyasCard.lean, 'card_holds'). Laid BY PROGRAM, IN A SANDBOX (cutbox-door.mjs). By AI agents, Wed Nov 11 2026. No macro, syntax, notation, axiom, sorry.
-/
import Derived.Test.YtnhphlmblenapaaGreatDoorRows
import GoSem.ClaimSeven
namespace Go.Proofs.YtnhphlmblenapaaGreatDoor
namespace Rows

/-- THE TIED CARD OF 'testbenchlaw13.ClassparseItems'. -/
def classparseItemsCard : Claim7 := { stood := { row := classparseItemsRow, standIns := [], harness := (true, "239485f83f5d23d7f50541e1f763aca96a8909cbc11765e158f7653c1eee4018"), looks := true }, kinds := [], alts := [], laidByText := true, laidKinds := [.data, .data, .data, .sentinel, .sentinel, .widerDeep, .widerDeep], laidTests := true, laidLooks := .later }
def ClassparseItemsCardSaid : Prop := Claim7.holds Tryz.pinned (.plain (OpenSpec.ofChange classparseItemsSpec)) classparseItemsCard

/-- THE TIED CARD OF 'testbenchlaw13.ClassparseClasses'. -/
def classparseClassesCard : Claim7 := { stood := { row := classparseClassesRow, standIns := [], harness := (true, "239485f83f5d23d7f50541e1f763aca96a8909cbc11765e158f7653c1eee4018"), looks := true }, kinds := [], alts := [], laidByText := true, laidKinds := [.data, .data, .data, .sentinel, .sentinel, .widerDeep, .widerDeep], laidTests := true, laidLooks := .later }
def ClassparseClassesCardSaid : Prop := Claim7.holds Tryz.pinned (.plain (OpenSpec.ofChange classparseClassesSpec)) classparseClassesCard

/-- THE TIED CARD OF 'testbenchlaw13.ClassparseSources'. -/
def classparseSourcesCard : Claim7 := { stood := { row := classparseSourcesRow, standIns := [], harness := (true, "239485f83f5d23d7f50541e1f763aca96a8909cbc11765e158f7653c1eee4018"), looks := true }, kinds := [], alts := [], laidByText := true, laidKinds := [.data, .data, .data, .sentinel, .sentinel, .widerDeep, .widerDeep], laidTests := true, laidLooks := .later }
def ClassparseSourcesCardSaid : Prop := Claim7.holds Tryz.pinned (.plain (OpenSpec.ofChange classparseSourcesSpec)) classparseSourcesCard

/-- THE TIED CARD OF 'testbenchlaw13.ClassparseJoins'. -/
def classparseJoinsCard : Claim7 := { stood := { row := classparseJoinsRow, standIns := [], harness := (true, "239485f83f5d23d7f50541e1f763aca96a8909cbc11765e158f7653c1eee4018"), looks := true }, kinds := [], alts := [], laidByText := true, laidKinds := [.data, .data, .data, .sentinel, .sentinel, .widerDeep, .widerDeep], laidTests := true, laidLooks := .later }
def ClassparseJoinsCardSaid : Prop := Claim7.holds Tryz.pinned (.plain (OpenSpec.ofChange classparseJoinsSpec)) classparseJoinsCard

/-- THE TIED CARD OF 'testbenchlaw13.ClassparseRoundTrips'. -/
def classparseRoundTripsCard : Claim7 := { stood := { row := classparseRoundTripsRow, standIns := [], harness := (true, "239485f83f5d23d7f50541e1f763aca96a8909cbc11765e158f7653c1eee4018"), looks := true }, kinds := [], alts := [], laidByText := true, laidKinds := [.data, .data, .data, .sentinel, .sentinel, .widerDeep, .widerDeep], laidTests := true, laidLooks := .later }
def ClassparseRoundTripsCardSaid : Prop := Claim7.holds Tryz.pinned (.plain (OpenSpec.ofChange classparseRoundTripsSpec)) classparseRoundTripsCard

/-- THE SECOND FORM's CARD OF 'testbenchlaw13.ClassparseItems'. -/
def classparseItemsUptoCard : Claim7 := { stood := { row := classparseItemsUptoRow, standIns := [], harness := (true, "239485f83f5d23d7f50541e1f763aca96a8909cbc11765e158f7653c1eee4018"), looks := true }, kinds := [], alts := [], laidByText := true, laidKinds := [.data, .data, .data, .sentinel, .sentinel, .widerDeep, .widerDeep], laidTests := true, laidLooks := .later }
def ClassparseItemsUptoCardSaid : Prop := Claim7.holds Tryz.pinned (.plain (OpenSpec.upto classparseItemsSpec)) classparseItemsUptoCard

/-- THE SECOND FORM's CARD OF 'testbenchlaw13.ClassparseClasses'. -/
def classparseClassesUptoCard : Claim7 := { stood := { row := classparseClassesUptoRow, standIns := [], harness := (true, "239485f83f5d23d7f50541e1f763aca96a8909cbc11765e158f7653c1eee4018"), looks := true }, kinds := [], alts := [], laidByText := true, laidKinds := [.data, .data, .data, .sentinel, .sentinel, .widerDeep, .widerDeep], laidTests := true, laidLooks := .later }
def ClassparseClassesUptoCardSaid : Prop := Claim7.holds Tryz.pinned (.plain (OpenSpec.upto classparseClassesSpec)) classparseClassesUptoCard

/-- THE SECOND FORM's CARD OF 'testbenchlaw13.ClassparseSources'. -/
def classparseSourcesUptoCard : Claim7 := { stood := { row := classparseSourcesUptoRow, standIns := [], harness := (true, "239485f83f5d23d7f50541e1f763aca96a8909cbc11765e158f7653c1eee4018"), looks := true }, kinds := [], alts := [], laidByText := true, laidKinds := [.data, .data, .data, .sentinel, .sentinel, .widerDeep, .widerDeep], laidTests := true, laidLooks := .later }
def ClassparseSourcesUptoCardSaid : Prop := Claim7.holds Tryz.pinned (.plain (OpenSpec.upto classparseSourcesSpec)) classparseSourcesUptoCard

/-- THE SECOND FORM's CARD OF 'testbenchlaw13.ClassparseJoins'. -/
def classparseJoinsUptoCard : Claim7 := { stood := { row := classparseJoinsUptoRow, standIns := [], harness := (true, "239485f83f5d23d7f50541e1f763aca96a8909cbc11765e158f7653c1eee4018"), looks := true }, kinds := [], alts := [], laidByText := true, laidKinds := [.data, .data, .data, .sentinel, .sentinel, .widerDeep, .widerDeep], laidTests := true, laidLooks := .later }
def ClassparseJoinsUptoCardSaid : Prop := Claim7.holds Tryz.pinned (.plain (OpenSpec.upto classparseJoinsSpec)) classparseJoinsUptoCard

/-- THE SECOND FORM's CARD OF 'testbenchlaw13.ClassparseRoundTrips'. -/
def classparseRoundTripsUptoCard : Claim7 := { stood := { row := classparseRoundTripsUptoRow, standIns := [], harness := (true, "239485f83f5d23d7f50541e1f763aca96a8909cbc11765e158f7653c1eee4018"), looks := true }, kinds := [], alts := [], laidByText := true, laidKinds := [.data, .data, .data, .sentinel, .sentinel, .widerDeep, .widerDeep], laidTests := true, laidLooks := .later }
def ClassparseRoundTripsUptoCardSaid : Prop := Claim7.holds Tryz.pinned (.plain (OpenSpec.upto classparseRoundTripsSpec)) classparseRoundTripsUptoCard
end Rows
end Go.Proofs.YtnhphlmblenapaaGreatDoor
