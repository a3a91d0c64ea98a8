/-
  DERIVED. GIVEN WITH THE SEED: THE CARDS: each row of YtbhippphcmkjnaaDoorRows.lean that lists a variable, with what it lists TIED to the program's text (the seventh form; the later family's looks); each row that meets fmt, with fmt's text TOLD by the authors' own Lean function (tested against real Go, not proved from fmt's source: count such statements apart). THE CARD IS WHAT COUNTS. Prove the row's statement (the work); the ties are given (YtbhippphcmkjnaaDoorTie.lean); close each card by the builder's one call (the guide's Derived/Test/ToyasCard.lean, 'card_holds'). Laid BY PROGRAM, IN A SANDBOX (cutbox-door.mjs). By AI agents, Wed Nov 11 2026. No macro, syntax, notation, axiom, sorry.
-/
import Derived.Test.YtbhippphcmkjnaaDoorRows
import GoSem.ClaimSeven
namespace Go.Proofs.YtbhippphcmkjnaaDoor
namespace Rows

/-- THE TIED CARD OF 'testbenchlaw39.TseqParts'. -/
def tseqPartsCard : Claim7 := { stood := { row := tseqPartsRow, standIns := [], harness := (true, "ea8ce67485effd550046ae809a10b91fe6088d5e6ed84264b3c6bf42b09802f3"), looks := false }, kinds := [], alts := [], laidByText := true, laidKinds := [.widerDeep], laidTests := true, laidLooks := .later }
def TseqPartsCardSaid : Prop := Claim7.holds Tryd.pinned (.plain (OpenSpec.ofChange tseqPartsSpec)) tseqPartsCard

/-- THE TIED CARD OF 'testbenchlaw39.TseqEqual'. -/
def tseqEqualCard : Claim7 := { stood := { row := tseqEqualRow, standIns := [], harness := (true, "ea8ce67485effd550046ae809a10b91fe6088d5e6ed84264b3c6bf42b09802f3"), looks := false }, kinds := [], alts := [], laidByText := true, laidKinds := [.widerDeep], laidTests := true, laidLooks := .later }
def TseqEqualCardSaid : Prop := Claim7.holds Tryd.pinned (.plain (OpenSpec.ofChange tseqEqualSpec)) tseqEqualCard

/-- THE SECOND FORM's CARD OF 'testbenchlaw39.TseqParts'. -/
def tseqPartsUptoCard : Claim7 := { stood := { row := tseqPartsUptoRow, standIns := [], harness := (true, "ea8ce67485effd550046ae809a10b91fe6088d5e6ed84264b3c6bf42b09802f3"), looks := false }, kinds := [], alts := [], laidByText := true, laidKinds := [.widerDeep], laidTests := true, laidLooks := .later }
def TseqPartsUptoCardSaid : Prop := Claim7.holds Tryd.pinned (.plain (OpenSpec.upto tseqPartsSpec)) tseqPartsUptoCard

/-- THE SECOND FORM's CARD OF 'testbenchlaw39.TseqEqual'. -/
def tseqEqualUptoCard : Claim7 := { stood := { row := tseqEqualUptoRow, standIns := [], harness := (true, "ea8ce67485effd550046ae809a10b91fe6088d5e6ed84264b3c6bf42b09802f3"), looks := false }, kinds := [], alts := [], laidByText := true, laidKinds := [.widerDeep], laidTests := true, laidLooks := .later }
def TseqEqualUptoCardSaid : Prop := Claim7.holds Tryd.pinned (.plain (OpenSpec.upto tseqEqualSpec)) tseqEqualUptoCard
end Rows
end Go.Proofs.YtbhippphcmkjnaaDoor
