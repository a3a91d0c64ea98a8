/-
  DERIVED. GIVEN WITH THE SEED: THE CARDS: each row of YtbhippphcmkjnaaGreatDoorRows.lean that lists a variable, with what it lists TIED to the program's text (the seventh form; the later family's looks); each row that meets fmt, with fmt's text TOLD by the authors' own Lean function (tested against real Go, not proved from fmt's source: count such statements apart). THE CARD IS WHAT COUNTS. Prove the row's statement (the work); the ties are given (YtbhippphcmkjnaaGreatDoorTie.lean); close each card by the builder's one call (the guide's Derived/Test/ToyasCard.lean, 'card_holds'). Laid BY PROGRAM, IN A SANDBOX (cutbox-door.mjs). By AI agents, Wed Nov 11 2026. No macro, syntax, notation, axiom, sorry.
-/
import Derived.Test.YtbhippphcmkjnaaGreatDoorRows
import GoSem.ClaimSeven
namespace Go.Proofs.YtbhippphcmkjnaaGreatDoor
namespace Rows

/-- THE TIED CARD OF 'testbenchlaw39.TseqValid'. -/
def tseqValidCard : Claim7 := { stood := { row := tseqValidRow, standIns := [], harness := (true, "3ffaac32fca46f85097074075933bbbd7d41aa1aa67db734919096d52012b26c"), looks := false }, kinds := [], alts := [], laidByText := true, laidKinds := [.widerDeep], laidTests := true, laidLooks := .later }
def TseqValidCardSaid : Prop := Claim7.holds Tryz.pinned (.plain (OpenSpec.ofChange tseqValidSpec)) tseqValidCard

/-- THE TIED CARD OF 'testbenchlaw39.TseqSizes'. -/
def tseqSizesCard : Claim7 := { stood := { row := tseqSizesRow, standIns := [], harness := (true, "3ffaac32fca46f85097074075933bbbd7d41aa1aa67db734919096d52012b26c"), looks := false }, kinds := [], alts := [], laidByText := true, laidKinds := [.widerDeep], laidTests := true, laidLooks := .later }
def TseqSizesCardSaid : Prop := Claim7.holds Tryz.pinned (.plain (OpenSpec.ofChange tseqSizesSpec)) tseqSizesCard

/-- THE TIED CARD OF 'testbenchlaw39.TseqLengths'. -/
def tseqLengthsCard : Claim7 := { stood := { row := tseqLengthsRow, standIns := [], harness := (true, "3ffaac32fca46f85097074075933bbbd7d41aa1aa67db734919096d52012b26c"), looks := false }, kinds := [], alts := [], laidByText := true, laidKinds := [.widerDeep], laidTests := true, laidLooks := .later }
def TseqLengthsCardSaid : Prop := Claim7.holds Tryz.pinned (.plain (OpenSpec.ofChange tseqLengthsSpec)) tseqLengthsCard

/-- THE TIED CARD OF 'testbenchlaw39.TseqBounds'. -/
def tseqBoundsCard : Claim7 := { stood := { row := tseqBoundsRow, standIns := [], harness := (true, "3ffaac32fca46f85097074075933bbbd7d41aa1aa67db734919096d52012b26c"), looks := false }, kinds := [], alts := [], laidByText := true, laidKinds := [.widerDeep], laidTests := true, laidLooks := .later }
def TseqBoundsCardSaid : Prop := Claim7.holds Tryz.pinned (.plain (OpenSpec.ofChange tseqBoundsSpec)) tseqBoundsCard

/-- THE TIED CARD OF 'testbenchlaw39.TseqProps'. -/
def tseqPropsCard : Claim7 := { stood := { row := tseqPropsRow, standIns := [], harness := (true, "3ffaac32fca46f85097074075933bbbd7d41aa1aa67db734919096d52012b26c"), looks := false }, kinds := [], alts := [], laidByText := true, laidKinds := [.widerDeep], laidTests := true, laidLooks := .later }
def TseqPropsCardSaid : Prop := Claim7.holds Tryz.pinned (.plain (OpenSpec.ofChange tseqPropsSpec)) tseqPropsCard

/-- THE SECOND FORM's CARD OF 'testbenchlaw39.TseqValid'. -/
def tseqValidUptoCard : Claim7 := { stood := { row := tseqValidUptoRow, standIns := [], harness := (true, "3ffaac32fca46f85097074075933bbbd7d41aa1aa67db734919096d52012b26c"), looks := false }, kinds := [], alts := [], laidByText := true, laidKinds := [.widerDeep], laidTests := true, laidLooks := .later }
def TseqValidUptoCardSaid : Prop := Claim7.holds Tryz.pinned (.plain (OpenSpec.upto tseqValidSpec)) tseqValidUptoCard

/-- THE SECOND FORM's CARD OF 'testbenchlaw39.TseqSizes'. -/
def tseqSizesUptoCard : Claim7 := { stood := { row := tseqSizesUptoRow, standIns := [], harness := (true, "3ffaac32fca46f85097074075933bbbd7d41aa1aa67db734919096d52012b26c"), looks := false }, kinds := [], alts := [], laidByText := true, laidKinds := [.widerDeep], laidTests := true, laidLooks := .later }
def TseqSizesUptoCardSaid : Prop := Claim7.holds Tryz.pinned (.plain (OpenSpec.upto tseqSizesSpec)) tseqSizesUptoCard

/-- THE SECOND FORM's CARD OF 'testbenchlaw39.TseqLengths'. -/
def tseqLengthsUptoCard : Claim7 := { stood := { row := tseqLengthsUptoRow, standIns := [], harness := (true, "3ffaac32fca46f85097074075933bbbd7d41aa1aa67db734919096d52012b26c"), looks := false }, kinds := [], alts := [], laidByText := true, laidKinds := [.widerDeep], laidTests := true, laidLooks := .later }
def TseqLengthsUptoCardSaid : Prop := Claim7.holds Tryz.pinned (.plain (OpenSpec.upto tseqLengthsSpec)) tseqLengthsUptoCard

/-- THE SECOND FORM's CARD OF 'testbenchlaw39.TseqBounds'. -/
def tseqBoundsUptoCard : Claim7 := { stood := { row := tseqBoundsUptoRow, standIns := [], harness := (true, "3ffaac32fca46f85097074075933bbbd7d41aa1aa67db734919096d52012b26c"), looks := false }, kinds := [], alts := [], laidByText := true, laidKinds := [.widerDeep], laidTests := true, laidLooks := .later }
def TseqBoundsUptoCardSaid : Prop := Claim7.holds Tryz.pinned (.plain (OpenSpec.upto tseqBoundsSpec)) tseqBoundsUptoCard

/-- THE SECOND FORM's CARD OF 'testbenchlaw39.TseqProps'. -/
def tseqPropsUptoCard : Claim7 := { stood := { row := tseqPropsUptoRow, standIns := [], harness := (true, "3ffaac32fca46f85097074075933bbbd7d41aa1aa67db734919096d52012b26c"), looks := false }, kinds := [], alts := [], laidByText := true, laidKinds := [.widerDeep], laidTests := true, laidLooks := .later }
def TseqPropsUptoCardSaid : Prop := Claim7.holds Tryz.pinned (.plain (OpenSpec.upto tseqPropsSpec)) tseqPropsUptoCard
end Rows
end Go.Proofs.YtbhippphcmkjnaaGreatDoor
