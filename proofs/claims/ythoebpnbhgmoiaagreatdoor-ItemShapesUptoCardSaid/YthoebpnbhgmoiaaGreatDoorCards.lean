/-
  DERIVED. GIVEN WITH THE SEED: THE CARDS: each row of YthoebpnbhgmoiaaGreatDoorRows.lean that lists a variable, with what it lists TIED to the program's text (the seventh form; the later family's looks); each row that meets fmt, with fmt's text TOLD by the authors' own Lean function (tested against real Go, not proved from fmt's source: count such statements apart). THE CARD IS WHAT COUNTS. Prove the row's statement (the work); the ties are given (YthoebpnbhgmoiaaGreatDoorTie.lean); close each card by the builder's one call (the guide's Derived/Test/ToyasCard.lean, 'card_holds'). Laid BY PROGRAM, IN A SANDBOX (cutbox-door.mjs). By AI agents, Wed Nov 11 2026. No macro, syntax, notation, axiom, sorry.
-/
import Derived.Test.YthoebpnbhgmoiaaGreatDoorRows
import GoSem.ClaimSeven
namespace Go.Proofs.YthoebpnbhgmoiaaGreatDoor
namespace Rows

/-- THE TIED CARD OF 'testbenchlaw11.ItemChecks'. -/
def itemChecksCard : Claim7 := { stood := { row := itemChecksRow, standIns := [], harness := (true, "594765793cc72600e15eeded9dc22f1f4fe90913b7bac15cf67af22116ee35be"), looks := false }, kinds := [], alts := [], laidByText := true, laidKinds := [.widerDeep], laidTests := true, laidLooks := .later }
def ItemChecksCardSaid : Prop := Claim7.holds Tryz.pinned (.plain (OpenSpec.ofChange itemChecksSpec)) itemChecksCard

/-- THE TIED CARD OF 'testbenchlaw11.ItemUnrolls'. -/
def itemUnrollsCard : Claim7 := { stood := { row := itemUnrollsRow, standIns := [], harness := (true, "594765793cc72600e15eeded9dc22f1f4fe90913b7bac15cf67af22116ee35be"), looks := false }, kinds := [], alts := [], laidByText := true, laidKinds := [.widerDeep], laidTests := true, laidLooks := .later }
def ItemUnrollsCardSaid : Prop := Claim7.holds Tryz.pinned (.plain (OpenSpec.ofChange itemUnrollsSpec)) itemUnrollsCard

/-- THE TIED CARD OF 'testbenchlaw11.ItemScalars'. -/
def itemScalarsCard : Claim7 := { stood := { row := itemScalarsRow, standIns := [], harness := (true, "594765793cc72600e15eeded9dc22f1f4fe90913b7bac15cf67af22116ee35be"), looks := false }, kinds := [], alts := [], laidByText := true, laidKinds := [.widerDeep], laidTests := true, laidLooks := .later }
def ItemScalarsCardSaid : Prop := Claim7.holds Tryz.pinned (.plain (OpenSpec.ofChange itemScalarsSpec)) itemScalarsCard

/-- THE TIED CARD OF 'testbenchlaw11.ItemExpands'. -/
def itemExpandsCard : Claim7 := { stood := { row := itemExpandsRow, standIns := [], harness := (true, "594765793cc72600e15eeded9dc22f1f4fe90913b7bac15cf67af22116ee35be"), looks := false }, kinds := [], alts := [], laidByText := true, laidKinds := [.widerDeep], laidTests := true, laidLooks := .later }
def ItemExpandsCardSaid : Prop := Claim7.holds Tryz.pinned (.plain (OpenSpec.ofChange itemExpandsSpec)) itemExpandsCard

/-- THE TIED CARD OF 'testbenchlaw11.ItemKeeps'. -/
def itemKeepsCard : Claim7 := { stood := { row := itemKeepsRow, standIns := [], harness := (true, "594765793cc72600e15eeded9dc22f1f4fe90913b7bac15cf67af22116ee35be"), looks := false }, kinds := [], alts := [], laidByText := true, laidKinds := [.widerDeep], laidTests := true, laidLooks := .later }
def ItemKeepsCardSaid : Prop := Claim7.holds Tryz.pinned (.plain (OpenSpec.ofChange itemKeepsSpec)) itemKeepsCard

/-- THE TIED CARD OF 'testbenchlaw11.ItemShapes'. -/
def itemShapesCard : Claim7 := { stood := { row := itemShapesRow, standIns := [], harness := (true, "594765793cc72600e15eeded9dc22f1f4fe90913b7bac15cf67af22116ee35be"), looks := false }, kinds := [], alts := [], laidByText := true, laidKinds := [.widerDeep], laidTests := true, laidLooks := .later }
def ItemShapesCardSaid : Prop := Claim7.holds Tryz.pinned (.plain (OpenSpec.ofChange itemShapesSpec)) itemShapesCard

/-- THE SECOND FORM's CARD OF 'testbenchlaw11.ItemChecks'. -/
def itemChecksUptoCard : Claim7 := { stood := { row := itemChecksUptoRow, standIns := [], harness := (true, "594765793cc72600e15eeded9dc22f1f4fe90913b7bac15cf67af22116ee35be"), looks := false }, kinds := [], alts := [], laidByText := true, laidKinds := [.widerDeep], laidTests := true, laidLooks := .later }
def ItemChecksUptoCardSaid : Prop := Claim7.holds Tryz.pinned (.plain (OpenSpec.upto itemChecksSpec)) itemChecksUptoCard

/-- THE SECOND FORM's CARD OF 'testbenchlaw11.ItemUnrolls'. -/
def itemUnrollsUptoCard : Claim7 := { stood := { row := itemUnrollsUptoRow, standIns := [], harness := (true, "594765793cc72600e15eeded9dc22f1f4fe90913b7bac15cf67af22116ee35be"), looks := false }, kinds := [], alts := [], laidByText := true, laidKinds := [.widerDeep], laidTests := true, laidLooks := .later }
def ItemUnrollsUptoCardSaid : Prop := Claim7.holds Tryz.pinned (.plain (OpenSpec.upto itemUnrollsSpec)) itemUnrollsUptoCard

/-- THE SECOND FORM's CARD OF 'testbenchlaw11.ItemScalars'. -/
def itemScalarsUptoCard : Claim7 := { stood := { row := itemScalarsUptoRow, standIns := [], harness := (true, "594765793cc72600e15eeded9dc22f1f4fe90913b7bac15cf67af22116ee35be"), looks := false }, kinds := [], alts := [], laidByText := true, laidKinds := [.widerDeep], laidTests := true, laidLooks := .later }
def ItemScalarsUptoCardSaid : Prop := Claim7.holds Tryz.pinned (.plain (OpenSpec.upto itemScalarsSpec)) itemScalarsUptoCard

/-- THE SECOND FORM's CARD OF 'testbenchlaw11.ItemExpands'. -/
def itemExpandsUptoCard : Claim7 := { stood := { row := itemExpandsUptoRow, standIns := [], harness := (true, "594765793cc72600e15eeded9dc22f1f4fe90913b7bac15cf67af22116ee35be"), looks := false }, kinds := [], alts := [], laidByText := true, laidKinds := [.widerDeep], laidTests := true, laidLooks := .later }
def ItemExpandsUptoCardSaid : Prop := Claim7.holds Tryz.pinned (.plain (OpenSpec.upto itemExpandsSpec)) itemExpandsUptoCard

/-- THE SECOND FORM's CARD OF 'testbenchlaw11.ItemKeeps'. -/
def itemKeepsUptoCard : Claim7 := { stood := { row := itemKeepsUptoRow, standIns := [], harness := (true, "594765793cc72600e15eeded9dc22f1f4fe90913b7bac15cf67af22116ee35be"), looks := false }, kinds := [], alts := [], laidByText := true, laidKinds := [.widerDeep], laidTests := true, laidLooks := .later }
def ItemKeepsUptoCardSaid : Prop := Claim7.holds Tryz.pinned (.plain (OpenSpec.upto itemKeepsSpec)) itemKeepsUptoCard

/-- THE SECOND FORM's CARD OF 'testbenchlaw11.ItemShapes'. -/
def itemShapesUptoCard : Claim7 := { stood := { row := itemShapesUptoRow, standIns := [], harness := (true, "594765793cc72600e15eeded9dc22f1f4fe90913b7bac15cf67af22116ee35be"), looks := false }, kinds := [], alts := [], laidByText := true, laidKinds := [.widerDeep], laidTests := true, laidLooks := .later }
def ItemShapesUptoCardSaid : Prop := Claim7.holds Tryz.pinned (.plain (OpenSpec.upto itemShapesSpec)) itemShapesUptoCard
end Rows
end Go.Proofs.YthoebpnbhgmoiaaGreatDoor
