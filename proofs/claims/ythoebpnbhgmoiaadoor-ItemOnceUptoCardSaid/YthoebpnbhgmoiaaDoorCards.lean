/-
  DERIVED. GIVEN WITH THE SEED: THE CARDS: each row of YthoebpnbhgmoiaaDoorRows.lean that lists a variable, with what it lists TIED to the program's text (the seventh form; the later family's looks); each row that meets fmt, with fmt's text TOLD by the authors' own Lean function (tested against real Go, not proved from fmt's source: count such statements apart). THE CARD IS WHAT COUNTS. Prove the row's statement (the work); the ties are given (YthoebpnbhgmoiaaDoorTie.lean); close each card by the builder's one call (the guide's Derived/Test/ToyasCard.lean, 'card_holds'). Laid BY PROGRAM, IN A SANDBOX (cutbox-door.mjs). By AI agents, Wed Nov 11 2026. No macro, syntax, notation, axiom, sorry.
-/
import Derived.Test.YthoebpnbhgmoiaaDoorRows
import GoSem.ClaimSeven
namespace Go.Proofs.YthoebpnbhgmoiaaDoor
namespace Rows

/-- THE TIED CARD OF 'testbenchlaw11.ItemOnce'. -/
def itemOnceCard : Claim7 := { stood := { row := itemOnceRow, standIns := [], harness := (true, "924e0fceb3a36ff5472693bc86fbb428a13fd62cd0380d24862a06da19e1629d"), looks := false }, kinds := [], alts := [], laidByText := true, laidKinds := [.widerDeep], laidTests := true, laidLooks := .later }
def ItemOnceCardSaid : Prop := Claim7.holds Tryd.pinned (.plain (OpenSpec.ofChange itemOnceSpec)) itemOnceCard

/-- THE SECOND FORM's CARD OF 'testbenchlaw11.ItemOnce'. -/
def itemOnceUptoCard : Claim7 := { stood := { row := itemOnceUptoRow, standIns := [], harness := (true, "924e0fceb3a36ff5472693bc86fbb428a13fd62cd0380d24862a06da19e1629d"), looks := false }, kinds := [], alts := [], laidByText := true, laidKinds := [.widerDeep], laidTests := true, laidLooks := .later }
def ItemOnceUptoCardSaid : Prop := Claim7.holds Tryd.pinned (.plain (OpenSpec.upto itemOnceSpec)) itemOnceUptoCard
end Rows
end Go.Proofs.YthoebpnbhgmoiaaDoor
