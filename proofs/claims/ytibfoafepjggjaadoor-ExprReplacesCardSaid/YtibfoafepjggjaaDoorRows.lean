/-
  NARROWER THAN 'FOR EVERY INPUT', by the rows' own cells (each row's printed sentence says how): ExprShapes: loops, laid · ExprChecks: loops, laid · ExprKnows: loops, laid · ExprReplaces: loops, laid · ExprSame: loops, laid · ExprSubsts: loops, laid.
  DERIVED. THE GIVEN ROWS OF THIS SEAT. 6 by the template 'for every input the law returns true; each argument reads behind the call as it read before'; 0 by the template 'total and deterministic' (their statements: YtibfoafepjggjaaDoorTotals.lean).
  GIVEN WITH THE SEED: the statements are not yours to turn. If you find one false, say at which input.
  Laid BY PROGRAM, IN A SANDBOX (cutbox-rows.mjs): the forced cells as the released guide's own fill.sh prints them over the translation 907e5e843a31d331… (all of the seat's roots in one cut). By AI agents, Wed Nov 11 2026. No macro, syntax, notation, axiom, sorry.
-/
import Derived.Test.YtibfoafepjggjaaDoorChecked
import GoSem.Claim
import GoSem.ClaimJoined
import GoSem.ClaimMapViews
import Derived.JoinedTies
import Derived.KernelRfl
namespace Go.Proofs.YtibfoafepjggjaaDoor
/- THE CELL 'sum', in the pinned program and in every row, IS THE sha256 OF THE DUMP (.gsa) THAT YtibfoafepjggjaaDoorProg.lean LOADS. Nothing in Lean hashes anything: it is a label: what it is worth is what the hold of that sum in a sandbox is worth. -/
noncomputable def Tryd.pinned : Pinned := { name := "ytibfoafepjggjaadoor", sum := "907e5e843a31d3315374ce9a4200ff25182483665e5c769cbc58d71963a7f4e8", checked := Tryd.checked }
namespace Rows
def none {H : Type} : Left H := { results := [], args := [] }

/- WHAT THE LISTED PACKAGE-LEVEL VARIABLES READ AS WHEN THE CALL BEGINS. Each datum BY PROGRAM (the guide's laid-datum.mjs) off the statement by which the dump's own 'gosem.cut.vars' lays the variable. In a bare row this is a premise. The card (YtibfoafepjggjaaDoorCards.lean) ties it to the program's text. -/
def laid_testbench_lexer_keywords {H : Type} : DataW H := .slice [.lit (.string [99, 108, 97, 115, 115]), .lit (.string [101, 120, 116, 101, 110, 100, 115]), .lit (.string [114, 97, 110, 100]), .lit (.string [114, 97, 110, 100, 99]), .lit (.string [115, 116, 97, 116, 101]), .lit (.string [99, 111, 110, 115, 116, 114, 97, 105, 110, 116]), .lit (.string [115, 111, 102, 116]), .lit (.string [100, 105, 115, 116]), .lit (.string [105, 102]), .lit (.string [101, 108, 115, 101]), .lit (.string [101, 97, 99, 104]), .lit (.string [105, 110]), .lit (.string [115, 111, 108, 118, 101]), .lit (.string [98, 101, 102, 111, 114, 101]), .lit (.string [105, 110, 115, 105, 100, 101]), .lit (.string [112, 114, 111, 112, 101, 114, 116, 121]), .lit (.string [115, 101, 113]), .lit (.string [97, 110, 100]), .lit (.string [111, 114]), .lit (.string [110, 111, 116]), .lit (.string [115, 101, 116]), .lit (.string [104, 111, 108, 100]), .lit (.string [112, 108, 97, 105, 110]), .lit (.string [114, 101, 112, 101, 97, 116])] []

/-- 'testbenchlaw08.ExprShapes': WHATEVER THE INPUT: true; the input reads as it did. -/
def exprShapesSpec : ChangeSpec := { name := "exprShapes", fn := fun _ => fun
  | [d1, d2] => { results := [.lit (.bool true)], args := [d1, d2] }
  | _ => none }
def exprShapesRow : OpenClaim := { program := "ytibfoafepjggjaadoor", sum := "907e5e843a31d3315374ce9a4200ff25182483665e5c769cbc58d71963a7f4e8", func := "testbench/testbenchlaw08.ExprShapes", spec := "exprShapes", inPlace := ["internal/bytealg.IndexByteString", "internal/bytealg.IndexString"], unfollowed := true, recurses := true, named := ["internal/bytealg.MaxLen", "testbench/lexer.keywords"], loops := true, apart := false, laid := [("testbench/lexer.keywords", laid_testbench_lexer_keywords)] }
def ExprShapesSaid : Prop := exprShapesRow.holds Tryd.pinned (OpenSpec.ofChange exprShapesSpec)

/-- ITS FALSE NEIGHBOUR: 'it returns false'. Refute it at one input. -/
def exprShapesWrong : ChangeSpec := { name := "exprShapes", fn := fun _ => fun
  | [d1, d2] => { results := [.lit (.bool false)], args := [d1, d2] }
  | _ => none }
def ExprShapesWrongFalsely : Prop := exprShapesRow.holds Tryd.pinned (OpenSpec.ofChange exprShapesWrong)

/-- 'testbenchlaw08.ExprChecks': WHATEVER THE INPUT: true; the input reads as it did. -/
def exprChecksSpec : ChangeSpec := { name := "exprChecks", fn := fun _ => fun
  | [d] => { results := [.lit (.bool true)], args := [d] }
  | _ => none }
def exprChecksRow : OpenClaim := { program := "ytibfoafepjggjaadoor", sum := "907e5e843a31d3315374ce9a4200ff25182483665e5c769cbc58d71963a7f4e8", func := "testbench/testbenchlaw08.ExprChecks", spec := "exprChecks", inPlace := ["internal/bytealg.IndexByteString", "internal/bytealg.IndexString"], unfollowed := true, recurses := true, named := ["internal/bytealg.MaxLen", "testbench/lexer.keywords"], loops := true, apart := false, laid := [("testbench/lexer.keywords", laid_testbench_lexer_keywords)] }
def ExprChecksSaid : Prop := exprChecksRow.holds Tryd.pinned (OpenSpec.ofChange exprChecksSpec)

/-- ITS FALSE NEIGHBOUR: 'it returns false'. Refute it at one input. -/
def exprChecksWrong : ChangeSpec := { name := "exprChecks", fn := fun _ => fun
  | [d] => { results := [.lit (.bool false)], args := [d] }
  | _ => none }
def ExprChecksWrongFalsely : Prop := exprChecksRow.holds Tryd.pinned (OpenSpec.ofChange exprChecksWrong)

/-- 'testbenchlaw08.ExprKnows': WHATEVER THE INPUT: true; the input reads as it did. -/
def exprKnowsSpec : ChangeSpec := { name := "exprKnows", fn := fun _ => fun
  | [d1, d2] => { results := [.lit (.bool true)], args := [d1, d2] }
  | _ => none }
def exprKnowsRow : OpenClaim := { program := "ytibfoafepjggjaadoor", sum := "907e5e843a31d3315374ce9a4200ff25182483665e5c769cbc58d71963a7f4e8", func := "testbench/testbenchlaw08.ExprKnows", spec := "exprKnows", inPlace := ["internal/bytealg.IndexByteString", "internal/bytealg.IndexString"], unfollowed := true, recurses := true, named := ["internal/bytealg.MaxLen", "testbench/lexer.keywords"], loops := true, apart := false, laid := [("testbench/lexer.keywords", laid_testbench_lexer_keywords)] }
def ExprKnowsSaid : Prop := exprKnowsRow.holds Tryd.pinned (OpenSpec.ofChange exprKnowsSpec)

/-- ITS FALSE NEIGHBOUR: 'it returns false'. Refute it at one input. -/
def exprKnowsWrong : ChangeSpec := { name := "exprKnows", fn := fun _ => fun
  | [d1, d2] => { results := [.lit (.bool false)], args := [d1, d2] }
  | _ => none }
def ExprKnowsWrongFalsely : Prop := exprKnowsRow.holds Tryd.pinned (OpenSpec.ofChange exprKnowsWrong)

/-- 'testbenchlaw08.ExprReplaces': WHATEVER THE INPUT: true; the input reads as it did. -/
def exprReplacesSpec : ChangeSpec := { name := "exprReplaces", fn := fun _ => fun
  | [d1, d2, d3] => { results := [.lit (.bool true)], args := [d1, d2, d3] }
  | _ => none }
def exprReplacesRow : OpenClaim := { program := "ytibfoafepjggjaadoor", sum := "907e5e843a31d3315374ce9a4200ff25182483665e5c769cbc58d71963a7f4e8", func := "testbench/testbenchlaw08.ExprReplaces", spec := "exprReplaces", inPlace := ["internal/bytealg.IndexByteString", "internal/bytealg.IndexString"], unfollowed := true, recurses := true, named := ["internal/bytealg.MaxLen", "testbench/lexer.keywords"], loops := true, apart := false, laid := [("testbench/lexer.keywords", laid_testbench_lexer_keywords)] }
def ExprReplacesSaid : Prop := exprReplacesRow.holds Tryd.pinned (OpenSpec.ofChange exprReplacesSpec)

/-- ITS FALSE NEIGHBOUR: 'it returns false'. Refute it at one input. -/
def exprReplacesWrong : ChangeSpec := { name := "exprReplaces", fn := fun _ => fun
  | [d1, d2, d3] => { results := [.lit (.bool false)], args := [d1, d2, d3] }
  | _ => none }
def ExprReplacesWrongFalsely : Prop := exprReplacesRow.holds Tryd.pinned (OpenSpec.ofChange exprReplacesWrong)

/-- 'testbenchlaw08.ExprSame': WHATEVER THE INPUT: true; the input reads as it did. -/
def exprSameSpec : ChangeSpec := { name := "exprSame", fn := fun _ => fun
  | [d1, d2] => { results := [.lit (.bool true)], args := [d1, d2] }
  | _ => none }
def exprSameRow : OpenClaim := { program := "ytibfoafepjggjaadoor", sum := "907e5e843a31d3315374ce9a4200ff25182483665e5c769cbc58d71963a7f4e8", func := "testbench/testbenchlaw08.ExprSame", spec := "exprSame", inPlace := ["internal/bytealg.IndexByteString", "internal/bytealg.IndexString"], unfollowed := true, recurses := true, named := ["internal/bytealg.MaxLen", "testbench/lexer.keywords"], loops := true, apart := false, laid := [("testbench/lexer.keywords", laid_testbench_lexer_keywords)] }
def ExprSameSaid : Prop := exprSameRow.holds Tryd.pinned (OpenSpec.ofChange exprSameSpec)

/-- ITS FALSE NEIGHBOUR: 'it returns false'. Refute it at one input. -/
def exprSameWrong : ChangeSpec := { name := "exprSame", fn := fun _ => fun
  | [d1, d2] => { results := [.lit (.bool false)], args := [d1, d2] }
  | _ => none }
def ExprSameWrongFalsely : Prop := exprSameRow.holds Tryd.pinned (OpenSpec.ofChange exprSameWrong)

/-- 'testbenchlaw08.ExprSubsts': WHATEVER THE INPUT: true; the input reads as it did. -/
def exprSubstsSpec : ChangeSpec := { name := "exprSubsts", fn := fun _ => fun
  | [d1, d2, d3] => { results := [.lit (.bool true)], args := [d1, d2, d3] }
  | _ => none }
def exprSubstsRow : OpenClaim := { program := "ytibfoafepjggjaadoor", sum := "907e5e843a31d3315374ce9a4200ff25182483665e5c769cbc58d71963a7f4e8", func := "testbench/testbenchlaw08.ExprSubsts", spec := "exprSubsts", inPlace := ["internal/bytealg.IndexByteString", "internal/bytealg.IndexString"], unfollowed := true, recurses := true, named := ["internal/bytealg.MaxLen", "testbench/lexer.keywords"], loops := true, apart := false, laid := [("testbench/lexer.keywords", laid_testbench_lexer_keywords)] }
def ExprSubstsSaid : Prop := exprSubstsRow.holds Tryd.pinned (OpenSpec.ofChange exprSubstsSpec)

/-- ITS FALSE NEIGHBOUR: 'it returns false'. Refute it at one input. -/
def exprSubstsWrong : ChangeSpec := { name := "exprSubsts", fn := fun _ => fun
  | [d1, d2, d3] => { results := [.lit (.bool false)], args := [d1, d2, d3] }
  | _ => none }
def ExprSubstsWrongFalsely : Prop := exprSubstsRow.holds Tryd.pinned (OpenSpec.ofChange exprSubstsWrong)

/- THE SECOND FORM. 'bulk': how many values and letters a reading holds, each counted each time it is reached (what is shared counts as often as it is met; a slice's spare places count too). A statement '..UptoSaid' is the law's where the arguments, and the package variables that the reading takes, are together of bulk at most 1048576: NARROWER than '..Said'. Prove '..Said' where nothing that the law and all that it calls make is longer than what came in: it says more and counts as full. Else prove '..UptoSaid'. A law counts once. -/
mutual
def uptoBulk {H : Type} : DataW H → Nat
  | .lit (.string bytes) => bytes.length + 1
  | .lit _ => 1
  | .nil => 1
  | .ptr d => uptoBulk d + 1
  | .slice elems spare => uptoBulkAll elems + uptoBulkAll spare + 1
  | .agg parts => uptoBulkAll parts + 1
  | .iface _ d => uptoBulk d + 1
  | .map entries => uptoBulkEntries entries + 1
  | .held _ => 1
def uptoBulkAll {H : Type} : List (DataW H) → Nat
  | [] => 0
  | d :: r => uptoBulk d + uptoBulkAll r
def uptoBulkEntries {H : Type} : List (Lit × DataW H) → Nat
  | [] => 0
  | x :: r => uptoBulkEntry x + uptoBulkEntries r
def uptoBulkEntry {H : Type} : Lit × DataW H → Nat
  | (.string bytes, d) => bytes.length + uptoBulk d + 1
  | (_, d) => uptoBulk d + 1
 end
def uptoSmall : (H : Type) → List (DataW H) → Bool := fun _ ds => decide (uptoBulkAll ds ≤ 1048576)
def OpenSpec.upto (s : _root_.Go.ChangeSpec) : _root_.Go.OpenSpec := { _root_.Go.OpenSpec.ofChange s with cond := some uptoSmall }

/-- 'testbenchlaw08.ExprShapes', WHERE WHAT IT READS IS OF BULK AT MOST 1048576: true; the input reads as it did. -/
def exprShapesUptoRow : OpenClaim := { program := "ytibfoafepjggjaadoor", sum := "907e5e843a31d3315374ce9a4200ff25182483665e5c769cbc58d71963a7f4e8", func := "testbench/testbenchlaw08.ExprShapes", spec := "exprShapes", inPlace := ["internal/bytealg.IndexByteString", "internal/bytealg.IndexString"], unfollowed := true, recurses := true, named := ["internal/bytealg.MaxLen", "testbench/lexer.keywords"], loops := true, apart := false, laid := [("testbench/lexer.keywords", laid_testbench_lexer_keywords)], narrowed := true }
def ExprShapesUptoSaid : Prop := exprShapesUptoRow.holds Tryd.pinned (OpenSpec.upto exprShapesSpec)

/-- 'testbenchlaw08.ExprChecks', WHERE WHAT IT READS IS OF BULK AT MOST 1048576: true; the input reads as it did. -/
def exprChecksUptoRow : OpenClaim := { program := "ytibfoafepjggjaadoor", sum := "907e5e843a31d3315374ce9a4200ff25182483665e5c769cbc58d71963a7f4e8", func := "testbench/testbenchlaw08.ExprChecks", spec := "exprChecks", inPlace := ["internal/bytealg.IndexByteString", "internal/bytealg.IndexString"], unfollowed := true, recurses := true, named := ["internal/bytealg.MaxLen", "testbench/lexer.keywords"], loops := true, apart := false, laid := [("testbench/lexer.keywords", laid_testbench_lexer_keywords)], narrowed := true }
def ExprChecksUptoSaid : Prop := exprChecksUptoRow.holds Tryd.pinned (OpenSpec.upto exprChecksSpec)

/-- 'testbenchlaw08.ExprKnows', WHERE WHAT IT READS IS OF BULK AT MOST 1048576: true; the input reads as it did. -/
def exprKnowsUptoRow : OpenClaim := { program := "ytibfoafepjggjaadoor", sum := "907e5e843a31d3315374ce9a4200ff25182483665e5c769cbc58d71963a7f4e8", func := "testbench/testbenchlaw08.ExprKnows", spec := "exprKnows", inPlace := ["internal/bytealg.IndexByteString", "internal/bytealg.IndexString"], unfollowed := true, recurses := true, named := ["internal/bytealg.MaxLen", "testbench/lexer.keywords"], loops := true, apart := false, laid := [("testbench/lexer.keywords", laid_testbench_lexer_keywords)], narrowed := true }
def ExprKnowsUptoSaid : Prop := exprKnowsUptoRow.holds Tryd.pinned (OpenSpec.upto exprKnowsSpec)

/-- 'testbenchlaw08.ExprReplaces', WHERE WHAT IT READS IS OF BULK AT MOST 1048576: true; the input reads as it did. -/
def exprReplacesUptoRow : OpenClaim := { program := "ytibfoafepjggjaadoor", sum := "907e5e843a31d3315374ce9a4200ff25182483665e5c769cbc58d71963a7f4e8", func := "testbench/testbenchlaw08.ExprReplaces", spec := "exprReplaces", inPlace := ["internal/bytealg.IndexByteString", "internal/bytealg.IndexString"], unfollowed := true, recurses := true, named := ["internal/bytealg.MaxLen", "testbench/lexer.keywords"], loops := true, apart := false, laid := [("testbench/lexer.keywords", laid_testbench_lexer_keywords)], narrowed := true }
def ExprReplacesUptoSaid : Prop := exprReplacesUptoRow.holds Tryd.pinned (OpenSpec.upto exprReplacesSpec)

/-- 'testbenchlaw08.ExprSame', WHERE WHAT IT READS IS OF BULK AT MOST 1048576: true; the input reads as it did. -/
def exprSameUptoRow : OpenClaim := { program := "ytibfoafepjggjaadoor", sum := "907e5e843a31d3315374ce9a4200ff25182483665e5c769cbc58d71963a7f4e8", func := "testbench/testbenchlaw08.ExprSame", spec := "exprSame", inPlace := ["internal/bytealg.IndexByteString", "internal/bytealg.IndexString"], unfollowed := true, recurses := true, named := ["internal/bytealg.MaxLen", "testbench/lexer.keywords"], loops := true, apart := false, laid := [("testbench/lexer.keywords", laid_testbench_lexer_keywords)], narrowed := true }
def ExprSameUptoSaid : Prop := exprSameUptoRow.holds Tryd.pinned (OpenSpec.upto exprSameSpec)

/-- 'testbenchlaw08.ExprSubsts', WHERE WHAT IT READS IS OF BULK AT MOST 1048576: true; the input reads as it did. -/
def exprSubstsUptoRow : OpenClaim := { program := "ytibfoafepjggjaadoor", sum := "907e5e843a31d3315374ce9a4200ff25182483665e5c769cbc58d71963a7f4e8", func := "testbench/testbenchlaw08.ExprSubsts", spec := "exprSubsts", inPlace := ["internal/bytealg.IndexByteString", "internal/bytealg.IndexString"], unfollowed := true, recurses := true, named := ["internal/bytealg.MaxLen", "testbench/lexer.keywords"], loops := true, apart := false, laid := [("testbench/lexer.keywords", laid_testbench_lexer_keywords)], narrowed := true }
def ExprSubstsUptoSaid : Prop := exprSubstsUptoRow.holds Tryd.pinned (OpenSpec.upto exprSubstsSpec)

end Rows
end Go.Proofs.YtibfoafepjggjaaDoor
