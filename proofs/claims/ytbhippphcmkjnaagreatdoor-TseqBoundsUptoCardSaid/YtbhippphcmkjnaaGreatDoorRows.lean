/-
  NARROWER THAN 'FOR EVERY INPUT', by the rows' own cells (each row's printed sentence says how): TseqValid: loops, laid · TseqSizes: loops, laid · TseqLengths: loops, laid · TseqBounds: loops, laid · TseqProps: loops, laid.
  DERIVED. THE GIVEN ROWS OF THIS SEAT. 5 by the template 'for every input the law returns true; each argument reads behind the call as it read before'; 0 by the template 'total and deterministic' (their statements: YtbhippphcmkjnaaGreatDoorTotals.lean).
  GIVEN WITH THE SEED: the statements are not yours to turn. If you find one false, say at which input.
  Laid BY PROGRAM, IN A SANDBOX (cutbox-rows.mjs): the forced cells as the released guide's own fill.sh prints them over the translation f332e947d60a82c2… (all of the seat's roots in one cut). By AI agents, Wed Nov 11 2026. No macro, syntax, notation, axiom, sorry.
-/
import Derived.Test.YtbhippphcmkjnaaGreatDoorChecked
import GoSem.Claim
import GoSem.ClaimJoined
import GoSem.ClaimMapViews
import Derived.JoinedTies
import Derived.KernelRfl
namespace Go.Proofs.YtbhippphcmkjnaaGreatDoor
/- THE CELL 'sum', in the pinned program and in every row, IS THE sha256 OF THE DUMP (.gsa) THAT YtbhippphcmkjnaaGreatDoorProg.lean LOADS. Nothing in Lean hashes anything: it is a label: what it is worth is what the hold of that sum in a sandbox is worth. -/
noncomputable def Tryz.pinned : Pinned := { name := "ytbhippphcmkjnaagreatdoor", sum := "f332e947d60a82c2d1db30e8418f191a2edd5fd5582e338c8d267d037e9e30b9", checked := Tryz.checked }
namespace Rows
def none {H : Type} : Left H := { results := [], args := [] }

/- WHAT THE LISTED PACKAGE-LEVEL VARIABLES READ AS WHEN THE CALL BEGINS. Each datum BY PROGRAM (the guide's laid-datum.mjs) off the statement by which the dump's own 'gosem.cut.vars' lays the variable. In a bare row this is a premise. The card (YtbhippphcmkjnaaGreatDoorCards.lean) ties it to the program's text. -/
def laid_testbench_lexer_keywords {H : Type} : DataW H := .slice [.lit (.string [99, 108, 97, 115, 115]), .lit (.string [101, 120, 116, 101, 110, 100, 115]), .lit (.string [114, 97, 110, 100]), .lit (.string [114, 97, 110, 100, 99]), .lit (.string [115, 116, 97, 116, 101]), .lit (.string [99, 111, 110, 115, 116, 114, 97, 105, 110, 116]), .lit (.string [115, 111, 102, 116]), .lit (.string [100, 105, 115, 116]), .lit (.string [105, 102]), .lit (.string [101, 108, 115, 101]), .lit (.string [101, 97, 99, 104]), .lit (.string [105, 110]), .lit (.string [115, 111, 108, 118, 101]), .lit (.string [98, 101, 102, 111, 114, 101]), .lit (.string [105, 110, 115, 105, 100, 101]), .lit (.string [112, 114, 111, 112, 101, 114, 116, 121]), .lit (.string [115, 101, 113]), .lit (.string [97, 110, 100]), .lit (.string [111, 114]), .lit (.string [110, 111, 116]), .lit (.string [115, 101, 116]), .lit (.string [104, 111, 108, 100]), .lit (.string [112, 108, 97, 105, 110]), .lit (.string [114, 101, 112, 101, 97, 116])] []

/-- 'testbenchlaw39.TseqValid': WHATEVER THE INPUT: true; the input reads as it did. -/
def tseqValidSpec : ChangeSpec := { name := "tseqValid", fn := fun _ => fun
  | [d] => { results := [.lit (.bool true)], args := [d] }
  | _ => none }
def tseqValidRow : OpenClaim := { program := "ytbhippphcmkjnaagreatdoor", sum := "f332e947d60a82c2d1db30e8418f191a2edd5fd5582e338c8d267d037e9e30b9", func := "testbench/testbenchlaw39.TseqValid", spec := "tseqValid", inPlace := ["internal/bytealg.IndexByteString", "internal/bytealg.IndexString"], unfollowed := true, recurses := true, named := ["testbench/lexer.keywords", "internal/bytealg.MaxLen"], loops := true, apart := false, laid := [("testbench/lexer.keywords", laid_testbench_lexer_keywords)] }
def TseqValidSaid : Prop := tseqValidRow.holds Tryz.pinned (OpenSpec.ofChange tseqValidSpec)

/-- ITS FALSE NEIGHBOUR: 'it returns false'. Refute it at one input. -/
def tseqValidWrong : ChangeSpec := { name := "tseqValid", fn := fun _ => fun
  | [d] => { results := [.lit (.bool false)], args := [d] }
  | _ => none }
def TseqValidWrongFalsely : Prop := tseqValidRow.holds Tryz.pinned (OpenSpec.ofChange tseqValidWrong)

/-- 'testbenchlaw39.TseqSizes': WHATEVER THE INPUT: true; the input reads as it did. -/
def tseqSizesSpec : ChangeSpec := { name := "tseqSizes", fn := fun _ => fun
  | [d] => { results := [.lit (.bool true)], args := [d] }
  | _ => none }
def tseqSizesRow : OpenClaim := { program := "ytbhippphcmkjnaagreatdoor", sum := "f332e947d60a82c2d1db30e8418f191a2edd5fd5582e338c8d267d037e9e30b9", func := "testbench/testbenchlaw39.TseqSizes", spec := "tseqSizes", inPlace := ["internal/bytealg.IndexByteString", "internal/bytealg.IndexString"], unfollowed := true, recurses := true, named := ["testbench/lexer.keywords", "internal/bytealg.MaxLen"], loops := true, apart := false, laid := [("testbench/lexer.keywords", laid_testbench_lexer_keywords)] }
def TseqSizesSaid : Prop := tseqSizesRow.holds Tryz.pinned (OpenSpec.ofChange tseqSizesSpec)

/-- ITS FALSE NEIGHBOUR: 'it returns false'. Refute it at one input. -/
def tseqSizesWrong : ChangeSpec := { name := "tseqSizes", fn := fun _ => fun
  | [d] => { results := [.lit (.bool false)], args := [d] }
  | _ => none }
def TseqSizesWrongFalsely : Prop := tseqSizesRow.holds Tryz.pinned (OpenSpec.ofChange tseqSizesWrong)

/-- 'testbenchlaw39.TseqLengths': WHATEVER THE INPUT: true; the input reads as it did. -/
def tseqLengthsSpec : ChangeSpec := { name := "tseqLengths", fn := fun _ => fun
  | [d] => { results := [.lit (.bool true)], args := [d] }
  | _ => none }
def tseqLengthsRow : OpenClaim := { program := "ytbhippphcmkjnaagreatdoor", sum := "f332e947d60a82c2d1db30e8418f191a2edd5fd5582e338c8d267d037e9e30b9", func := "testbench/testbenchlaw39.TseqLengths", spec := "tseqLengths", inPlace := ["internal/bytealg.IndexByteString", "internal/bytealg.IndexString"], unfollowed := true, recurses := true, named := ["testbench/lexer.keywords", "internal/bytealg.MaxLen"], loops := true, apart := false, laid := [("testbench/lexer.keywords", laid_testbench_lexer_keywords)] }
def TseqLengthsSaid : Prop := tseqLengthsRow.holds Tryz.pinned (OpenSpec.ofChange tseqLengthsSpec)

/-- ITS FALSE NEIGHBOUR: 'it returns false'. Refute it at one input. -/
def tseqLengthsWrong : ChangeSpec := { name := "tseqLengths", fn := fun _ => fun
  | [d] => { results := [.lit (.bool false)], args := [d] }
  | _ => none }
def TseqLengthsWrongFalsely : Prop := tseqLengthsRow.holds Tryz.pinned (OpenSpec.ofChange tseqLengthsWrong)

/-- 'testbenchlaw39.TseqBounds': WHATEVER THE INPUT: true; the input reads as it did. -/
def tseqBoundsSpec : ChangeSpec := { name := "tseqBounds", fn := fun _ => fun
  | [d] => { results := [.lit (.bool true)], args := [d] }
  | _ => none }
def tseqBoundsRow : OpenClaim := { program := "ytbhippphcmkjnaagreatdoor", sum := "f332e947d60a82c2d1db30e8418f191a2edd5fd5582e338c8d267d037e9e30b9", func := "testbench/testbenchlaw39.TseqBounds", spec := "tseqBounds", inPlace := ["internal/bytealg.IndexByteString", "internal/bytealg.IndexString"], unfollowed := true, recurses := true, named := ["testbench/lexer.keywords", "internal/bytealg.MaxLen"], loops := true, apart := false, laid := [("testbench/lexer.keywords", laid_testbench_lexer_keywords)] }
def TseqBoundsSaid : Prop := tseqBoundsRow.holds Tryz.pinned (OpenSpec.ofChange tseqBoundsSpec)

/-- ITS FALSE NEIGHBOUR: 'it returns false'. Refute it at one input. -/
def tseqBoundsWrong : ChangeSpec := { name := "tseqBounds", fn := fun _ => fun
  | [d] => { results := [.lit (.bool false)], args := [d] }
  | _ => none }
def TseqBoundsWrongFalsely : Prop := tseqBoundsRow.holds Tryz.pinned (OpenSpec.ofChange tseqBoundsWrong)

/-- 'testbenchlaw39.TseqProps': WHATEVER THE INPUT: true; the input reads as it did. -/
def tseqPropsSpec : ChangeSpec := { name := "tseqProps", fn := fun _ => fun
  | [d] => { results := [.lit (.bool true)], args := [d] }
  | _ => none }
def tseqPropsRow : OpenClaim := { program := "ytbhippphcmkjnaagreatdoor", sum := "f332e947d60a82c2d1db30e8418f191a2edd5fd5582e338c8d267d037e9e30b9", func := "testbench/testbenchlaw39.TseqProps", spec := "tseqProps", inPlace := ["internal/bytealg.IndexByteString", "internal/bytealg.IndexString"], unfollowed := true, recurses := true, named := ["testbench/lexer.keywords", "internal/bytealg.MaxLen"], loops := true, apart := false, laid := [("testbench/lexer.keywords", laid_testbench_lexer_keywords)] }
def TseqPropsSaid : Prop := tseqPropsRow.holds Tryz.pinned (OpenSpec.ofChange tseqPropsSpec)

/-- ITS FALSE NEIGHBOUR: 'it returns false'. Refute it at one input. -/
def tseqPropsWrong : ChangeSpec := { name := "tseqProps", fn := fun _ => fun
  | [d] => { results := [.lit (.bool false)], args := [d] }
  | _ => none }
def TseqPropsWrongFalsely : Prop := tseqPropsRow.holds Tryz.pinned (OpenSpec.ofChange tseqPropsWrong)

/- THE SECOND FORM. 'bulk': how many values and letters a reading holds, each counted each time it is reached (what is shared counts as often as it is met; a slice's spare places count too). A statement '..UptoSaid' is the law's where the arguments, and the package variables that the reading takes, are together of bulk at most 1048576: NARROWER than '..Said'. Prove '..Said' where nothing that the law and all that it calls make is longer than what came in: it says more and counts as full. Else prove '..UptoSaid'. A law counts once. -/
mutual
def uptoBulk {H : Type} : DataW H → Nat
  | .lit (.string bytes) => bytes.length + 1
  | .lit _ => 1
  | .nil => 1
  | .ptr d => uptoBulk d + 1
  | .slice elems spare => uptoBulkAll elems + uptoBulkAll spare + 1
  | .agg parts => uptoBulkAll parts + 1
  | .iface _ d => uptoBulk d + 1
  | .map entries => uptoBulkEntries entries + 1
  | .held _ => 1
def uptoBulkAll {H : Type} : List (DataW H) → Nat
  | [] => 0
  | d :: r => uptoBulk d + uptoBulkAll r
def uptoBulkEntries {H : Type} : List (Lit × DataW H) → Nat
  | [] => 0
  | x :: r => uptoBulkEntry x + uptoBulkEntries r
def uptoBulkEntry {H : Type} : Lit × DataW H → Nat
  | (.string bytes, d) => bytes.length + uptoBulk d + 1
  | (_, d) => uptoBulk d + 1
 end
def uptoSmall : (H : Type) → List (DataW H) → Bool := fun _ ds => decide (uptoBulkAll ds ≤ 1048576)
def OpenSpec.upto (s : _root_.Go.ChangeSpec) : _root_.Go.OpenSpec := { _root_.Go.OpenSpec.ofChange s with cond := some uptoSmall }

/-- 'testbenchlaw39.TseqValid', WHERE WHAT IT READS IS OF BULK AT MOST 1048576: true; the input reads as it did. -/
def tseqValidUptoRow : OpenClaim := { program := "ytbhippphcmkjnaagreatdoor", sum := "f332e947d60a82c2d1db30e8418f191a2edd5fd5582e338c8d267d037e9e30b9", func := "testbench/testbenchlaw39.TseqValid", spec := "tseqValid", inPlace := ["internal/bytealg.IndexByteString", "internal/bytealg.IndexString"], unfollowed := true, recurses := true, named := ["testbench/lexer.keywords", "internal/bytealg.MaxLen"], loops := true, apart := false, laid := [("testbench/lexer.keywords", laid_testbench_lexer_keywords)], narrowed := true }
def TseqValidUptoSaid : Prop := tseqValidUptoRow.holds Tryz.pinned (OpenSpec.upto tseqValidSpec)

/-- 'testbenchlaw39.TseqSizes', WHERE WHAT IT READS IS OF BULK AT MOST 1048576: true; the input reads as it did. -/
def tseqSizesUptoRow : OpenClaim := { program := "ytbhippphcmkjnaagreatdoor", sum := "f332e947d60a82c2d1db30e8418f191a2edd5fd5582e338c8d267d037e9e30b9", func := "testbench/testbenchlaw39.TseqSizes", spec := "tseqSizes", inPlace := ["internal/bytealg.IndexByteString", "internal/bytealg.IndexString"], unfollowed := true, recurses := true, named := ["testbench/lexer.keywords", "internal/bytealg.MaxLen"], loops := true, apart := false, laid := [("testbench/lexer.keywords", laid_testbench_lexer_keywords)], narrowed := true }
def TseqSizesUptoSaid : Prop := tseqSizesUptoRow.holds Tryz.pinned (OpenSpec.upto tseqSizesSpec)

/-- 'testbenchlaw39.TseqLengths', WHERE WHAT IT READS IS OF BULK AT MOST 1048576: true; the input reads as it did. -/
def tseqLengthsUptoRow : OpenClaim := { program := "ytbhippphcmkjnaagreatdoor", sum := "f332e947d60a82c2d1db30e8418f191a2edd5fd5582e338c8d267d037e9e30b9", func := "testbench/testbenchlaw39.TseqLengths", spec := "tseqLengths", inPlace := ["internal/bytealg.IndexByteString", "internal/bytealg.IndexString"], unfollowed := true, recurses := true, named := ["testbench/lexer.keywords", "internal/bytealg.MaxLen"], loops := true, apart := false, laid := [("testbench/lexer.keywords", laid_testbench_lexer_keywords)], narrowed := true }
def TseqLengthsUptoSaid : Prop := tseqLengthsUptoRow.holds Tryz.pinned (OpenSpec.upto tseqLengthsSpec)

/-- 'testbenchlaw39.TseqBounds', WHERE WHAT IT READS IS OF BULK AT MOST 1048576: true; the input reads as it did. -/
def tseqBoundsUptoRow : OpenClaim := { program := "ytbhippphcmkjnaagreatdoor", sum := "f332e947d60a82c2d1db30e8418f191a2edd5fd5582e338c8d267d037e9e30b9", func := "testbench/testbenchlaw39.TseqBounds", spec := "tseqBounds", inPlace := ["internal/bytealg.IndexByteString", "internal/bytealg.IndexString"], unfollowed := true, recurses := true, named := ["testbench/lexer.keywords", "internal/bytealg.MaxLen"], loops := true, apart := false, laid := [("testbench/lexer.keywords", laid_testbench_lexer_keywords)], narrowed := true }
def TseqBoundsUptoSaid : Prop := tseqBoundsUptoRow.holds Tryz.pinned (OpenSpec.upto tseqBoundsSpec)

/-- 'testbenchlaw39.TseqProps', WHERE WHAT IT READS IS OF BULK AT MOST 1048576: true; the input reads as it did. -/
def tseqPropsUptoRow : OpenClaim := { program := "ytbhippphcmkjnaagreatdoor", sum := "f332e947d60a82c2d1db30e8418f191a2edd5fd5582e338c8d267d037e9e30b9", func := "testbench/testbenchlaw39.TseqProps", spec := "tseqProps", inPlace := ["internal/bytealg.IndexByteString", "internal/bytealg.IndexString"], unfollowed := true, recurses := true, named := ["testbench/lexer.keywords", "internal/bytealg.MaxLen"], loops := true, apart := false, laid := [("testbench/lexer.keywords", laid_testbench_lexer_keywords)], narrowed := true }
def TseqPropsUptoSaid : Prop := tseqPropsUptoRow.holds Tryz.pinned (OpenSpec.upto tseqPropsSpec)

end Rows
end Go.Proofs.YtbhippphcmkjnaaGreatDoor
