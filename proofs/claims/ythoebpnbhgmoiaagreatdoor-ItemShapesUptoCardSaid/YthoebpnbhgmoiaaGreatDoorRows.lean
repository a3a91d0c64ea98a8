/-
  NARROWER THAN 'FOR EVERY INPUT', by the rows' own cells (each row's printed sentence says how): ItemChecks: loops, laid · ItemUnrolls: loops, laid · ItemScalars: loops, laid · ItemExpands: loops, laid · ItemKeeps: loops, laid · ItemShapes: loops, laid.
  DERIVED. THE GIVEN ROWS OF THIS SEAT. 6 by the template 'for every input the law returns true; each argument reads behind the call as it read before'; 0 by the template 'total and deterministic' (their statements: YthoebpnbhgmoiaaGreatDoorTotals.lean).
  GIVEN WITH THE SEED: the statements are not yours to turn. If you find one false, say at which input.
  Laid BY PROGRAM, IN A SANDBOX (cutbox-rows.mjs): the forced cells as the released guide's own fill.sh prints them over the translation b61f523ba68ef724… (all of the seat's roots in one cut). By AI agents, Wed Nov 11 2026. No macro, syntax, notation, axiom, sorry.
-/
import Derived.Test.YthoebpnbhgmoiaaGreatDoorChecked
import GoSem.Claim
import GoSem.ClaimJoined
import GoSem.ClaimMapViews
import Derived.JoinedTies
import Derived.KernelRfl
namespace Go.Proofs.YthoebpnbhgmoiaaGreatDoor
/- THE CELL 'sum', in the pinned program and in every row, IS THE sha256 OF THE DUMP (.gsa) THAT YthoebpnbhgmoiaaGreatDoorProg.lean LOADS. Nothing in Lean hashes anything: it is a label: what it is worth is what the hold of that sum in a sandbox is worth. -/
noncomputable def Tryz.pinned : Pinned := { name := "ythoebpnbhgmoiaagreatdoor", sum := "b61f523ba68ef7249fee42c3ed7a7be6fe305e370b28a91e39de2e8521a4632e", checked := Tryz.checked }
namespace Rows
def none {H : Type} : Left H := { results := [], args := [] }

/- WHAT THE LISTED PACKAGE-LEVEL VARIABLES READ AS WHEN THE CALL BEGINS. Each datum BY PROGRAM (the guide's laid-datum.mjs) off the statement by which the dump's own 'gosem.cut.vars' lays the variable. In a bare row this is a premise. The card (YthoebpnbhgmoiaaGreatDoorCards.lean) ties it to the program's text. -/
def laid_testbench_lexer_keywords {H : Type} : DataW H := .slice [.lit (.string [99, 108, 97, 115, 115]), .lit (.string [101, 120, 116, 101, 110, 100, 115]), .lit (.string [114, 97, 110, 100]), .lit (.string [114, 97, 110, 100, 99]), .lit (.string [115, 116, 97, 116, 101]), .lit (.string [99, 111, 110, 115, 116, 114, 97, 105, 110, 116]), .lit (.string [115, 111, 102, 116]), .lit (.string [100, 105, 115, 116]), .lit (.string [105, 102]), .lit (.string [101, 108, 115, 101]), .lit (.string [101, 97, 99, 104]), .lit (.string [105, 110]), .lit (.string [115, 111, 108, 118, 101]), .lit (.string [98, 101, 102, 111, 114, 101]), .lit (.string [105, 110, 115, 105, 100, 101]), .lit (.string [112, 114, 111, 112, 101, 114, 116, 121]), .lit (.string [115, 101, 113]), .lit (.string [97, 110, 100]), .lit (.string [111, 114]), .lit (.string [110, 111, 116]), .lit (.string [115, 101, 116]), .lit (.string [104, 111, 108, 100]), .lit (.string [112, 108, 97, 105, 110]), .lit (.string [114, 101, 112, 101, 97, 116])] []

/-- 'testbenchlaw11.ItemChecks': WHATEVER THE INPUT: true; the input reads as it did. -/
def itemChecksSpec : ChangeSpec := { name := "itemChecks", fn := fun _ => fun
  | [d1, d2] => { results := [.lit (.bool true)], args := [d1, d2] }
  | _ => none }
def itemChecksRow : OpenClaim := { program := "ythoebpnbhgmoiaagreatdoor", sum := "b61f523ba68ef7249fee42c3ed7a7be6fe305e370b28a91e39de2e8521a4632e", func := "testbench/testbenchlaw11.ItemChecks", spec := "itemChecks", inPlace := ["internal/bytealg.IndexByteString", "internal/bytealg.IndexString"], unfollowed := true, recurses := true, named := ["internal/bytealg.MaxLen", "testbench/lexer.keywords"], loops := true, apart := false, laid := [("testbench/lexer.keywords", laid_testbench_lexer_keywords)] }
def ItemChecksSaid : Prop := itemChecksRow.holds Tryz.pinned (OpenSpec.ofChange itemChecksSpec)

/-- ITS FALSE NEIGHBOUR: 'it returns false'. Refute it at one input. -/
def itemChecksWrong : ChangeSpec := { name := "itemChecks", fn := fun _ => fun
  | [d1, d2] => { results := [.lit (.bool false)], args := [d1, d2] }
  | _ => none }
def ItemChecksWrongFalsely : Prop := itemChecksRow.holds Tryz.pinned (OpenSpec.ofChange itemChecksWrong)

/-- 'testbenchlaw11.ItemUnrolls': WHATEVER THE INPUT: true; the input reads as it did. -/
def itemUnrollsSpec : ChangeSpec := { name := "itemUnrolls", fn := fun _ => fun
  | [d1, d2] => { results := [.lit (.bool true)], args := [d1, d2] }
  | _ => none }
def itemUnrollsRow : OpenClaim := { program := "ythoebpnbhgmoiaagreatdoor", sum := "b61f523ba68ef7249fee42c3ed7a7be6fe305e370b28a91e39de2e8521a4632e", func := "testbench/testbenchlaw11.ItemUnrolls", spec := "itemUnrolls", inPlace := ["internal/bytealg.IndexByteString", "internal/bytealg.IndexString"], unfollowed := true, recurses := true, named := ["internal/bytealg.MaxLen", "testbench/lexer.keywords"], loops := true, apart := false, laid := [("testbench/lexer.keywords", laid_testbench_lexer_keywords)] }
def ItemUnrollsSaid : Prop := itemUnrollsRow.holds Tryz.pinned (OpenSpec.ofChange itemUnrollsSpec)

/-- ITS FALSE NEIGHBOUR: 'it returns false'. Refute it at one input. -/
def itemUnrollsWrong : ChangeSpec := { name := "itemUnrolls", fn := fun _ => fun
  | [d1, d2] => { results := [.lit (.bool false)], args := [d1, d2] }
  | _ => none }
def ItemUnrollsWrongFalsely : Prop := itemUnrollsRow.holds Tryz.pinned (OpenSpec.ofChange itemUnrollsWrong)

/-- 'testbenchlaw11.ItemScalars': WHATEVER THE INPUT: true; the input reads as it did. -/
def itemScalarsSpec : ChangeSpec := { name := "itemScalars", fn := fun _ => fun
  | [d1, d2] => { results := [.lit (.bool true)], args := [d1, d2] }
  | _ => none }
def itemScalarsRow : OpenClaim := { program := "ythoebpnbhgmoiaagreatdoor", sum := "b61f523ba68ef7249fee42c3ed7a7be6fe305e370b28a91e39de2e8521a4632e", func := "testbench/testbenchlaw11.ItemScalars", spec := "itemScalars", inPlace := ["internal/bytealg.IndexByteString", "internal/bytealg.IndexString"], unfollowed := true, recurses := true, named := ["internal/bytealg.MaxLen", "testbench/lexer.keywords"], loops := true, apart := false, laid := [("testbench/lexer.keywords", laid_testbench_lexer_keywords)] }
def ItemScalarsSaid : Prop := itemScalarsRow.holds Tryz.pinned (OpenSpec.ofChange itemScalarsSpec)

/-- ITS FALSE NEIGHBOUR: 'it returns false'. Refute it at one input. -/
def itemScalarsWrong : ChangeSpec := { name := "itemScalars", fn := fun _ => fun
  | [d1, d2] => { results := [.lit (.bool false)], args := [d1, d2] }
  | _ => none }
def ItemScalarsWrongFalsely : Prop := itemScalarsRow.holds Tryz.pinned (OpenSpec.ofChange itemScalarsWrong)

/-- 'testbenchlaw11.ItemExpands': WHATEVER THE INPUT: true; the input reads as it did. -/
def itemExpandsSpec : ChangeSpec := { name := "itemExpands", fn := fun _ => fun
  | [d1, d2, d3] => { results := [.lit (.bool true)], args := [d1, d2, d3] }
  | _ => none }
def itemExpandsRow : OpenClaim := { program := "ythoebpnbhgmoiaagreatdoor", sum := "b61f523ba68ef7249fee42c3ed7a7be6fe305e370b28a91e39de2e8521a4632e", func := "testbench/testbenchlaw11.ItemExpands", spec := "itemExpands", inPlace := ["internal/bytealg.IndexByteString", "internal/bytealg.IndexString"], unfollowed := true, recurses := true, named := ["internal/bytealg.MaxLen", "testbench/lexer.keywords"], loops := true, apart := false, laid := [("testbench/lexer.keywords", laid_testbench_lexer_keywords)] }
def ItemExpandsSaid : Prop := itemExpandsRow.holds Tryz.pinned (OpenSpec.ofChange itemExpandsSpec)

/-- ITS FALSE NEIGHBOUR: 'it returns false'. Refute it at one input. -/
def itemExpandsWrong : ChangeSpec := { name := "itemExpands", fn := fun _ => fun
  | [d1, d2, d3] => { results := [.lit (.bool false)], args := [d1, d2, d3] }
  | _ => none }
def ItemExpandsWrongFalsely : Prop := itemExpandsRow.holds Tryz.pinned (OpenSpec.ofChange itemExpandsWrong)

/-- 'testbenchlaw11.ItemKeeps': WHATEVER THE INPUT: true; the input reads as it did. -/
def itemKeepsSpec : ChangeSpec := { name := "itemKeeps", fn := fun _ => fun
  | [d1, d2, d3] => { results := [.lit (.bool true)], args := [d1, d2, d3] }
  | _ => none }
def itemKeepsRow : OpenClaim := { program := "ythoebpnbhgmoiaagreatdoor", sum := "b61f523ba68ef7249fee42c3ed7a7be6fe305e370b28a91e39de2e8521a4632e", func := "testbench/testbenchlaw11.ItemKeeps", spec := "itemKeeps", inPlace := ["internal/bytealg.IndexByteString", "internal/bytealg.IndexString"], unfollowed := true, recurses := true, named := ["internal/bytealg.MaxLen", "testbench/lexer.keywords"], loops := true, apart := false, laid := [("testbench/lexer.keywords", laid_testbench_lexer_keywords)] }
def ItemKeepsSaid : Prop := itemKeepsRow.holds Tryz.pinned (OpenSpec.ofChange itemKeepsSpec)

/-- ITS FALSE NEIGHBOUR: 'it returns false'. Refute it at one input. -/
def itemKeepsWrong : ChangeSpec := { name := "itemKeeps", fn := fun _ => fun
  | [d1, d2, d3] => { results := [.lit (.bool false)], args := [d1, d2, d3] }
  | _ => none }
def ItemKeepsWrongFalsely : Prop := itemKeepsRow.holds Tryz.pinned (OpenSpec.ofChange itemKeepsWrong)

/-- 'testbenchlaw11.ItemShapes': WHATEVER THE INPUT: true; the input reads as it did. -/
def itemShapesSpec : ChangeSpec := { name := "itemShapes", fn := fun _ => fun
  | [d] => { results := [.lit (.bool true)], args := [d] }
  | _ => none }
def itemShapesRow : OpenClaim := { program := "ythoebpnbhgmoiaagreatdoor", sum := "b61f523ba68ef7249fee42c3ed7a7be6fe305e370b28a91e39de2e8521a4632e", func := "testbench/testbenchlaw11.ItemShapes", spec := "itemShapes", inPlace := ["internal/bytealg.IndexByteString", "internal/bytealg.IndexString"], unfollowed := true, recurses := true, named := ["internal/bytealg.MaxLen", "testbench/lexer.keywords"], loops := true, apart := false, laid := [("testbench/lexer.keywords", laid_testbench_lexer_keywords)] }
def ItemShapesSaid : Prop := itemShapesRow.holds Tryz.pinned (OpenSpec.ofChange itemShapesSpec)

/-- ITS FALSE NEIGHBOUR: 'it returns false'. Refute it at one input. -/
def itemShapesWrong : ChangeSpec := { name := "itemShapes", fn := fun _ => fun
  | [d] => { results := [.lit (.bool false)], args := [d] }
  | _ => none }
def ItemShapesWrongFalsely : Prop := itemShapesRow.holds Tryz.pinned (OpenSpec.ofChange itemShapesWrong)

/- THE SECOND FORM. 'bulk': how many values and letters a reading holds, each counted each time it is reached (what is shared counts as often as it is met; a slice's spare places count too). A statement '..UptoSaid' is the law's where the arguments, and the package variables that the reading takes, are together of bulk at most 1048576: NARROWER than '..Said'. Prove '..Said' where nothing that the law and all that it calls make is longer than what came in: it says more and counts as full. Else prove '..UptoSaid'. A law counts once. -/
mutual
def uptoBulk {H : Type} : DataW H → Nat
  | .lit (.string bytes) => bytes.length + 1
  | .lit _ => 1
  | .nil => 1
  | .ptr d => uptoBulk d + 1
  | .slice elems spare => uptoBulkAll elems + uptoBulkAll spare + 1
  | .agg parts => uptoBulkAll parts + 1
  | .iface _ d => uptoBulk d + 1
  | .map entries => uptoBulkEntries entries + 1
  | .held _ => 1
def uptoBulkAll {H : Type} : List (DataW H) → Nat
  | [] => 0
  | d :: r => uptoBulk d + uptoBulkAll r
def uptoBulkEntries {H : Type} : List (Lit × DataW H) → Nat
  | [] => 0
  | x :: r => uptoBulkEntry x + uptoBulkEntries r
def uptoBulkEntry {H : Type} : Lit × DataW H → Nat
  | (.string bytes, d) => bytes.length + uptoBulk d + 1
  | (_, d) => uptoBulk d + 1
 end
def uptoSmall : (H : Type) → List (DataW H) → Bool := fun _ ds => decide (uptoBulkAll ds ≤ 1048576)
def OpenSpec.upto (s : _root_.Go.ChangeSpec) : _root_.Go.OpenSpec := { _root_.Go.OpenSpec.ofChange s with cond := some uptoSmall }

/-- 'testbenchlaw11.ItemChecks', WHERE WHAT IT READS IS OF BULK AT MOST 1048576: true; the input reads as it did. -/
def itemChecksUptoRow : OpenClaim := { program := "ythoebpnbhgmoiaagreatdoor", sum := "b61f523ba68ef7249fee42c3ed7a7be6fe305e370b28a91e39de2e8521a4632e", func := "testbench/testbenchlaw11.ItemChecks", spec := "itemChecks", inPlace := ["internal/bytealg.IndexByteString", "internal/bytealg.IndexString"], unfollowed := true, recurses := true, named := ["internal/bytealg.MaxLen", "testbench/lexer.keywords"], loops := true, apart := false, laid := [("testbench/lexer.keywords", laid_testbench_lexer_keywords)], narrowed := true }
def ItemChecksUptoSaid : Prop := itemChecksUptoRow.holds Tryz.pinned (OpenSpec.upto itemChecksSpec)

/-- 'testbenchlaw11.ItemUnrolls', WHERE WHAT IT READS IS OF BULK AT MOST 1048576: true; the input reads as it did. -/
def itemUnrollsUptoRow : OpenClaim := { program := "ythoebpnbhgmoiaagreatdoor", sum := "b61f523ba68ef7249fee42c3ed7a7be6fe305e370b28a91e39de2e8521a4632e", func := "testbench/testbenchlaw11.ItemUnrolls", spec := "itemUnrolls", inPlace := ["internal/bytealg.IndexByteString", "internal/bytealg.IndexString"], unfollowed := true, recurses := true, named := ["internal/bytealg.MaxLen", "testbench/lexer.keywords"], loops := true, apart := false, laid := [("testbench/lexer.keywords", laid_testbench_lexer_keywords)], narrowed := true }
def ItemUnrollsUptoSaid : Prop := itemUnrollsUptoRow.holds Tryz.pinned (OpenSpec.upto itemUnrollsSpec)

/-- 'testbenchlaw11.ItemScalars', WHERE WHAT IT READS IS OF BULK AT MOST 1048576: true; the input reads as it did. -/
def itemScalarsUptoRow : OpenClaim := { program := "ythoebpnbhgmoiaagreatdoor", sum := "b61f523ba68ef7249fee42c3ed7a7be6fe305e370b28a91e39de2e8521a4632e", func := "testbench/testbenchlaw11.ItemScalars", spec := "itemScalars", inPlace := ["internal/bytealg.IndexByteString", "internal/bytealg.IndexString"], unfollowed := true, recurses := true, named := ["internal/bytealg.MaxLen", "testbench/lexer.keywords"], loops := true, apart := false, laid := [("testbench/lexer.keywords", laid_testbench_lexer_keywords)], narrowed := true }
def ItemScalarsUptoSaid : Prop := itemScalarsUptoRow.holds Tryz.pinned (OpenSpec.upto itemScalarsSpec)

/-- 'testbenchlaw11.ItemExpands', WHERE WHAT IT READS IS OF BULK AT MOST 1048576: true; the input reads as it did. -/
def itemExpandsUptoRow : OpenClaim := { program := "ythoebpnbhgmoiaagreatdoor", sum := "b61f523ba68ef7249fee42c3ed7a7be6fe305e370b28a91e39de2e8521a4632e", func := "testbench/testbenchlaw11.ItemExpands", spec := "itemExpands", inPlace := ["internal/bytealg.IndexByteString", "internal/bytealg.IndexString"], unfollowed := true, recurses := true, named := ["internal/bytealg.MaxLen", "testbench/lexer.keywords"], loops := true, apart := false, laid := [("testbench/lexer.keywords", laid_testbench_lexer_keywords)], narrowed := true }
def ItemExpandsUptoSaid : Prop := itemExpandsUptoRow.holds Tryz.pinned (OpenSpec.upto itemExpandsSpec)

/-- 'testbenchlaw11.ItemKeeps', WHERE WHAT IT READS IS OF BULK AT MOST 1048576: true; the input reads as it did. -/
def itemKeepsUptoRow : OpenClaim := { program := "ythoebpnbhgmoiaagreatdoor", sum := "b61f523ba68ef7249fee42c3ed7a7be6fe305e370b28a91e39de2e8521a4632e", func := "testbench/testbenchlaw11.ItemKeeps", spec := "itemKeeps", inPlace := ["internal/bytealg.IndexByteString", "internal/bytealg.IndexString"], unfollowed := true, recurses := true, named := ["internal/bytealg.MaxLen", "testbench/lexer.keywords"], loops := true, apart := false, laid := [("testbench/lexer.keywords", laid_testbench_lexer_keywords)], narrowed := true }
def ItemKeepsUptoSaid : Prop := itemKeepsUptoRow.holds Tryz.pinned (OpenSpec.upto itemKeepsSpec)

/-- 'testbenchlaw11.ItemShapes', WHERE WHAT IT READS IS OF BULK AT MOST 1048576: true; the input reads as it did. -/
def itemShapesUptoRow : OpenClaim := { program := "ythoebpnbhgmoiaagreatdoor", sum := "b61f523ba68ef7249fee42c3ed7a7be6fe305e370b28a91e39de2e8521a4632e", func := "testbench/testbenchlaw11.ItemShapes", spec := "itemShapes", inPlace := ["internal/bytealg.IndexByteString", "internal/bytealg.IndexString"], unfollowed := true, recurses := true, named := ["internal/bytealg.MaxLen", "testbench/lexer.keywords"], loops := true, apart := false, laid := [("testbench/lexer.keywords", laid_testbench_lexer_keywords)], narrowed := true }
def ItemShapesUptoSaid : Prop := itemShapesUptoRow.holds Tryz.pinned (OpenSpec.upto itemShapesSpec)

end Rows
end Go.Proofs.YthoebpnbhgmoiaaGreatDoor
