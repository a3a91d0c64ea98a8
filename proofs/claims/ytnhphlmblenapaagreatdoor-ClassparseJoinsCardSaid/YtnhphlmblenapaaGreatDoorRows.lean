/-
  NARROWER THAN 'FOR EVERY INPUT', by the rows' own cells (each row's printed sentence says how): ClassparseItems: laid · ClassparseClasses: laid · ClassparseSources: laid · ClassparseJoins: laid · ClassparseRoundTrips: loops, laid.
  DERIVED. THE GIVEN ROWS OF THIS SEAT. 5 by the template 'for every input the law returns true; each argument reads behind the call as it read before'; 0 by the template 'total and deterministic' (their statements: YtnhphlmblenapaaGreatDoorTotals.lean).
  GIVEN WITH THE SEED: the statements are not yours to turn. If you find one false, say at which input.
  Laid BY PROGRAM, IN A SANDBOX (cutbox-rows.mjs): the forced cells as the released guide's own fill.sh prints them over the translation e9ea6f5937dd5c9a… (all of the seat's roots in one cut). By AI agents, Wed Nov 11 2026. No macro, syntax, notation, axiom, sorry.
-/
import Derived.Test.YtnhphlmblenapaaGreatDoorChecked
import GoSem.Claim
import GoSem.ClaimJoined
import GoSem.ClaimMapViews
import Derived.JoinedTies
import Derived.KernelRfl
namespace Go.Proofs.YtnhphlmblenapaaGreatDoor
/- THE CELL 'sum', in the pinned program and in every row, IS THE sha256 OF THE DUMP (.gsa) THAT YtnhphlmblenapaaGreatDoorProg.lean LOADS. Nothing in Lean hashes anything: it is a label: what it is worth is what the hold of that sum in a sandbox is worth. -/
noncomputable def Tryz.pinned : Pinned := { name := "ytnhphlmblenapaagreatdoor", sum := "e9ea6f5937dd5c9a5bda7fc33085b386621c1d54a60dd73c6b7f241118f4ccc3", checked := Tryz.checked }
namespace Rows
def none {H : Type} : Left H := { results := [], args := [] }

/- WHAT THE LISTED PACKAGE-LEVEL VARIABLES READ AS WHEN THE CALL BEGINS. Each datum BY PROGRAM (the guide's laid-datum.mjs) off the statement by which the dump's own 'gosem.cut.vars' lays the variable. In a bare row this is a premise. The card (YtnhphlmblenapaaGreatDoorCards.lean) ties it to the program's text. -/
def laid_math_bits_deBruijn32tab {H : Type} : DataW H := .agg [.lit (.int .u8 0), .lit (.int .u8 1), .lit (.int .u8 28), .lit (.int .u8 2), .lit (.int .u8 29), .lit (.int .u8 14), .lit (.int .u8 24), .lit (.int .u8 3), .lit (.int .u8 30), .lit (.int .u8 22), .lit (.int .u8 20), .lit (.int .u8 15), .lit (.int .u8 25), .lit (.int .u8 17), .lit (.int .u8 4), .lit (.int .u8 8), .lit (.int .u8 31), .lit (.int .u8 27), .lit (.int .u8 13), .lit (.int .u8 23), .lit (.int .u8 21), .lit (.int .u8 19), .lit (.int .u8 16), .lit (.int .u8 7), .lit (.int .u8 26), .lit (.int .u8 12), .lit (.int .u8 18), .lit (.int .u8 6), .lit (.int .u8 11), .lit (.int .u8 5), .lit (.int .u8 10), .lit (.int .u8 9)]
def laid_math_bits_deBruijn64tab {H : Type} : DataW H := .agg [.lit (.int .u8 0), .lit (.int .u8 1), .lit (.int .u8 56), .lit (.int .u8 2), .lit (.int .u8 57), .lit (.int .u8 49), .lit (.int .u8 28), .lit (.int .u8 3), .lit (.int .u8 61), .lit (.int .u8 58), .lit (.int .u8 42), .lit (.int .u8 50), .lit (.int .u8 38), .lit (.int .u8 29), .lit (.int .u8 17), .lit (.int .u8 4), .lit (.int .u8 62), .lit (.int .u8 47), .lit (.int .u8 59), .lit (.int .u8 36), .lit (.int .u8 45), .lit (.int .u8 43), .lit (.int .u8 51), .lit (.int .u8 22), .lit (.int .u8 53), .lit (.int .u8 39), .lit (.int .u8 33), .lit (.int .u8 30), .lit (.int .u8 24), .lit (.int .u8 18), .lit (.int .u8 12), .lit (.int .u8 5), .lit (.int .u8 63), .lit (.int .u8 55), .lit (.int .u8 48), .lit (.int .u8 27), .lit (.int .u8 60), .lit (.int .u8 41), .lit (.int .u8 37), .lit (.int .u8 16), .lit (.int .u8 46), .lit (.int .u8 35), .lit (.int .u8 44), .lit (.int .u8 21), .lit (.int .u8 52), .lit (.int .u8 32), .lit (.int .u8 23), .lit (.int .u8 11), .lit (.int .u8 54), .lit (.int .u8 26), .lit (.int .u8 40), .lit (.int .u8 15), .lit (.int .u8 34), .lit (.int .u8 20), .lit (.int .u8 31), .lit (.int .u8 10), .lit (.int .u8 25), .lit (.int .u8 14), .lit (.int .u8 19), .lit (.int .u8 9), .lit (.int .u8 13), .lit (.int .u8 8), .lit (.int .u8 7), .lit (.int .u8 6)]
def laid_internal_strconv_uint64pow10 {H : Type} : DataW H := .agg [.lit (.int .u64 1), .lit (.int .u64 10), .lit (.int .u64 100), .lit (.int .u64 1000), .lit (.int .u64 10000), .lit (.int .u64 100000), .lit (.int .u64 1000000), .lit (.int .u64 10000000), .lit (.int .u64 100000000), .lit (.int .u64 1000000000), .lit (.int .u64 10000000000), .lit (.int .u64 100000000000), .lit (.int .u64 1000000000000), .lit (.int .u64 10000000000000), .lit (.int .u64 100000000000000), .lit (.int .u64 1000000000000000), .lit (.int .u64 10000000000000000), .lit (.int .u64 100000000000000000), .lit (.int .u64 1000000000000000000), .lit (.int .u64 10000000000000000000)]
def laid_strconv_ErrRange {H : Type} : DataW H := .iface "*errors.errorString" (.ptr (.agg [.lit (.string [118, 97, 108, 117, 101, 32, 111, 117, 116, 32, 111, 102, 32, 114, 97, 110, 103, 101])]))
def laid_strconv_ErrSyntax {H : Type} : DataW H := .iface "*errors.errorString" (.ptr (.agg [.lit (.string [105, 110, 118, 97, 108, 105, 100, 32, 115, 121, 110, 116, 97, 120])]))
def laid_testbench_lexer_keywords {H : Type} : DataW H := .slice [.lit (.string [99, 108, 97, 115, 115]), .lit (.string [101, 120, 116, 101, 110, 100, 115]), .lit (.string [114, 97, 110, 100]), .lit (.string [114, 97, 110, 100, 99]), .lit (.string [115, 116, 97, 116, 101]), .lit (.string [99, 111, 110, 115, 116, 114, 97, 105, 110, 116]), .lit (.string [115, 111, 102, 116]), .lit (.string [100, 105, 115, 116]), .lit (.string [105, 102]), .lit (.string [101, 108, 115, 101]), .lit (.string [101, 97, 99, 104]), .lit (.string [105, 110]), .lit (.string [115, 111, 108, 118, 101]), .lit (.string [98, 101, 102, 111, 114, 101]), .lit (.string [105, 110, 115, 105, 100, 101]), .lit (.string [112, 114, 111, 112, 101, 114, 116, 121]), .lit (.string [115, 101, 113]), .lit (.string [97, 110, 100]), .lit (.string [111, 114]), .lit (.string [110, 111, 116]), .lit (.string [115, 101, 116]), .lit (.string [104, 111, 108, 100]), .lit (.string [112, 108, 97, 105, 110]), .lit (.string [114, 101, 112, 101, 97, 116])] []
def laid_testbench_lexer_marks {H : Type} : DataW H := .slice [.lit (.string [40]), .lit (.string [41]), .lit (.string [123]), .lit (.string [125]), .lit (.string [91]), .lit (.string [93]), .lit (.string [44]), .lit (.string [59]), .lit (.string [58]), .lit (.string [46, 46]), .lit (.string [63]), .lit (.string [61]), .lit (.string [61, 61]), .lit (.string [33, 61]), .lit (.string [60]), .lit (.string [60, 61]), .lit (.string [62]), .lit (.string [62, 61]), .lit (.string [60, 60]), .lit (.string [62, 62]), .lit (.string [43]), .lit (.string [45]), .lit (.string [42]), .lit (.string [38]), .lit (.string [124]), .lit (.string [94]), .lit (.string [126]), .lit (.string [33]), .lit (.string [38, 38]), .lit (.string [124, 124]), .lit (.string [45, 62]), .lit (.string [61, 62]), .lit (.string [58, 61]), .lit (.string [58, 47]), .lit (.string [35, 35]), .lit (.string [64])] []

/-- 'testbenchlaw13.ClassparseItems': WHATEVER THE INPUT: true; the input reads as it did. -/
def classparseItemsSpec : ChangeSpec := { name := "classparseItems", fn := fun _ => fun
  | [d] => { results := [.lit (.bool true)], args := [d] }
  | _ => none }
def classparseItemsRow : OpenClaim := { program := "ytnhphlmblenapaagreatdoor", sum := "e9ea6f5937dd5c9a5bda7fc33085b386621c1d54a60dd73c6b7f241118f4ccc3", func := "testbench/testbenchlaw13.ClassparseItems", spec := "classparseItems", inPlace := ["internal/bytealg.CountString", "internal/bytealg.IndexByteString", "internal/bytealg.IndexString", "internal/abi.NoEscape", "internal/bytealg.MakeNoZero"], unfollowed := true, recurses := true, named := ["internal/bytealg.MaxLen", "testbench/lexer.keywords", "strconv.ErrSyntax", "strconv.ErrRange", "internal/strconv.uint64pow10", "math/bits.deBruijn32tab", "math/bits.deBruijn64tab", "testbench/lexer.marks"], apart := false, laid := [("math/bits.deBruijn32tab", laid_math_bits_deBruijn32tab), ("math/bits.deBruijn64tab", laid_math_bits_deBruijn64tab), ("internal/strconv.uint64pow10", laid_internal_strconv_uint64pow10), ("strconv.ErrRange", laid_strconv_ErrRange), ("strconv.ErrSyntax", laid_strconv_ErrSyntax), ("testbench/lexer.keywords", laid_testbench_lexer_keywords), ("testbench/lexer.marks", laid_testbench_lexer_marks)] }
def ClassparseItemsSaid : Prop := classparseItemsRow.holds Tryz.pinned (OpenSpec.ofChange classparseItemsSpec)

/-- ITS FALSE NEIGHBOUR: 'it returns false'. Refute it at one input. -/
def classparseItemsWrong : ChangeSpec := { name := "classparseItems", fn := fun _ => fun
  | [d] => { results := [.lit (.bool false)], args := [d] }
  | _ => none }
def ClassparseItemsWrongFalsely : Prop := classparseItemsRow.holds Tryz.pinned (OpenSpec.ofChange classparseItemsWrong)

/-- 'testbenchlaw13.ClassparseClasses': WHATEVER THE INPUT: true; the input reads as it did. -/
def classparseClassesSpec : ChangeSpec := { name := "classparseClasses", fn := fun _ => fun
  | [d] => { results := [.lit (.bool true)], args := [d] }
  | _ => none }
def classparseClassesRow : OpenClaim := { program := "ytnhphlmblenapaagreatdoor", sum := "e9ea6f5937dd5c9a5bda7fc33085b386621c1d54a60dd73c6b7f241118f4ccc3", func := "testbench/testbenchlaw13.ClassparseClasses", spec := "classparseClasses", inPlace := ["internal/bytealg.CountString", "internal/bytealg.IndexByteString", "internal/bytealg.IndexString", "internal/abi.NoEscape", "internal/bytealg.MakeNoZero"], unfollowed := true, recurses := true, named := ["internal/bytealg.MaxLen", "testbench/lexer.keywords", "strconv.ErrSyntax", "strconv.ErrRange", "internal/strconv.uint64pow10", "math/bits.deBruijn32tab", "math/bits.deBruijn64tab", "testbench/lexer.marks"], apart := false, laid := [("math/bits.deBruijn32tab", laid_math_bits_deBruijn32tab), ("math/bits.deBruijn64tab", laid_math_bits_deBruijn64tab), ("internal/strconv.uint64pow10", laid_internal_strconv_uint64pow10), ("strconv.ErrRange", laid_strconv_ErrRange), ("strconv.ErrSyntax", laid_strconv_ErrSyntax), ("testbench/lexer.keywords", laid_testbench_lexer_keywords), ("testbench/lexer.marks", laid_testbench_lexer_marks)] }
def ClassparseClassesSaid : Prop := classparseClassesRow.holds Tryz.pinned (OpenSpec.ofChange classparseClassesSpec)

/-- ITS FALSE NEIGHBOUR: 'it returns false'. Refute it at one input. -/
def classparseClassesWrong : ChangeSpec := { name := "classparseClasses", fn := fun _ => fun
  | [d] => { results := [.lit (.bool false)], args := [d] }
  | _ => none }
def ClassparseClassesWrongFalsely : Prop := classparseClassesRow.holds Tryz.pinned (OpenSpec.ofChange classparseClassesWrong)

/-- 'testbenchlaw13.ClassparseSources': WHATEVER THE INPUT: true; the input reads as it did. -/
def classparseSourcesSpec : ChangeSpec := { name := "classparseSources", fn := fun _ => fun
  | [d] => { results := [.lit (.bool true)], args := [d] }
  | _ => none }
def classparseSourcesRow : OpenClaim := { program := "ytnhphlmblenapaagreatdoor", sum := "e9ea6f5937dd5c9a5bda7fc33085b386621c1d54a60dd73c6b7f241118f4ccc3", func := "testbench/testbenchlaw13.ClassparseSources", spec := "classparseSources", inPlace := ["internal/bytealg.CountString", "internal/bytealg.IndexByteString", "internal/bytealg.IndexString", "internal/abi.NoEscape", "internal/bytealg.MakeNoZero"], unfollowed := true, recurses := true, named := ["internal/bytealg.MaxLen", "testbench/lexer.keywords", "strconv.ErrSyntax", "strconv.ErrRange", "internal/strconv.uint64pow10", "math/bits.deBruijn32tab", "math/bits.deBruijn64tab", "testbench/lexer.marks"], apart := false, laid := [("math/bits.deBruijn32tab", laid_math_bits_deBruijn32tab), ("math/bits.deBruijn64tab", laid_math_bits_deBruijn64tab), ("internal/strconv.uint64pow10", laid_internal_strconv_uint64pow10), ("strconv.ErrRange", laid_strconv_ErrRange), ("strconv.ErrSyntax", laid_strconv_ErrSyntax), ("testbench/lexer.keywords", laid_testbench_lexer_keywords), ("testbench/lexer.marks", laid_testbench_lexer_marks)] }
def ClassparseSourcesSaid : Prop := classparseSourcesRow.holds Tryz.pinned (OpenSpec.ofChange classparseSourcesSpec)

/-- ITS FALSE NEIGHBOUR: 'it returns false'. Refute it at one input. -/
def classparseSourcesWrong : ChangeSpec := { name := "classparseSources", fn := fun _ => fun
  | [d] => { results := [.lit (.bool false)], args := [d] }
  | _ => none }
def ClassparseSourcesWrongFalsely : Prop := classparseSourcesRow.holds Tryz.pinned (OpenSpec.ofChange classparseSourcesWrong)

/-- 'testbenchlaw13.ClassparseJoins': WHATEVER THE INPUT: true; the input reads as it did. -/
def classparseJoinsSpec : ChangeSpec := { name := "classparseJoins", fn := fun _ => fun
  | [d1, d2] => { results := [.lit (.bool true)], args := [d1, d2] }
  | _ => none }
def classparseJoinsRow : OpenClaim := { program := "ytnhphlmblenapaagreatdoor", sum := "e9ea6f5937dd5c9a5bda7fc33085b386621c1d54a60dd73c6b7f241118f4ccc3", func := "testbench/testbenchlaw13.ClassparseJoins", spec := "classparseJoins", inPlace := ["internal/bytealg.CountString", "internal/bytealg.IndexByteString", "internal/bytealg.IndexString", "internal/abi.NoEscape", "internal/bytealg.MakeNoZero"], unfollowed := true, recurses := true, named := ["internal/bytealg.MaxLen", "testbench/lexer.keywords", "strconv.ErrSyntax", "strconv.ErrRange", "internal/strconv.uint64pow10", "math/bits.deBruijn32tab", "math/bits.deBruijn64tab", "testbench/lexer.marks"], apart := false, laid := [("math/bits.deBruijn32tab", laid_math_bits_deBruijn32tab), ("math/bits.deBruijn64tab", laid_math_bits_deBruijn64tab), ("internal/strconv.uint64pow10", laid_internal_strconv_uint64pow10), ("strconv.ErrRange", laid_strconv_ErrRange), ("strconv.ErrSyntax", laid_strconv_ErrSyntax), ("testbench/lexer.keywords", laid_testbench_lexer_keywords), ("testbench/lexer.marks", laid_testbench_lexer_marks)] }
def ClassparseJoinsSaid : Prop := classparseJoinsRow.holds Tryz.pinned (OpenSpec.ofChange classparseJoinsSpec)

/-- ITS FALSE NEIGHBOUR: 'it returns false'. Refute it at one input. -/
def classparseJoinsWrong : ChangeSpec := { name := "classparseJoins", fn := fun _ => fun
  | [d1, d2] => { results := [.lit (.bool false)], args := [d1, d2] }
  | _ => none }
def ClassparseJoinsWrongFalsely : Prop := classparseJoinsRow.holds Tryz.pinned (OpenSpec.ofChange classparseJoinsWrong)

/-- 'testbenchlaw13.ClassparseRoundTrips': WHATEVER THE INPUT: true; the input reads as it did. -/
def classparseRoundTripsSpec : ChangeSpec := { name := "classparseRoundTrips", fn := fun _ => fun
  | [d1, d2] => { results := [.lit (.bool true)], args := [d1, d2] }
  | _ => none }
def classparseRoundTripsRow : OpenClaim := { program := "ytnhphlmblenapaagreatdoor", sum := "e9ea6f5937dd5c9a5bda7fc33085b386621c1d54a60dd73c6b7f241118f4ccc3", func := "testbench/testbenchlaw13.ClassparseRoundTrips", spec := "classparseRoundTrips", inPlace := ["internal/bytealg.CountString", "internal/bytealg.IndexByteString", "internal/bytealg.IndexString", "internal/abi.NoEscape", "internal/bytealg.MakeNoZero"], unfollowed := true, recurses := true, named := ["internal/bytealg.MaxLen", "testbench/lexer.keywords", "strconv.ErrSyntax", "strconv.ErrRange", "internal/strconv.uint64pow10", "math/bits.deBruijn32tab", "math/bits.deBruijn64tab", "testbench/lexer.marks"], loops := true, apart := false, laid := [("math/bits.deBruijn32tab", laid_math_bits_deBruijn32tab), ("math/bits.deBruijn64tab", laid_math_bits_deBruijn64tab), ("internal/strconv.uint64pow10", laid_internal_strconv_uint64pow10), ("strconv.ErrRange", laid_strconv_ErrRange), ("strconv.ErrSyntax", laid_strconv_ErrSyntax), ("testbench/lexer.keywords", laid_testbench_lexer_keywords), ("testbench/lexer.marks", laid_testbench_lexer_marks)] }
def ClassparseRoundTripsSaid : Prop := classparseRoundTripsRow.holds Tryz.pinned (OpenSpec.ofChange classparseRoundTripsSpec)

/-- ITS FALSE NEIGHBOUR: 'it returns false'. Refute it at one input. -/
def classparseRoundTripsWrong : ChangeSpec := { name := "classparseRoundTrips", fn := fun _ => fun
  | [d1, d2] => { results := [.lit (.bool false)], args := [d1, d2] }
  | _ => none }
def ClassparseRoundTripsWrongFalsely : Prop := classparseRoundTripsRow.holds Tryz.pinned (OpenSpec.ofChange classparseRoundTripsWrong)

/- THE SECOND FORM. 'bulk': how many values and letters a reading holds, each counted each time it is reached (what is shared counts as often as it is met; a slice's spare places count too). A statement '..UptoSaid' is the law's where the arguments, and the package variables that the reading takes, are together of bulk at most 1048576: NARROWER than '..Said'. Prove '..Said' where nothing that the law and all that it calls make is longer than what came in: it says more and counts as full. Else prove '..UptoSaid'. A law counts once. -/
mutual
def uptoBulk {H : Type} : DataW H → Nat
  | .lit (.string bytes) => bytes.length + 1
  | .lit _ => 1
  | .nil => 1
  | .ptr d => uptoBulk d + 1
  | .slice elems spare => uptoBulkAll elems + uptoBulkAll spare + 1
  | .agg parts => uptoBulkAll parts + 1
  | .iface _ d => uptoBulk d + 1
  | .map entries => uptoBulkEntries entries + 1
  | .held _ => 1
def uptoBulkAll {H : Type} : List (DataW H) → Nat
  | [] => 0
  | d :: r => uptoBulk d + uptoBulkAll r
def uptoBulkEntries {H : Type} : List (Lit × DataW H) → Nat
  | [] => 0
  | x :: r => uptoBulkEntry x + uptoBulkEntries r
def uptoBulkEntry {H : Type} : Lit × DataW H → Nat
  | (.string bytes, d) => bytes.length + uptoBulk d + 1
  | (_, d) => uptoBulk d + 1
 end
def uptoSmall : (H : Type) → List (DataW H) → Bool := fun _ ds => decide (uptoBulkAll ds ≤ 1048576)
def OpenSpec.upto (s : _root_.Go.ChangeSpec) : _root_.Go.OpenSpec := { _root_.Go.OpenSpec.ofChange s with cond := some uptoSmall }

/-- 'testbenchlaw13.ClassparseItems', WHERE WHAT IT READS IS OF BULK AT MOST 1048576: true; the input reads as it did. -/
def classparseItemsUptoRow : OpenClaim := { program := "ytnhphlmblenapaagreatdoor", sum := "e9ea6f5937dd5c9a5bda7fc33085b386621c1d54a60dd73c6b7f241118f4ccc3", func := "testbench/testbenchlaw13.ClassparseItems", spec := "classparseItems", inPlace := ["internal/bytealg.CountString", "internal/bytealg.IndexByteString", "internal/bytealg.IndexString", "internal/abi.NoEscape", "internal/bytealg.MakeNoZero"], unfollowed := true, recurses := true, named := ["internal/bytealg.MaxLen", "testbench/lexer.keywords", "strconv.ErrSyntax", "strconv.ErrRange", "internal/strconv.uint64pow10", "math/bits.deBruijn32tab", "math/bits.deBruijn64tab", "testbench/lexer.marks"], apart := false, laid := [("math/bits.deBruijn32tab", laid_math_bits_deBruijn32tab), ("math/bits.deBruijn64tab", laid_math_bits_deBruijn64tab), ("internal/strconv.uint64pow10", laid_internal_strconv_uint64pow10), ("strconv.ErrRange", laid_strconv_ErrRange), ("strconv.ErrSyntax", laid_strconv_ErrSyntax), ("testbench/lexer.keywords", laid_testbench_lexer_keywords), ("testbench/lexer.marks", laid_testbench_lexer_marks)], narrowed := true }
def ClassparseItemsUptoSaid : Prop := classparseItemsUptoRow.holds Tryz.pinned (OpenSpec.upto classparseItemsSpec)

/-- 'testbenchlaw13.ClassparseClasses', WHERE WHAT IT READS IS OF BULK AT MOST 1048576: true; the input reads as it did. -/
def classparseClassesUptoRow : OpenClaim := { program := "ytnhphlmblenapaagreatdoor", sum := "e9ea6f5937dd5c9a5bda7fc33085b386621c1d54a60dd73c6b7f241118f4ccc3", func := "testbench/testbenchlaw13.ClassparseClasses", spec := "classparseClasses", inPlace := ["internal/bytealg.CountString", "internal/bytealg.IndexByteString", "internal/bytealg.IndexString", "internal/abi.NoEscape", "internal/bytealg.MakeNoZero"], unfollowed := true, recurses := true, named := ["internal/bytealg.MaxLen", "testbench/lexer.keywords", "strconv.ErrSyntax", "strconv.ErrRange", "internal/strconv.uint64pow10", "math/bits.deBruijn32tab", "math/bits.deBruijn64tab", "testbench/lexer.marks"], apart := false, laid := [("math/bits.deBruijn32tab", laid_math_bits_deBruijn32tab), ("math/bits.deBruijn64tab", laid_math_bits_deBruijn64tab), ("internal/strconv.uint64pow10", laid_internal_strconv_uint64pow10), ("strconv.ErrRange", laid_strconv_ErrRange), ("strconv.ErrSyntax", laid_strconv_ErrSyntax), ("testbench/lexer.keywords", laid_testbench_lexer_keywords), ("testbench/lexer.marks", laid_testbench_lexer_marks)], narrowed := true }
def ClassparseClassesUptoSaid : Prop := classparseClassesUptoRow.holds Tryz.pinned (OpenSpec.upto classparseClassesSpec)

/-- 'testbenchlaw13.ClassparseSources', WHERE WHAT IT READS IS OF BULK AT MOST 1048576: true; the input reads as it did. -/
def classparseSourcesUptoRow : OpenClaim := { program := "ytnhphlmblenapaagreatdoor", sum := "e9ea6f5937dd5c9a5bda7fc33085b386621c1d54a60dd73c6b7f241118f4ccc3", func := "testbench/testbenchlaw13.ClassparseSources", spec := "classparseSources", inPlace := ["internal/bytealg.CountString", "internal/bytealg.IndexByteString", "internal/bytealg.IndexString", "internal/abi.NoEscape", "internal/bytealg.MakeNoZero"], unfollowed := true, recurses := true, named := ["internal/bytealg.MaxLen", "testbench/lexer.keywords", "strconv.ErrSyntax", "strconv.ErrRange", "internal/strconv.uint64pow10", "math/bits.deBruijn32tab", "math/bits.deBruijn64tab", "testbench/lexer.marks"], apart := false, laid := [("math/bits.deBruijn32tab", laid_math_bits_deBruijn32tab), ("math/bits.deBruijn64tab", laid_math_bits_deBruijn64tab), ("internal/strconv.uint64pow10", laid_internal_strconv_uint64pow10), ("strconv.ErrRange", laid_strconv_ErrRange), ("strconv.ErrSyntax", laid_strconv_ErrSyntax), ("testbench/lexer.keywords", laid_testbench_lexer_keywords), ("testbench/lexer.marks", laid_testbench_lexer_marks)], narrowed := true }
def ClassparseSourcesUptoSaid : Prop := classparseSourcesUptoRow.holds Tryz.pinned (OpenSpec.upto classparseSourcesSpec)

/-- 'testbenchlaw13.ClassparseJoins', WHERE WHAT IT READS IS OF BULK AT MOST 1048576: true; the input reads as it did. -/
def classparseJoinsUptoRow : OpenClaim := { program := "ytnhphlmblenapaagreatdoor", sum := "e9ea6f5937dd5c9a5bda7fc33085b386621c1d54a60dd73c6b7f241118f4ccc3", func := "testbench/testbenchlaw13.ClassparseJoins", spec := "classparseJoins", inPlace := ["internal/bytealg.CountString", "internal/bytealg.IndexByteString", "internal/bytealg.IndexString", "internal/abi.NoEscape", "internal/bytealg.MakeNoZero"], unfollowed := true, recurses := true, named := ["internal/bytealg.MaxLen", "testbench/lexer.keywords", "strconv.ErrSyntax", "strconv.ErrRange", "internal/strconv.uint64pow10", "math/bits.deBruijn32tab", "math/bits.deBruijn64tab", "testbench/lexer.marks"], apart := false, laid := [("math/bits.deBruijn32tab", laid_math_bits_deBruijn32tab), ("math/bits.deBruijn64tab", laid_math_bits_deBruijn64tab), ("internal/strconv.uint64pow10", laid_internal_strconv_uint64pow10), ("strconv.ErrRange", laid_strconv_ErrRange), ("strconv.ErrSyntax", laid_strconv_ErrSyntax), ("testbench/lexer.keywords", laid_testbench_lexer_keywords), ("testbench/lexer.marks", laid_testbench_lexer_marks)], narrowed := true }
def ClassparseJoinsUptoSaid : Prop := classparseJoinsUptoRow.holds Tryz.pinned (OpenSpec.upto classparseJoinsSpec)

/-- 'testbenchlaw13.ClassparseRoundTrips', WHERE WHAT IT READS IS OF BULK AT MOST 1048576: true; the input reads as it did. -/
def classparseRoundTripsUptoRow : OpenClaim := { program := "ytnhphlmblenapaagreatdoor", sum := "e9ea6f5937dd5c9a5bda7fc33085b386621c1d54a60dd73c6b7f241118f4ccc3", func := "testbench/testbenchlaw13.ClassparseRoundTrips", spec := "classparseRoundTrips", inPlace := ["internal/bytealg.CountString", "internal/bytealg.IndexByteString", "internal/bytealg.IndexString", "internal/abi.NoEscape", "internal/bytealg.MakeNoZero"], unfollowed := true, recurses := true, named := ["internal/bytealg.MaxLen", "testbench/lexer.keywords", "strconv.ErrSyntax", "strconv.ErrRange", "internal/strconv.uint64pow10", "math/bits.deBruijn32tab", "math/bits.deBruijn64tab", "testbench/lexer.marks"], loops := true, apart := false, laid := [("math/bits.deBruijn32tab", laid_math_bits_deBruijn32tab), ("math/bits.deBruijn64tab", laid_math_bits_deBruijn64tab), ("internal/strconv.uint64pow10", laid_internal_strconv_uint64pow10), ("strconv.ErrRange", laid_strconv_ErrRange), ("strconv.ErrSyntax", laid_strconv_ErrSyntax), ("testbench/lexer.keywords", laid_testbench_lexer_keywords), ("testbench/lexer.marks", laid_testbench_lexer_marks)], narrowed := true }
def ClassparseRoundTripsUptoSaid : Prop := classparseRoundTripsUptoRow.holds Tryz.pinned (OpenSpec.upto classparseRoundTripsSpec)

end Rows
end Go.Proofs.YtnhphlmblenapaaGreatDoor
