/-
  No cell of these rows narrows 'for every input' (looked for: loops, veiled, ifaces, maps, wideKeys, modest, calm, conditions, laid).
  DERIVED. THE GIVEN ROWS OF THIS SEAT. 6 by the template 'for every input the law returns true; each argument reads behind the call as it read before'; 0 by the template 'total and deterministic' (their statements: YtinenohgemndiaaTotals.lean).
  GIVEN WITH THE SEED: the statements are not yours to turn. If you find one false, say at which input.
  Laid BY PROGRAM, IN A SANDBOX (cutbox-rows.mjs): the forced cells as the released guide's own fill.sh prints them over the translation 706dc7201d1a6172… (all of the seat's roots in one cut). By AI agents, Wed Nov 11 2026. No macro, syntax, notation, axiom, sorry.
-/
import Derived.Test.YtinenohgemndiaaChecked
import GoSem.Claim
import GoSem.ClaimJoined
import GoSem.ClaimMapViews
import Derived.JoinedTies
import Derived.KernelRfl
namespace Go.Proofs.Ytinenohgemndiaa
/- THE CELL 'sum', in the pinned program and in every row, IS THE sha256 OF THE DUMP (.gsa) THAT YtinenohgemndiaaProg.lean LOADS. Nothing in Lean hashes anything: it is a label: what it is worth is what the hold of that sum in a sandbox is worth. -/
noncomputable def Try.pinned : Pinned := { name := "ytinenohgemndiaa", sum := "706dc7201d1a617205ad99c865db06988560a65227a518874b8ab24549b25104", checked := Try.checked }
namespace Rows
def none {H : Type} : Left H := { results := [], args := [] }

/-- 'testbenchlaw21.GroupsLayers': WHATEVER THE INPUT: true; the input reads as it did. -/
def groupsLayersSpec : ChangeSpec := { name := "groupsLayers", fn := fun _ => fun
  | [d1, d2] => { results := [.lit (.bool true)], args := [d1, d2] }
  | _ => none }
def groupsLayersRow : OpenClaim := { program := "ytinenohgemndiaa", sum := "706dc7201d1a617205ad99c865db06988560a65227a518874b8ab24549b25104", func := "testbench/testbenchlaw21.GroupsLayers", spec := "groupsLayers", unfollowed := true, recurses := true, apart := false }
def GroupsLayersSaid : Prop := groupsLayersRow.holds Try.pinned (OpenSpec.ofChange groupsLayersSpec)

/-- ITS FALSE NEIGHBOUR: 'it returns false'. Refute it at one input. -/
def groupsLayersWrong : ChangeSpec := { name := "groupsLayers", fn := fun _ => fun
  | [d1, d2] => { results := [.lit (.bool false)], args := [d1, d2] }
  | _ => none }
def GroupsLayersWrongFalsely : Prop := groupsLayersRow.holds Try.pinned (OpenSpec.ofChange groupsLayersWrong)

/-- 'testbenchlaw21.GroupsLevels': WHATEVER THE INPUT: true; the input reads as it did. -/
def groupsLevelsSpec : ChangeSpec := { name := "groupsLevels", fn := fun _ => fun
  | [d1, d2] => { results := [.lit (.bool true)], args := [d1, d2] }
  | _ => none }
def groupsLevelsRow : OpenClaim := { program := "ytinenohgemndiaa", sum := "706dc7201d1a617205ad99c865db06988560a65227a518874b8ab24549b25104", func := "testbench/testbenchlaw21.GroupsLevels", spec := "groupsLevels", unfollowed := true, recurses := true, apart := false }
def GroupsLevelsSaid : Prop := groupsLevelsRow.holds Try.pinned (OpenSpec.ofChange groupsLevelsSpec)

/-- ITS FALSE NEIGHBOUR: 'it returns false'. Refute it at one input. -/
def groupsLevelsWrong : ChangeSpec := { name := "groupsLevels", fn := fun _ => fun
  | [d1, d2] => { results := [.lit (.bool false)], args := [d1, d2] }
  | _ => none }
def GroupsLevelsWrongFalsely : Prop := groupsLevelsRow.holds Try.pinned (OpenSpec.ofChange groupsLevelsWrong)

/-- 'testbenchlaw21.GroupsCycles': WHATEVER THE INPUT: true; the input reads as it did. -/
def groupsCyclesSpec : ChangeSpec := { name := "groupsCycles", fn := fun _ => fun
  | [d1, d2] => { results := [.lit (.bool true)], args := [d1, d2] }
  | _ => none }
def groupsCyclesRow : OpenClaim := { program := "ytinenohgemndiaa", sum := "706dc7201d1a617205ad99c865db06988560a65227a518874b8ab24549b25104", func := "testbench/testbenchlaw21.GroupsCycles", spec := "groupsCycles", unfollowed := true, recurses := true, apart := false }
def GroupsCyclesSaid : Prop := groupsCyclesRow.holds Try.pinned (OpenSpec.ofChange groupsCyclesSpec)

/-- ITS FALSE NEIGHBOUR: 'it returns false'. Refute it at one input. -/
def groupsCyclesWrong : ChangeSpec := { name := "groupsCycles", fn := fun _ => fun
  | [d1, d2] => { results := [.lit (.bool false)], args := [d1, d2] }
  | _ => none }
def GroupsCyclesWrongFalsely : Prop := groupsCyclesRow.holds Try.pinned (OpenSpec.ofChange groupsCyclesWrong)

/-- 'testbenchlaw21.GroupsReaches': WHATEVER THE INPUT: true; the input reads as it did. -/
def groupsReachesSpec : ChangeSpec := { name := "groupsReaches", fn := fun _ => fun
  | [d1, d2] => { results := [.lit (.bool true)], args := [d1, d2] }
  | _ => none }
def groupsReachesRow : OpenClaim := { program := "ytinenohgemndiaa", sum := "706dc7201d1a617205ad99c865db06988560a65227a518874b8ab24549b25104", func := "testbench/testbenchlaw21.GroupsReaches", spec := "groupsReaches", unfollowed := true, recurses := true, apart := false }
def GroupsReachesSaid : Prop := groupsReachesRow.holds Try.pinned (OpenSpec.ofChange groupsReachesSpec)

/-- ITS FALSE NEIGHBOUR: 'it returns false'. Refute it at one input. -/
def groupsReachesWrong : ChangeSpec := { name := "groupsReaches", fn := fun _ => fun
  | [d1, d2] => { results := [.lit (.bool false)], args := [d1, d2] }
  | _ => none }
def GroupsReachesWrongFalsely : Prop := groupsReachesRow.holds Try.pinned (OpenSpec.ofChange groupsReachesWrong)

/-- 'testbenchlaw21.GroupsReduces': WHATEVER THE INPUT: true; the input reads as it did. -/
def groupsReducesSpec : ChangeSpec := { name := "groupsReduces", fn := fun _ => fun
  | [d1, d2] => { results := [.lit (.bool true)], args := [d1, d2] }
  | _ => none }
def groupsReducesRow : OpenClaim := { program := "ytinenohgemndiaa", sum := "706dc7201d1a617205ad99c865db06988560a65227a518874b8ab24549b25104", func := "testbench/testbenchlaw21.GroupsReduces", spec := "groupsReduces", unfollowed := true, recurses := true, apart := false }
def GroupsReducesSaid : Prop := groupsReducesRow.holds Try.pinned (OpenSpec.ofChange groupsReducesSpec)

/-- ITS FALSE NEIGHBOUR: 'it returns false'. Refute it at one input. -/
def groupsReducesWrong : ChangeSpec := { name := "groupsReduces", fn := fun _ => fun
  | [d1, d2] => { results := [.lit (.bool false)], args := [d1, d2] }
  | _ => none }
def GroupsReducesWrongFalsely : Prop := groupsReducesRow.holds Try.pinned (OpenSpec.ofChange groupsReducesWrong)

/-- 'testbenchlaw21.GroupsNeeds': WHATEVER THE INPUT: true; the input reads as it did. -/
def groupsNeedsSpec : ChangeSpec := { name := "groupsNeeds", fn := fun _ => fun
  | [d1, d2, d3] => { results := [.lit (.bool true)], args := [d1, d2, d3] }
  | _ => none }
def groupsNeedsRow : OpenClaim := { program := "ytinenohgemndiaa", sum := "706dc7201d1a617205ad99c865db06988560a65227a518874b8ab24549b25104", func := "testbench/testbenchlaw21.GroupsNeeds", spec := "groupsNeeds", unfollowed := true, recurses := true, apart := false }
def GroupsNeedsSaid : Prop := groupsNeedsRow.holds Try.pinned (OpenSpec.ofChange groupsNeedsSpec)

/-- ITS FALSE NEIGHBOUR: 'it returns false'. Refute it at one input. -/
def groupsNeedsWrong : ChangeSpec := { name := "groupsNeeds", fn := fun _ => fun
  | [d1, d2, d3] => { results := [.lit (.bool false)], args := [d1, d2, d3] }
  | _ => none }
def GroupsNeedsWrongFalsely : Prop := groupsNeedsRow.holds Try.pinned (OpenSpec.ofChange groupsNeedsWrong)

/- THE SECOND FORM. 'bulk': how many values and letters a reading holds, each counted each time it is reached (what is shared counts as often as it is met; a slice's spare places count too). A statement '..UptoSaid' is the law's where the arguments, and the package variables that the reading takes, are together of bulk at most 1048576: NARROWER than '..Said'. Prove '..Said' where nothing that the law and all that it calls make is longer than what came in: it says more and counts as full. Else prove '..UptoSaid'. A law counts once. -/
mutual
def uptoBulk {H : Type} : DataW H → Nat
  | .lit (.string bytes) => bytes.length + 1
  | .lit _ => 1
  | .nil => 1
  | .ptr d => uptoBulk d + 1
  | .slice elems spare => uptoBulkAll elems + uptoBulkAll spare + 1
  | .agg parts => uptoBulkAll parts + 1
  | .iface _ d => uptoBulk d + 1
  | .map entries => uptoBulkEntries entries + 1
  | .held _ => 1
def uptoBulkAll {H : Type} : List (DataW H) → Nat
  | [] => 0
  | d :: r => uptoBulk d + uptoBulkAll r
def uptoBulkEntries {H : Type} : List (Lit × DataW H) → Nat
  | [] => 0
  | x :: r => uptoBulkEntry x + uptoBulkEntries r
def uptoBulkEntry {H : Type} : Lit × DataW H → Nat
  | (.string bytes, d) => bytes.length + uptoBulk d + 1
  | (_, d) => uptoBulk d + 1
 end
def uptoSmall : (H : Type) → List (DataW H) → Bool := fun _ ds => decide (uptoBulkAll ds ≤ 1048576)
def OpenSpec.upto (s : _root_.Go.ChangeSpec) : _root_.Go.OpenSpec := { _root_.Go.OpenSpec.ofChange s with cond := some uptoSmall }

/-- 'testbenchlaw21.GroupsLayers', WHERE WHAT IT READS IS OF BULK AT MOST 1048576: true; the input reads as it did. -/
def groupsLayersUptoRow : OpenClaim := { program := "ytinenohgemndiaa", sum := "706dc7201d1a617205ad99c865db06988560a65227a518874b8ab24549b25104", func := "testbench/testbenchlaw21.GroupsLayers", spec := "groupsLayers", unfollowed := true, recurses := true, apart := false, narrowed := true }
def GroupsLayersUptoSaid : Prop := groupsLayersUptoRow.holds Try.pinned (OpenSpec.upto groupsLayersSpec)

/-- 'testbenchlaw21.GroupsLevels', WHERE WHAT IT READS IS OF BULK AT MOST 1048576: true; the input reads as it did. -/
def groupsLevelsUptoRow : OpenClaim := { program := "ytinenohgemndiaa", sum := "706dc7201d1a617205ad99c865db06988560a65227a518874b8ab24549b25104", func := "testbench/testbenchlaw21.GroupsLevels", spec := "groupsLevels", unfollowed := true, recurses := true, apart := false, narrowed := true }
def GroupsLevelsUptoSaid : Prop := groupsLevelsUptoRow.holds Try.pinned (OpenSpec.upto groupsLevelsSpec)

/-- 'testbenchlaw21.GroupsCycles', WHERE WHAT IT READS IS OF BULK AT MOST 1048576: true; the input reads as it did. -/
def groupsCyclesUptoRow : OpenClaim := { program := "ytinenohgemndiaa", sum := "706dc7201d1a617205ad99c865db06988560a65227a518874b8ab24549b25104", func := "testbench/testbenchlaw21.GroupsCycles", spec := "groupsCycles", unfollowed := true, recurses := true, apart := false, narrowed := true }
def GroupsCyclesUptoSaid : Prop := groupsCyclesUptoRow.holds Try.pinned (OpenSpec.upto groupsCyclesSpec)

/-- 'testbenchlaw21.GroupsReaches', WHERE WHAT IT READS IS OF BULK AT MOST 1048576: true; the input reads as it did. -/
def groupsReachesUptoRow : OpenClaim := { program := "ytinenohgemndiaa", sum := "706dc7201d1a617205ad99c865db06988560a65227a518874b8ab24549b25104", func := "testbench/testbenchlaw21.GroupsReaches", spec := "groupsReaches", unfollowed := true, recurses := true, apart := false, narrowed := true }
def GroupsReachesUptoSaid : Prop := groupsReachesUptoRow.holds Try.pinned (OpenSpec.upto groupsReachesSpec)

/-- 'testbenchlaw21.GroupsReduces', WHERE WHAT IT READS IS OF BULK AT MOST 1048576: true; the input reads as it did. -/
def groupsReducesUptoRow : OpenClaim := { program := "ytinenohgemndiaa", sum := "706dc7201d1a617205ad99c865db06988560a65227a518874b8ab24549b25104", func := "testbench/testbenchlaw21.GroupsReduces", spec := "groupsReduces", unfollowed := true, recurses := true, apart := false, narrowed := true }
def GroupsReducesUptoSaid : Prop := groupsReducesUptoRow.holds Try.pinned (OpenSpec.upto groupsReducesSpec)

/-- 'testbenchlaw21.GroupsNeeds', WHERE WHAT IT READS IS OF BULK AT MOST 1048576: true; the input reads as it did. -/
def groupsNeedsUptoRow : OpenClaim := { program := "ytinenohgemndiaa", sum := "706dc7201d1a617205ad99c865db06988560a65227a518874b8ab24549b25104", func := "testbench/testbenchlaw21.GroupsNeeds", spec := "groupsNeeds", unfollowed := true, recurses := true, apart := false, narrowed := true }
def GroupsNeedsUptoSaid : Prop := groupsNeedsUptoRow.holds Try.pinned (OpenSpec.upto groupsNeedsSpec)

end Rows
end Go.Proofs.Ytinenohgemndiaa
