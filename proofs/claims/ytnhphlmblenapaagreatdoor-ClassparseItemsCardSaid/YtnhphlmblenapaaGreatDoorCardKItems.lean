import Derived.SevenTiedAt
import Derived.Test.YtnhphlmblenapaaGreatDoorRowKItems
import Derived.Test.YtnhphlmblenapaaGreatDoorTie
import Derived.Test.YtnhphlmblenapaaGreatDoorCards
set_option linter.unusedVariables false
set_option linter.unusedSimpArgs false
set_option linter.unusedSectionVars false
set_option maxRecDepth 100000
namespace Go.Proofs.YtnhphlmblenapaaGreatDoor
open Go
theorem lZ:Rows.classparseItemsRow.wfByText (OpenSpec.ofChange Rows.classparseItemsSpec)=true:=by kernel_rfl
theorem kz:Tryz.pinned.checked.prog.mainIs=some (Rows.classparseItemsCard.stood.harness.1,Rows.classparseItemsCard.stood.harness.2.toList):=by kernel_rfl
theorem jN:true=Tryz.pinned.checked.prog.looks []:=by kernel_rfl
theorem kM:false=Rows.classparseItemsRow.goesBy Tryz.pinned.checked.prog:=by kernel_rfl
theorem kA:Tryz.prog.funcNamed "testbench/testbenchlaw13.ClassparseItems" = some 3:=by kernel_rfl
theorem classparseItems_card:Rows.ClassparseItemsCardSaid:=
 Claim7.holds_tied_plain_at .later [] [.data,.data,.data,.sentinel,.sentinel,.widerDeep,.widerDeep] true Rows.classparseItemsCard.stood.harness true
  fH (fun _ h=>by cases h) lZ (fun _ h=>by cases h) classparseItems_row_tie rfl ⟨rfl,rfl⟩ kz rfl
  (fun f fn hf hfn=>by
    obtain rfl:f=3:=Option.some.inj (kA.symm.trans hf) |>.symm;obtain rfl:fn=Tryz.f3:=(Option.some.inj (Tryz.func3.symm.trans hfn)).symm
    exact⟨jN,fun j t ht=>by
     rw[Tryz.params3]at ht;rcases j with _|j
     .obtain rfl:t=9:=by simpa using ht.symm
      exact(show Tryz.prog.wantsStandIn 9=false by kernel_rfl)
     .simp at ht⟩)
  kM
#print axioms classparseItems_card
end Go.Proofs.YtnhphlmblenapaaGreatDoor
