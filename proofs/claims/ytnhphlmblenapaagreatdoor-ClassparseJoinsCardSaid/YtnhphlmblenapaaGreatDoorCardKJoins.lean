import Derived.SevenTiedAt
import Derived.Test.YtnhphlmblenapaaGreatDoorRowKJoins
import Derived.Test.YtnhphlmblenapaaGreatDoorTie
import Derived.Test.YtnhphlmblenapaaGreatDoorCards
set_option linter.unusedVariables false
set_option linter.unusedSimpArgs false
set_option linter.unusedSectionVars false
set_option maxRecDepth 100000
namespace Go.Proofs.YtnhphlmblenapaaGreatDoor
open Go
theorem lD:Rows.classparseJoinsRow.wfByText (OpenSpec.ofChange Rows.classparseJoinsSpec)=true:=by kernel_rfl
theorem jN:Tryz.pinned.checked.prog.mainIs=some (Rows.classparseJoinsCard.stood.harness.1,Rows.classparseJoinsCard.stood.harness.2.toList):=by kernel_rfl
theorem jj:true=Tryz.pinned.checked.prog.looks []:=by kernel_rfl
theorem jQ:false=Rows.classparseJoinsRow.goesBy Tryz.pinned.checked.prog:=by kernel_rfl
theorem jT:Tryz.prog.funcNamed "testbench/testbenchlaw13.ClassparseJoins" = some 6:=by kernel_rfl
theorem classparseJoins_card:Rows.ClassparseJoinsCardSaid:=
 Claim7.holds_tied_plain_at .later [] [.data,.data,.data,.sentinel,.sentinel,.widerDeep,.widerDeep] true Rows.classparseJoinsCard.stood.harness true
  fH (fun _ h=>by cases h) lD (fun _ h=>by cases h) classparseJoins_row_tie rfl ⟨rfl,rfl⟩ jN rfl
  (fun f fn hf hfn=>by
    obtain rfl:f=6:=Option.some.inj (jT.symm.trans hf) |>.symm;obtain rfl:fn=Tryz.f6:=(Option.some.inj (Tryz.func6.symm.trans hfn)).symm
    exact⟨jj,fun j t ht=>by
     rw[Tryz.params6]at ht;rcases j with _|_|j
     .obtain rfl:t=9:=by simpa using ht.symm
      exact(show Tryz.prog.wantsStandIn 9=false by kernel_rfl)
     .obtain rfl:t=9:=by simpa using ht.symm
      exact(show Tryz.prog.wantsStandIn 9=false by kernel_rfl)
     .simp at ht⟩)
  jQ
#print axioms classparseJoins_card
end Go.Proofs.YtnhphlmblenapaaGreatDoor
