import Derived.SevenTiedAt
import Derived.Test.YtnhphlmblenapaaGreatDoorRowKClasses
import Derived.Test.YtnhphlmblenapaaGreatDoorTie
import Derived.Test.YtnhphlmblenapaaGreatDoorCards
set_option linter.unusedVariables false
set_option linter.unusedSimpArgs false
set_option linter.unusedSectionVars false
set_option maxRecDepth 100000
namespace Go.Proofs.YtnhphlmblenapaaGreatDoor
open Go
theorem kN:Rows.classparseClassesRow.wfByText (OpenSpec.ofChange Rows.classparseClassesSpec)=true:=by kernel_rfl
theorem jI:Tryz.pinned.checked.prog.mainIs=some (Rows.classparseClassesCard.stood.harness.1,Rows.classparseClassesCard.stood.harness.2.toList):=by kernel_rfl
theorem jm:true=Tryz.pinned.checked.prog.looks []:=by kernel_rfl
theorem jH:false=Rows.classparseClassesRow.goesBy Tryz.pinned.checked.prog:=by kernel_rfl
theorem jP:Tryz.prog.funcNamed "testbench/testbenchlaw13.ClassparseClasses" = some 4:=by kernel_rfl
theorem classparseClasses_card:Rows.ClassparseClassesCardSaid:=
 Claim7.holds_tied_plain_at .later [] [.data,.data,.data,.sentinel,.sentinel,.widerDeep,.widerDeep] true Rows.classparseClassesCard.stood.harness true
  fp (fun _ h=>by cases h) kN (fun _ h=>by cases h) classparseClasses_row_tie rfl ⟨rfl,rfl⟩ jI rfl
  (fun f fn hf hfn=>by
    obtain rfl:f=4:=Option.some.inj (jP.symm.trans hf) |>.symm;obtain rfl:fn=Tryz.f4:=(Option.some.inj (Tryz.func4.symm.trans hfn)).symm
    exact⟨jm,fun j t ht=>by
     rw[Tryz.params4]at ht;rcases j with _|j
     .obtain rfl:t=9:=by simpa using ht.symm
      exact(show Tryz.prog.wantsStandIn 9=false by kernel_rfl)
     .simp at ht⟩)
  jH
#print axioms classparseClasses_card
end Go.Proofs.YtnhphlmblenapaaGreatDoor
