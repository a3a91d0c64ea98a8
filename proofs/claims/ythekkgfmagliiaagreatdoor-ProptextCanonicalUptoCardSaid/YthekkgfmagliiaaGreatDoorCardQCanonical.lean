import Derived.SevenTiedAt
import Derived.Test.YthekkgfmagliiaaGreatDoorRowQCanonical
import Derived.Test.YthekkgfmagliiaaGreatDoorTie
import Derived.Test.YthekkgfmagliiaaGreatDoorCards
set_option maxRecDepth 100000
set_option linter.unusedVariables false
set_option linter.unusedSimpArgs false
set_option linter.unusedSectionVars false
namespace Go.Proofs.YthekkgfmagliiaaGreatDoor
open Go
theorem proptextCanonical_card:Rows.ProptextCanonicalUptoCardSaid:=
 Claim7.holds_tied_plain_at .later [] _ _ _ _ ge (fun _ h=>by cases h) (by kernel_rfl) (fun _ h=>by cases h) proptextCanonicalUpto_row_tie rfl ⟨rfl,rfl⟩ (by kernel_rfl) rfl
  (fun f fn hf hfn=>by
    obtain rfl:f=3:=Option.some.inj ((show Tryz.prog.funcNamed "testbench/testbenchlaw42.ProptextCanonical" = some 3 by kernel_rfl).symm.trans hf) |>.symm;obtain rfl:fn=Tryz.f3:=(Option.some.inj (Tryz.func3.symm.trans hfn)).symm
    exact⟨by kernel_rfl,fun j t ht=>by
     rw[Tryz.params3]at ht;rcases j with _|j
     .obtain rfl:t=9:=by simpa using ht.symm
      exact(show Tryz.prog.wantsStandIn 9=false by kernel_rfl)
     .simp at ht⟩)
  (by kernel_rfl)
#print axioms proptextCanonical_card
end Go.Proofs.YthekkgfmagliiaaGreatDoor
