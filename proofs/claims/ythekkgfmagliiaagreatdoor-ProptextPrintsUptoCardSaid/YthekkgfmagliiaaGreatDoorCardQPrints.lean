import Derived.Test.YthekkgfmagliiaaGreatDoorRowQPrints
import Derived.Test.YthekkgfmagliiaaGreatDoorTie
import Derived.Test.YthekkgfmagliiaaGreatDoorCards
import Derived.SevenTiedAt
set_option linter.unusedVariables false
set_option linter.unusedSimpArgs false
set_option linter.unusedSectionVars false
namespace Go.Proofs.YthekkgfmagliiaaGreatDoor
open Go
set_option maxRecDepth 100000 in
theorem proptextPrints_card:Rows.ProptextPrintsUptoCardSaid:=
 Claim7.holds_tied_plain_at .later [] _ _ _ _ eK (fun _ h=>by cases h) (by kernel_rfl) (fun _ h=>by cases h) proptextPrintsUpto_row_tie rfl ⟨rfl,rfl⟩ (by kernel_rfl) rfl
  (fun f fn hf hfn=>by
    obtain rfl:f=4:=Option.some.inj ((show Tryz.prog.funcNamed "testbench/testbenchlaw42.ProptextPrints" = some 4 by kernel_rfl).symm.trans hf) |>.symm;obtain rfl:fn=Tryz.f4:=(Option.some.inj (Tryz.func4.symm.trans hfn)).symm
    exact⟨by kernel_rfl,fun j t ht=>by
     rw[Tryz.params4]at ht;rcases j with _|_|j
     ·obtain rfl:t=27:=by simpa using ht.symm
      exact(show Tryz.prog.wantsStandIn 27=false by kernel_rfl)
     ·obtain rfl:t=29:=by simpa using ht.symm
      exact(show Tryz.prog.wantsStandIn 29=false by kernel_rfl)
     ·simp at ht⟩)
  (by kernel_rfl)
#print axioms proptextPrints_card
end Go.Proofs.YthekkgfmagliiaaGreatDoor
