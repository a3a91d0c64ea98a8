import Derived.Test.YthekkgfmagliiaaGreatDoorRowQDistinct
import Derived.Test.YthekkgfmagliiaaGreatDoorTie
import Derived.Test.YthekkgfmagliiaaGreatDoorCards
import Derived.SevenTiedAt
set_option linter.unusedVariables false
set_option linter.unusedSimpArgs false
set_option linter.unusedSectionVars false
namespace Go.Proofs.YthekkgfmagliiaaGreatDoor
open Go
set_option maxRecDepth 100000 in
theorem proptextDistinct_card:Rows.ProptextDistinctUptoCardSaid:=
 Claim7.holds_tied_plain_at .later [] _ _ _ _ eZ (fun _ h=>by cases h) (by kernel_rfl) (fun _ h=>by cases h) proptextDistinctUpto_row_tie rfl ⟨rfl,rfl⟩ (by kernel_rfl) rfl
  (fun f fn hf hfn=>by
    obtain rfl:f=5:=Option.some.inj ((show Tryz.prog.funcNamed "testbench/testbenchlaw42.ProptextDistinct" = some 5 by kernel_rfl).symm.trans hf) |>.symm;obtain rfl:fn=Tryz.f5:=(Option.some.inj (Tryz.func5.symm.trans hfn)).symm
    exact⟨by kernel_rfl,fun j t ht=>by
     rw[Tryz.params5]at ht;rcases j with _|_|j
     ·obtain rfl:t=29:=by simpa using ht.symm
      exact(show Tryz.prog.wantsStandIn 29=false by kernel_rfl)
     ·obtain rfl:t=29:=by simpa using ht.symm
      exact(show Tryz.prog.wantsStandIn 29=false by kernel_rfl)
     ·simp at ht⟩)
  (by kernel_rfl)
#print axioms proptextDistinct_card
end Go.Proofs.YthekkgfmagliiaaGreatDoor
