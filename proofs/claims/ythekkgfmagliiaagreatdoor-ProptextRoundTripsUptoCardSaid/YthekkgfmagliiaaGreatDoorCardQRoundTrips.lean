import Derived.SevenTiedAt
import Derived.Test.YthekkgfmagliiaaGreatDoorRowQRoundTrips
import Derived.Test.YthekkgfmagliiaaGreatDoorTie
import Derived.Test.YthekkgfmagliiaaGreatDoorCards
set_option linter.unusedVariables false
set_option linter.unusedSimpArgs false
set_option linter.unusedSectionVars false
set_option maxRecDepth 100000
namespace Go.Proofs.YthekkgfmagliiaaGreatDoor
open Go
theorem proptextRoundTrips_card:Rows.ProptextRoundTripsUptoCardSaid:=
 Claim7.holds_tied_plain_at .later [] _ _ _ _ fU (fun _ h=>by cases h) (by kernel_rfl) (fun _ h=>by cases h) proptextRoundTripsUpto_row_tie rfl ⟨rfl,rfl⟩ (by kernel_rfl) rfl
  (fun f fn hf hfn=>by
    obtain rfl:f=6:=Option.some.inj ((show Tryz.prog.funcNamed "testbench/testbenchlaw42.ProptextRoundTrips" = some 6 by kernel_rfl).symm.trans hf) |>.symm;obtain rfl:fn=Tryz.f6:=(Option.some.inj (Tryz.func6.symm.trans hfn)).symm
    exact⟨by kernel_rfl,fun j t ht=>by
     rw[Tryz.params6]at ht;rcases j with _|_|j
     .obtain rfl:t=27:=by simpa using ht.symm
      exact(show Tryz.prog.wantsStandIn 27=false by kernel_rfl)
     .obtain rfl:t=48:=by simpa using ht.symm
      exact(show Tryz.prog.wantsStandIn 48=false by kernel_rfl)
     .simp at ht⟩)
  (by kernel_rfl)
#print axioms proptextRoundTrips_card
end Go.Proofs.YthekkgfmagliiaaGreatDoor
