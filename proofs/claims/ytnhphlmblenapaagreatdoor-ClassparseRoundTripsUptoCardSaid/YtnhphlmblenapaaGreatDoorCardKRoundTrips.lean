import Derived.SevenTiedAt
import Derived.Test.YtnhphlmblenapaaGreatDoorRowKRoundTrips
import Derived.Test.YtnhphlmblenapaaGreatDoorTie
import Derived.Test.YtnhphlmblenapaaGreatDoorCards
set_option linter.unusedVariables false
set_option linter.unusedSimpArgs false
set_option linter.unusedSectionVars false
set_option maxRecDepth 100000
namespace Go.Proofs.YtnhphlmblenapaaGreatDoor
open Go
theorem classparseRoundTrips_card:Rows.ClassparseRoundTripsUptoCardSaid:=
 Claim7.holds_tied_plain_at .later [] _ _ _ _ fD (fun _ h=>by cases h) (by kernel_rfl) (fun _ h=>by cases h) classparseRoundTripsUpto_row_tie rfl ⟨rfl,rfl⟩ (by kernel_rfl) rfl
  (fun f fn hf hfn=>by
    obtain rfl:f=7:=Option.some.inj ((show Tryz.prog.funcNamed "testbench/testbenchlaw13.ClassparseRoundTrips" = some 7 by kernel_rfl).symm.trans hf) |>.symm;obtain rfl:fn=Tryz.f7:=(Option.some.inj (Tryz.func7.symm.trans hfn)).symm
    exact⟨by kernel_rfl,fun j t ht=>by
     rw[Tryz.params7]at ht;rcases j with _|_|j
     .obtain rfl:t=32:=by simpa using ht.symm
      exact(show Tryz.prog.wantsStandIn 32=false by kernel_rfl)
     .obtain rfl:t=9:=by simpa using ht.symm
      exact(show Tryz.prog.wantsStandIn 9=false by kernel_rfl)
     .simp at ht⟩)
  (by kernel_rfl)
#print axioms classparseRoundTrips_card
end Go.Proofs.YtnhphlmblenapaaGreatDoor
