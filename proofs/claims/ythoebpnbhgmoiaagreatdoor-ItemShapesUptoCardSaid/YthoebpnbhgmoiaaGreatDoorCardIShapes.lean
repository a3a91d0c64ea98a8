import Derived.Test.YthoebpnbhgmoiaaGreatDoorRowIShapes
import Derived.Test.YthoebpnbhgmoiaaGreatDoorTie
import Derived.Test.YthoebpnbhgmoiaaGreatDoorCards
import Derived.SevenTiedAt
set_option linter.unusedVariables false
set_option linter.unusedSimpArgs false
set_option linter.unusedSectionVars false
namespace Go.Proofs.YthoebpnbhgmoiaaGreatDoor
open Go
set_option maxRecDepth 100000 in
theorem itemShapes_card:Rows.ItemShapesUptoCardSaid:=
 Claim7.holds_tied_plain_at .later [] _ _ _ _ ig (fun _ h=>by cases h) (by kernel_rfl) (fun _ h=>by cases h) itemShapesUpto_row_tie rfl ⟨rfl,rfl⟩ (by kernel_rfl) rfl
  (fun f fn hf hfn=>by
    obtain rfl:f=8:=Option.some.inj ((show Tryz.prog.funcNamed "testbench/testbenchlaw11.ItemShapes" = some 8 by kernel_rfl).symm.trans hf) |>.symm;obtain rfl:fn=Tryz.f8:=(Option.some.inj (Tryz.func8.symm.trans hfn)).symm
    exact⟨by kernel_rfl,fun j t ht=>by
     rw[Tryz.params8]at ht;rcases j with _|j
     ·obtain rfl:t=22:=by simpa using ht.symm
      exact(show Tryz.prog.wantsStandIn 22=false by kernel_rfl)
     ·simp at ht⟩)
  (by kernel_rfl)
#print axioms itemShapes_card
end Go.Proofs.YthoebpnbhgmoiaaGreatDoor
