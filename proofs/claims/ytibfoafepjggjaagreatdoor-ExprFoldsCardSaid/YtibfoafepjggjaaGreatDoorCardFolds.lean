/-
  The card of ExprFolds.
-/
import Derived.Test.YtibfoafepjggjaaGreatDoorRowFolds
import Derived.Test.YtibfoafepjggjaaGreatDoorTie
import Derived.Test.YtibfoafepjggjaaGreatDoorCards
import Derived.SevenTiedAt
set_option linter.unusedVariables false
set_option linter.unusedSimpArgs false
namespace Go.Proofs.YtibfoafepjggjaaGreatDoor
open Go

set_option maxRecDepth 100000 in
theorem exprFolds_card : Rows.ExprFoldsCardSaid :=
  Claim7.holds_tied_plain_at .later [] [.widerDeep] true Rows.exprFoldsCard.stood.harness false
    exprFolds_holds (fun _ h => by cases h) (by kernel_rfl) (fun _ h => by cases h) exprFolds_row_tie rfl ⟨rfl, rfl⟩ (by kernel_rfl) rfl
    (fun f fn hf hfn => by
      obtain rfl : f = 4 := Option.some.inj ((show Tryz.prog.funcNamed "testbench/testbenchlaw08.ExprFolds" = some 4 by kernel_rfl).symm.trans hf) |>.symm
      obtain rfl : fn = Tryz.f4 := (Option.some.inj (Tryz.func4.symm.trans hfn)).symm
      exact ⟨by kernel_rfl, fun j t ht => by
        rw [Tryz.params4] at ht
        rcases j with _ | _ | j
        · obtain rfl : t = 24 := by simpa using ht.symm
          exact (show Tryz.prog.wantsStandIn 24 = false by kernel_rfl)
        · obtain rfl : t = 25 := by simpa using ht.symm
          exact (show Tryz.prog.wantsStandIn 25 = false by kernel_rfl)
        · simp at ht⟩)
    (by kernel_rfl)
#print axioms exprFolds_card
end Go.Proofs.YtibfoafepjggjaaGreatDoor
