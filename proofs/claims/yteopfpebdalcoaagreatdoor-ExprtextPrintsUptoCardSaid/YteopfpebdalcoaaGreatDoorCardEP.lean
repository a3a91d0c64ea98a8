/-
  The card of ExprtextPrints, for inputs of a bounded bulk.
-/
import Derived.Test.YteopfpebdalcoaaGreatDoorRowEP
import Derived.Test.YteopfpebdalcoaaGreatDoorTie
import Derived.Test.YteopfpebdalcoaaGreatDoorCards
import Derived.SevenTiedAt
set_option linter.unusedVariables false
set_option linter.unusedSimpArgs false
set_option linter.unusedSectionVars false
namespace Go.Proofs.YteopfpebdalcoaaGreatDoor
open Go
set_option maxRecDepth 100000 in
theorem exprtextPrints_card : Rows.ExprtextPrintsUptoCardSaid :=
  Claim7.holds_tied_plain_at .later [] _ _ _ _ exprtextPrints_upto (fun _ h => by cases h) (by kernel_rfl) (fun _ h => by cases h) exprtextPrintsUpto_row_tie rfl ⟨rfl, rfl⟩ (by kernel_rfl) rfl
    (fun f fn hf hfn => by
      obtain rfl : f = 3 := Option.some.inj ((show Tryz.prog.funcNamed "testbench/testbenchlaw09.ExprtextPrints" = some 3 by kernel_rfl).symm.trans hf) |>.symm
      obtain rfl : fn = Tryz.f3 := (Option.some.inj (Tryz.func3.symm.trans hfn)).symm
      exact ⟨by kernel_rfl, fun j t ht => by
        rw [Tryz.params3] at ht
        rcases j with _ | j
        · obtain rfl : t = 24 := by simpa using ht.symm
          exact (show Tryz.prog.wantsStandIn 24 = false by kernel_rfl)
        · simp at ht⟩)
    (by kernel_rfl)
#print axioms exprtextPrints_card
end Go.Proofs.YteopfpebdalcoaaGreatDoor
