/-
  The card of ExprtextRoundTrips, for inputs of a bounded bulk.
-/
import Derived.Test.YteopfpebdalcoaaGreatDoorRowER
import Derived.Test.YteopfpebdalcoaaGreatDoorTie
import Derived.Test.YteopfpebdalcoaaGreatDoorCards
import Derived.SevenTiedAt
set_option linter.unusedVariables false
set_option linter.unusedSimpArgs false
set_option linter.unusedSectionVars false
namespace Go.Proofs.YteopfpebdalcoaaGreatDoor
open Go
set_option maxRecDepth 100000 in
theorem exprtextRoundTrips_card : Rows.ExprtextRoundTripsUptoCardSaid :=
  Claim7.holds_tied_plain_at .later [] _ _ _ _ exprtextRoundTrips_upto (fun _ h => by cases h) (by kernel_rfl) (fun _ h => by cases h) exprtextRoundTripsUpto_row_tie rfl ⟨rfl, rfl⟩ (by kernel_rfl) rfl
    (fun f fn hf hfn => by
      obtain rfl : f = 4 := Option.some.inj ((show Tryz.prog.funcNamed "testbench/testbenchlaw09.ExprtextRoundTrips" = some 4 by kernel_rfl).symm.trans hf) |>.symm
      obtain rfl : fn = Tryz.f4 := (Option.some.inj (Tryz.func4.symm.trans hfn)).symm
      exact ⟨by kernel_rfl, fun j t ht => by
        rw [Tryz.params4] at ht
        rcases j with _ | j
        · obtain rfl : t = 24 := by simpa using ht.symm
          exact (show Tryz.prog.wantsStandIn 24 = false by kernel_rfl)
        · simp at ht⟩)
    (by kernel_rfl)
#print axioms exprtextRoundTrips_card
end Go.Proofs.YteopfpebdalcoaaGreatDoor
