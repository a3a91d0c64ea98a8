/-
  The card of ExprtextCanonical.
-/
import Derived.Test.YteopfpebdalcoaaGreatDoorRowEC
import Derived.Test.YteopfpebdalcoaaGreatDoorTie
import Derived.Test.YteopfpebdalcoaaGreatDoorCards
import Derived.SevenTiedAt
set_option linter.unusedVariables false
set_option linter.unusedSimpArgs false
set_option linter.unusedSectionVars false
namespace Go.Proofs.YteopfpebdalcoaaGreatDoor
open Go
set_option maxRecDepth 100000 in
theorem exprtextCanonical_card : Rows.ExprtextCanonicalCardSaid :=
  Claim7.holds_tied_plain_at .later [] [.data, .data, .data, .sentinel, .sentinel, .widerDeep, .widerDeep] true Rows.exprtextCanonicalCard.stood.harness true
    exprtextCanonical_holds (fun _ h => by cases h) (by kernel_rfl) (fun _ h => by cases h) exprtextCanonical_row_tie rfl ⟨rfl, rfl⟩ (by kernel_rfl) rfl
    (fun f fn hf hfn => by
      obtain rfl : f = 5 := Option.some.inj ((show Tryz.prog.funcNamed "testbench/testbenchlaw09.ExprtextCanonical" = some 5 by kernel_rfl).symm.trans hf) |>.symm
      obtain rfl : fn = Tryz.f5 := (Option.some.inj (Tryz.func5.symm.trans hfn)).symm
      exact ⟨by kernel_rfl, fun j t ht => by
        rw [Tryz.params5] at ht
        rcases j with _ | j
        · obtain rfl : t = 9 := by simpa using ht.symm
          exact (show Tryz.prog.wantsStandIn 9 = false by kernel_rfl)
        · simp at ht⟩)
    (by kernel_rfl)
#print axioms exprtextCanonical_card
end Go.Proofs.YteopfpebdalcoaaGreatDoor
