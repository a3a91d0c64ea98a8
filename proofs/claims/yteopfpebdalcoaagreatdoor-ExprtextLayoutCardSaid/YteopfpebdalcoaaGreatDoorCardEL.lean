/-
  The card of ExprtextLayout.
-/
import Derived.Test.YteopfpebdalcoaaGreatDoorRowEL
import Derived.Test.YteopfpebdalcoaaGreatDoorTie
import Derived.Test.YteopfpebdalcoaaGreatDoorCards
import Derived.SevenTiedAt
set_option linter.unusedVariables false
set_option linter.unusedSimpArgs false
set_option linter.unusedSectionVars false
namespace Go.Proofs.YteopfpebdalcoaaGreatDoor
open Go
set_option maxRecDepth 100000 in
theorem exprtextLayout_card : Rows.ExprtextLayoutCardSaid :=
  Claim7.holds_tied_plain_at .later [] [.data, .data, .data, .sentinel, .sentinel, .widerDeep, .widerDeep] true Rows.exprtextLayoutCard.stood.harness true
    exprtextLayout_holds (fun _ h => by cases h) (by kernel_rfl) (fun _ h => by cases h) exprtextLayout_row_tie rfl ⟨rfl, rfl⟩ (by kernel_rfl) rfl
    (fun f fn hf hfn => by
      obtain rfl : f = 6 := Option.some.inj ((show Tryz.prog.funcNamed "testbench/testbenchlaw09.ExprtextLayout" = some 6 by kernel_rfl).symm.trans hf) |>.symm
      obtain rfl : fn = Tryz.f6 := (Option.some.inj (Tryz.func6.symm.trans hfn)).symm
      exact ⟨by kernel_rfl, fun j t ht => by
        rw [Tryz.params6] at ht
        rcases j with _ | j
        · obtain rfl : t = 9 := by simpa using ht.symm
          exact (show Tryz.prog.wantsStandIn 9 = false by kernel_rfl)
        · simp at ht⟩)
    (by kernel_rfl)
#print axioms exprtextLayout_card
end Go.Proofs.YteopfpebdalcoaaGreatDoor
