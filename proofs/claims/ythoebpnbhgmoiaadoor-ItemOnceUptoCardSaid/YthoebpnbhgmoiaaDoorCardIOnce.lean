/-
  The card of ItemOnce, for inputs of a bounded bulk.
-/
import Derived.Test.YthoebpnbhgmoiaaDoorRowIOnce
import Derived.Test.YthoebpnbhgmoiaaDoorTie
import Derived.Test.YthoebpnbhgmoiaaDoorCards
import Derived.SevenTiedAt
set_option linter.unusedVariables false
set_option linter.unusedSimpArgs false
set_option linter.unusedSectionVars false
namespace Go.Proofs.YthoebpnbhgmoiaaDoor
open Go
set_option maxRecDepth 100000 in
theorem itemOnce_card : Rows.ItemOnceUptoCardSaid :=
  Claim7.holds_tied_plain_at .later [] _ _ _ _ itemOnce_upto (fun _ h => by cases h) (by kernel_rfl) (fun _ h => by cases h) itemOnceUpto_row_tie rfl ⟨rfl, rfl⟩ (by kernel_rfl) rfl
    (fun f fn hf hfn => by
      obtain rfl : f = 3 := Option.some.inj ((show Tryd.prog.funcNamed "testbench/testbenchlaw11.ItemOnce" = some 3 by kernel_rfl).symm.trans hf) |>.symm
      obtain rfl : fn = Tryd.f3 := (Option.some.inj (Tryd.func3.symm.trans hfn)).symm
      exact ⟨by kernel_rfl, fun j t ht => by
        rw [Tryd.params3] at ht
        rcases j with _ | _ | j
        · obtain rfl : t = 22 := by simpa using ht.symm
          exact (show Tryd.prog.wantsStandIn 22 = false by kernel_rfl)
        · obtain rfl : t = 26 := by simpa using ht.symm
          exact (show Tryd.prog.wantsStandIn 26 = false by kernel_rfl)
        · simp at ht⟩)
    (by kernel_rfl)
#print axioms itemOnce_card
end Go.Proofs.YthoebpnbhgmoiaaDoor
