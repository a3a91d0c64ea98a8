/-
  The card of ExprChecks.
-/
import Derived.Test.YtibfoafepjggjaaDoorRowChecks
import Derived.Test.YtibfoafepjggjaaDoorTie
import Derived.Test.YtibfoafepjggjaaDoorCards
import Derived.SevenTiedAt
namespace Go.Proofs.YtibfoafepjggjaaDoor
open Go

set_option maxRecDepth 100000 in
theorem exprChecks_card : Rows.ExprChecksCardSaid :=
  Claim7.holds_tied_plain_at .later [] [.widerDeep] true Rows.exprChecksCard.stood.harness false
    exprChecks_holds (fun _ h => by cases h) (by kernel_rfl) (fun _ h => by cases h) exprChecks_row_tie rfl ⟨rfl, rfl⟩ (by kernel_rfl) rfl
    (fun f fn hf hfn => by
      obtain rfl : f = 4 := Option.some.inj ((show Tryd.prog.funcNamed "testbench/testbenchlaw08.ExprChecks" = some 4 by kernel_rfl).symm.trans hf) |>.symm
      obtain rfl : fn = Tryd.f4 := (Option.some.inj (Tryd.func4.symm.trans hfn)).symm
      exact ⟨by kernel_rfl, fun j t ht => by
        rw [Tryd.params4] at ht
        have h3 : t = 24 := by
          rcases j with _ | j
          · simpa using ht.symm
          · simp at ht
        subst h3
        exact (show Tryd.prog.wantsStandIn 24 = false by kernel_rfl)⟩)
    (by kernel_rfl)
#print axioms exprChecks_card
end Go.Proofs.YtibfoafepjggjaaDoor
