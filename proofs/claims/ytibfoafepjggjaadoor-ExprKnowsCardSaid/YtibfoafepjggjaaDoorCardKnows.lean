/-
  The card of ExprKnows.
-/
import Derived.Test.YtibfoafepjggjaaDoorRowKnows
import Derived.Test.YtibfoafepjggjaaDoorTie
import Derived.Test.YtibfoafepjggjaaDoorCards
import Derived.SevenTiedAt
namespace Go.Proofs.YtibfoafepjggjaaDoor
open Go

set_option maxRecDepth 100000 in
theorem exprKnows_card : Rows.ExprKnowsCardSaid :=
  Claim7.holds_tied_plain_at .later [] [.widerDeep] true Rows.exprKnowsCard.stood.harness false
    exprKnows_holds (fun _ h => by cases h) (by kernel_rfl) (fun _ h => by cases h) exprKnows_row_tie rfl ⟨rfl, rfl⟩ (by kernel_rfl) rfl
    (fun f fn hf hfn => by
      obtain rfl : f = 5 := Option.some.inj ((show Tryd.prog.funcNamed "testbench/testbenchlaw08.ExprKnows" = some 5 by kernel_rfl).symm.trans hf) |>.symm
      obtain rfl : fn = Tryd.f5 := (Option.some.inj (Tryd.func5.symm.trans hfn)).symm
      exact ⟨by kernel_rfl, fun j t ht => by
        rw [Tryd.params5] at ht
        rcases j with _ | _ | j
        · obtain rfl : t = 24 := by simpa using ht.symm
          exact (show Tryd.prog.wantsStandIn 24 = false by kernel_rfl)
        · obtain rfl : t = 35 := by simpa using ht.symm
          exact (show Tryd.prog.wantsStandIn 35 = false by kernel_rfl)
        · simp at ht⟩)
    (by kernel_rfl)
#print axioms exprKnows_card
end Go.Proofs.YtibfoafepjggjaaDoor
