/-
  The card of ExprShapes.
-/
import Derived.Test.YtibfoafepjggjaaDoorRowShapes
import Derived.Test.YtibfoafepjggjaaDoorTie
import Derived.Test.YtibfoafepjggjaaDoorCards
import Derived.SevenTiedAt
namespace Go.Proofs.YtibfoafepjggjaaDoor
open Go

set_option maxRecDepth 100000 in
theorem exprShapes_card : Rows.ExprShapesCardSaid :=
  Claim7.holds_tied_plain_at .later [] [.widerDeep] true Rows.exprShapesCard.stood.harness false
    exprShapes_holds (fun _ h => by cases h) (by kernel_rfl) (fun _ h => by cases h) exprShapes_row_tie rfl ⟨rfl, rfl⟩ (by kernel_rfl) rfl
    (fun f fn hf hfn => by
      obtain rfl : f = 3 := Option.some.inj ((show Tryd.prog.funcNamed "testbench/testbenchlaw08.ExprShapes" = some 3 by kernel_rfl).symm.trans hf) |>.symm
      obtain rfl : fn = Tryd.f3 := (Option.some.inj (Tryd.func3.symm.trans hfn)).symm
      exact ⟨by kernel_rfl, fun j t ht => by
        rw [Tryd.params3] at ht
        rcases j with _ | _ | j
        · obtain rfl : t = 24 := by simpa using ht.symm
          exact (show Tryd.prog.wantsStandIn 24 = false by kernel_rfl)
        · obtain rfl : t = 3 := by simpa using ht.symm
          exact (show Tryd.prog.wantsStandIn 3 = false by kernel_rfl)
        · simp at ht⟩)
    (by kernel_rfl)
#print axioms exprShapes_card
end Go.Proofs.YtibfoafepjggjaaDoor
