/-
  The card of ExprReplaces.
-/
import Derived.Test.YtibfoafepjggjaaDoorRowRepl
import Derived.Test.YtibfoafepjggjaaDoorTie
import Derived.Test.YtibfoafepjggjaaDoorCards
import Derived.SevenTiedAt
namespace Go.Proofs.YtibfoafepjggjaaDoor
open Go

set_option maxRecDepth 100000 in
theorem exprReplaces_card : Rows.ExprReplacesCardSaid :=
  Claim7.holds_tied_plain_at .later [] [.widerDeep] true Rows.exprReplacesCard.stood.harness false
    exprReplaces_holds (fun _ h => by cases h) (by kernel_rfl) (fun _ h => by cases h) exprReplaces_row_tie rfl ⟨rfl, rfl⟩ (by kernel_rfl) rfl
    (fun f fn hf hfn => by
      obtain rfl : f = 6 := Option.some.inj ((show Tryd.prog.funcNamed "testbench/testbenchlaw08.ExprReplaces" = some 6 by kernel_rfl).symm.trans hf) |>.symm
      obtain rfl : fn = Tryd.f6 := (Option.some.inj (Tryd.func6.symm.trans hfn)).symm
      exact ⟨by kernel_rfl, fun j t ht => by
        rw [Tryd.params6] at ht
        rcases j with _ | _ | _ | j
        · obtain rfl : t = 24 := by simpa using ht.symm
          exact (show Tryd.prog.wantsStandIn 24 = false by kernel_rfl)
        · obtain rfl : t = 24 := by simpa using ht.symm
          exact (show Tryd.prog.wantsStandIn 24 = false by kernel_rfl)
        · obtain rfl : t = 37 := by simpa using ht.symm
          exact (show Tryd.prog.wantsStandIn 37 = false by kernel_rfl)
        · simp at ht⟩)
    (by kernel_rfl)
#print axioms exprReplaces_card
end Go.Proofs.YtibfoafepjggjaaDoor
