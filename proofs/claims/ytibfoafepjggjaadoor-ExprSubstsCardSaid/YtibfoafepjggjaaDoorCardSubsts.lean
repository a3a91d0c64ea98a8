/-
  The card of ExprSubsts.
-/
import Derived.Test.YtibfoafepjggjaaDoorRowSubsts
import Derived.Test.YtibfoafepjggjaaDoorTie
import Derived.Test.YtibfoafepjggjaaDoorCards
import Derived.SevenTiedAt
namespace Go.Proofs.YtibfoafepjggjaaDoor
open Go

set_option maxRecDepth 100000 in
theorem exprSubsts_card : Rows.ExprSubstsCardSaid :=
  Claim7.holds_tied_plain_at .later [] [.widerDeep] true Rows.exprSubstsCard.stood.harness false
    exprSubsts_holds (fun _ h => by cases h) (by kernel_rfl) (fun _ h => by cases h) exprSubsts_row_tie rfl ⟨rfl, rfl⟩ (by kernel_rfl) rfl
    (fun f fn hf hfn => by
      obtain rfl : f = 8 := Option.some.inj ((show Tryd.prog.funcNamed "testbench/testbenchlaw08.ExprSubsts" = some 8 by kernel_rfl).symm.trans hf) |>.symm
      obtain rfl : fn = Tryd.f8 := (Option.some.inj (Tryd.func8.symm.trans hfn)).symm
      exact ⟨by kernel_rfl, fun j t ht => by
        rw [Tryd.params8] at ht
        rcases j with _ | _ | _ | j
        · obtain rfl : t = 24 := by simpa using ht.symm
          exact (show Tryd.prog.wantsStandIn 24 = false by kernel_rfl)
        · obtain rfl : t = 9 := by simpa using ht.symm
          exact (show Tryd.prog.wantsStandIn 9 = false by kernel_rfl)
        · obtain rfl : t = 24 := by simpa using ht.symm
          exact (show Tryd.prog.wantsStandIn 24 = false by kernel_rfl)
        · simp at ht⟩)
    (by kernel_rfl)
#print axioms exprSubsts_card
end Go.Proofs.YtibfoafepjggjaaDoor
