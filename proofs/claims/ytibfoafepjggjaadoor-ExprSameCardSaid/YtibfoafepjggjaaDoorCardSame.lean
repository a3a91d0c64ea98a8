/-
  The card of ExprSame.
-/
import Derived.Test.YtibfoafepjggjaaDoorRowSame
import Derived.Test.YtibfoafepjggjaaDoorTie
import Derived.Test.YtibfoafepjggjaaDoorCards
import Derived.SevenTiedAt
namespace Go.Proofs.YtibfoafepjggjaaDoor
open Go

set_option maxRecDepth 100000 in
theorem exprSame_card : Rows.ExprSameCardSaid :=
  Claim7.holds_tied_plain_at .later [] [.widerDeep] true Rows.exprSameCard.stood.harness false
    exprSame_holds (fun _ h => by cases h) (by kernel_rfl) (fun _ h => by cases h) exprSame_row_tie rfl ⟨rfl, rfl⟩ (by kernel_rfl) rfl
    (fun f fn hf hfn => by
      obtain rfl : f = 7 := Option.some.inj ((show Tryd.prog.funcNamed "testbench/testbenchlaw08.ExprSame" = some 7 by kernel_rfl).symm.trans hf) |>.symm
      obtain rfl : fn = Tryd.f7 := (Option.some.inj (Tryd.func7.symm.trans hfn)).symm
      exact ⟨by kernel_rfl, fun j t ht => by
        rw [Tryd.params7] at ht
        have h3 : t = 24 := by
          rcases j with _ | _ | j
          · simpa using ht.symm
          · simpa using ht.symm
          · simp at ht
        subst h3
        exact (show Tryd.prog.wantsStandIn 24 = false by kernel_rfl)⟩)
    (by kernel_rfl)
#print axioms exprSame_card
end Go.Proofs.YtibfoafepjggjaaDoor
