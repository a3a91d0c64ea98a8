/-
  The card of TseqParts, for inputs of a bounded bulk.
-/
import Derived.Test.YtbhippphcmkjnaaDoorRowTP
import Derived.Test.YtbhippphcmkjnaaDoorTie
import Derived.Test.YtbhippphcmkjnaaDoorCards
import Derived.SevenTiedAt
set_option linter.unusedVariables false
set_option linter.unusedSimpArgs false
namespace Go.Proofs.YtbhippphcmkjnaaDoor
open Go

set_option maxRecDepth 100000 in
theorem tseqParts_card : Rows.TseqPartsUptoCardSaid :=
  Claim7.holds_tied_plain_at .later [] _ _ _ _ tseqParts_upto (fun _ h => by cases h) (by kernel_rfl) (fun _ h => by cases h) tseqPartsUpto_row_tie rfl ⟨rfl, rfl⟩ (by kernel_rfl) rfl
    (fun f fn hf hfn => by
      obtain rfl : f = 3 := Option.some.inj ((show Tryd.prog.funcNamed "testbench/testbenchlaw39.TseqParts" = some 3 by kernel_rfl).symm.trans hf) |>.symm
      obtain rfl : fn = Tryd.f3 := (Option.some.inj (Tryd.func3.symm.trans hfn)).symm
      exact ⟨by kernel_rfl, fun j t ht => by
        rw [Tryd.params3] at ht
        have h3 : t = 27 := by
          rcases j with _ | _ | j
          all_goals first | simpa using ht.symm | simp at ht
        subst h3
        exact (show Tryd.prog.wantsStandIn 27 = false by kernel_rfl)⟩)
    (by kernel_rfl)
#print axioms tseqParts_card
end Go.Proofs.YtbhippphcmkjnaaDoor
