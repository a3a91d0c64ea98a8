/-
  The card of TseqEqual, for inputs of a bounded bulk.
-/
import Derived.Test.YtbhippphcmkjnaaDoorRowTE
import Derived.Test.YtbhippphcmkjnaaDoorTie
import Derived.Test.YtbhippphcmkjnaaDoorCards
import Derived.SevenTiedAt
set_option linter.unusedVariables false
set_option linter.unusedSimpArgs false
namespace Go.Proofs.YtbhippphcmkjnaaDoor
open Go

set_option maxRecDepth 100000 in
theorem tseqEqual_card : Rows.TseqEqualUptoCardSaid :=
  Claim7.holds_tied_plain_at .later [] _ _ _ _ tseqEqual_upto (fun _ h => by cases h) (by kernel_rfl) (fun _ h => by cases h) tseqEqualUpto_row_tie rfl ⟨rfl, rfl⟩ (by kernel_rfl) rfl
    (fun f fn hf hfn => by
      obtain rfl : f = 4 := Option.some.inj ((show Tryd.prog.funcNamed "testbench/testbenchlaw39.TseqEqual" = some 4 by kernel_rfl).symm.trans hf) |>.symm
      obtain rfl : fn = Tryd.f4 := (Option.some.inj (Tryd.func4.symm.trans hfn)).symm
      exact ⟨by kernel_rfl, fun j t ht => by
        rw [Tryd.params4] at ht
        have h3 : t = 27 := by
          rcases j with _ | _ | j
          all_goals first | simpa using ht.symm | simp at ht
        subst h3
        exact (show Tryd.prog.wantsStandIn 27 = false by kernel_rfl)⟩)
    (by kernel_rfl)
#print axioms tseqEqual_card
end Go.Proofs.YtbhippphcmkjnaaDoor
