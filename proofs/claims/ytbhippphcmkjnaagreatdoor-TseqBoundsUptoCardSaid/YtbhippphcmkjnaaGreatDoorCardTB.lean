/-
  The card of TseqBounds, for inputs of a bounded bulk.
-/
import Derived.Test.YtbhippphcmkjnaaGreatDoorRowTB
import Derived.Test.YtbhippphcmkjnaaGreatDoorTie
import Derived.Test.YtbhippphcmkjnaaGreatDoorCards
import Derived.SevenTiedAt
set_option linter.unusedVariables false
set_option linter.unusedSimpArgs false
namespace Go.Proofs.YtbhippphcmkjnaaGreatDoor
open Go

set_option maxRecDepth 100000 in
theorem tseqBounds_card : Rows.TseqBoundsUptoCardSaid :=
  Claim7.holds_tied_plain_at .later [] _ _ _ _ tseqBounds_upto (fun _ h => by cases h) (by kernel_rfl) (fun _ h => by cases h) tseqBoundsUpto_row_tie rfl ⟨rfl, rfl⟩ (by kernel_rfl) rfl
    (fun f fn hf hfn => by
      obtain rfl : f = 6 := Option.some.inj ((show Tryz.prog.funcNamed "testbench/testbenchlaw39.TseqBounds" = some 6 by kernel_rfl).symm.trans hf) |>.symm
      obtain rfl : fn = Tryz.f6 := (Option.some.inj (Tryz.func6.symm.trans hfn)).symm
      exact ⟨by kernel_rfl, fun j t ht => by
        rw [Tryz.params6] at ht
        have h3 : t = 27 := by
          rcases j with _ | _ | j
          all_goals first | simpa using ht.symm | simp at ht
        subst h3
        exact (show Tryz.prog.wantsStandIn 27 = false by kernel_rfl)⟩)
    (by kernel_rfl)
#print axioms tseqBounds_card
end Go.Proofs.YtbhippphcmkjnaaGreatDoor
