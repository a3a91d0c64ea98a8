/-
  The card of TseqValid, for inputs of a bounded bulk.
-/
import Derived.Test.YtbhippphcmkjnaaGreatDoorRowTV
import Derived.Test.YtbhippphcmkjnaaGreatDoorTie
import Derived.Test.YtbhippphcmkjnaaGreatDoorCards
import Derived.SevenTiedAt
set_option linter.unusedVariables false
set_option linter.unusedSimpArgs false
namespace Go.Proofs.YtbhippphcmkjnaaGreatDoor
open Go

set_option maxRecDepth 100000 in
theorem tseqValid_card : Rows.TseqValidUptoCardSaid :=
  Claim7.holds_tied_plain_at .later [] _ _ _ _ tseqValid_upto (fun _ h => by cases h) (by kernel_rfl) (fun _ h => by cases h) tseqValidUpto_row_tie rfl ⟨rfl, rfl⟩ (by kernel_rfl) rfl
    (fun f fn hf hfn => by
      obtain rfl : f = 3 := Option.some.inj ((show Tryz.prog.funcNamed "testbench/testbenchlaw39.TseqValid" = some 3 by kernel_rfl).symm.trans hf) |>.symm
      obtain rfl : fn = Tryz.f3 := (Option.some.inj (Tryz.func3.symm.trans hfn)).symm
      exact ⟨by kernel_rfl, fun j t ht => by
        rw [Tryz.params3] at ht
        have h3 : t = 27 := by
          rcases j with _ | _ | j
          all_goals first | simpa using ht.symm | simp at ht
        subst h3
        exact (show Tryz.prog.wantsStandIn 27 = false by kernel_rfl)⟩)
    (by kernel_rfl)
#print axioms tseqValid_card
end Go.Proofs.YtbhippphcmkjnaaGreatDoor
