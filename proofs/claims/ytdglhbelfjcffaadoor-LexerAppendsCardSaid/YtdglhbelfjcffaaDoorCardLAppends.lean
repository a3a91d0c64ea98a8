/-
  The card of LexerAppends.
-/
import Derived.Test.YtdglhbelfjcffaaDoorRowLAppends
import Derived.Test.YtdglhbelfjcffaaDoorTie
import Derived.Test.YtdglhbelfjcffaaDoorCards
import Derived.SevenTiedAt
set_option linter.unusedVariables false
set_option linter.unusedSimpArgs false
namespace Go.Proofs.YtdglhbelfjcffaaDoor
open Go

set_option maxRecDepth 100000 in
theorem lexerAppends_card : Rows.LexerAppendsCardSaid :=
  Claim7.holds_tied_plain_at .later [] [.data, .data, .data, .sentinel, .sentinel, .widerDeep, .widerDeep] true Rows.lexerAppendsCard.stood.harness true
    lexerAppends_holds (fun _ h => by cases h) (by kernel_rfl) (fun _ h => by cases h) lexerAppends_row_tie rfl ⟨rfl, rfl⟩ (by kernel_rfl) rfl
    (fun f fn hf hfn => by
      obtain rfl : f = 6 := Option.some.inj ((show Tryd.prog.funcNamed "testbench/testbenchlaw07.LexerAppends" = some 6 by kernel_rfl).symm.trans hf) |>.symm
      obtain rfl : fn = Tryd.f6 := (Option.some.inj (Tryd.func6.symm.trans hfn)).symm
      exact ⟨by kernel_rfl, fun j t ht => by
        rw [Tryd.params6] at ht
        rcases j with _ | _ | j
        · obtain rfl : t = 9 := by simpa using ht.symm
          exact (show Tryd.prog.wantsStandIn 9 = false by kernel_rfl)
        · obtain rfl : t = 9 := by simpa using ht.symm
          exact (show Tryd.prog.wantsStandIn 9 = false by kernel_rfl)
        · simp at ht⟩)
    (by kernel_rfl)
#print axioms lexerAppends_card
end Go.Proofs.YtdglhbelfjcffaaDoor
