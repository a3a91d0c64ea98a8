/-
  The card of LexerTexts.
-/
import Derived.Test.YtdglhbelfjcffaaDoorRowLTexts
import Derived.Test.YtdglhbelfjcffaaDoorTie
import Derived.Test.YtdglhbelfjcffaaDoorCards
import Derived.SevenTiedAt
set_option linter.unusedVariables false
set_option linter.unusedSimpArgs false
namespace Go.Proofs.YtdglhbelfjcffaaDoor
open Go

set_option maxRecDepth 100000 in
theorem lexerTexts_card : Rows.LexerTextsCardSaid :=
  Claim7.holds_tied_plain_at .later [] [.data, .data, .data, .sentinel, .sentinel, .widerDeep, .widerDeep] true Rows.lexerTextsCard.stood.harness true
    lexerTexts_holds (fun _ h => by cases h) (by kernel_rfl) (fun _ h => by cases h) lexerTexts_row_tie rfl ⟨rfl, rfl⟩ (by kernel_rfl) rfl
    (fun f fn hf hfn => by
      obtain rfl : f = 4 := Option.some.inj ((show Tryd.prog.funcNamed "testbench/testbenchlaw07.LexerTexts" = some 4 by kernel_rfl).symm.trans hf) |>.symm
      obtain rfl : fn = Tryd.f4 := (Option.some.inj (Tryd.func4.symm.trans hfn)).symm
      exact ⟨by kernel_rfl, fun j t ht => by
        rw [Tryd.params4] at ht
        rcases j with _ | j
        · obtain rfl : t = 23 := by simpa using ht.symm
          exact (show Tryd.prog.wantsStandIn 23 = false by kernel_rfl)
        · simp at ht⟩)
    (by kernel_rfl)
#print axioms lexerTexts_card
end Go.Proofs.YtdglhbelfjcffaaDoor
