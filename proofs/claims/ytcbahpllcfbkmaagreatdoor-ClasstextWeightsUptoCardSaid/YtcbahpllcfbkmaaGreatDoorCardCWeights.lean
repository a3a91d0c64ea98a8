import Derived.Test.YtcbahpllcfbkmaaGreatDoorRowCWeights
import Derived.Test.YtcbahpllcfbkmaaGreatDoorTie
import Derived.Test.YtcbahpllcfbkmaaGreatDoorCards
import Derived.SevenTiedAt
set_option linter.unusedVariables false
set_option linter.unusedSimpArgs false
set_option linter.unusedSectionVars false
namespace Go.Proofs.YtcbahpllcfbkmaaGreatDoor
open Go
set_option maxRecDepth 100000 in
theorem classtextWeights_card:Rows.ClasstextWeightsUptoCardSaid:=
 Claim7.holds_tied_plain_at .later [] _ _ _ _ classtextWeights_upto (fun _ h=>by cases h) (by kernel_rfl) (fun _ h=>by cases h) classtextWeightsUpto_row_tie rfl ⟨rfl,rfl⟩ (by kernel_rfl) rfl
  (fun f fn hf hfn=>by
    obtain rfl:f=3:=Option.some.inj ((show Tryz.prog.funcNamed "testbench/testbenchlaw12.ClasstextWeights" = some 3 by kernel_rfl).symm.trans hf) |>.symm;obtain rfl:fn=Tryz.f3:=(Option.some.inj (Tryz.func3.symm.trans hfn)).symm
    exact⟨by kernel_rfl,fun j t ht=>by
     rw[Tryz.params3]at ht;rcases j with _|j
     ·obtain rfl:t=22:=by simpa using ht.symm
      exact(show Tryz.prog.wantsStandIn 22=false by kernel_rfl)
     ·simp at ht⟩)
  (by kernel_rfl)
#print axioms classtextWeights_card
end Go.Proofs.YtcbahpllcfbkmaaGreatDoor
