import Derived.Test.YtcbahpllcfbkmaaGreatDoorRowCPrints
import Derived.Test.YtcbahpllcfbkmaaGreatDoorTie
import Derived.Test.YtcbahpllcfbkmaaGreatDoorCards
import Derived.SevenTiedAt
set_option linter.unusedVariables false
set_option linter.unusedSimpArgs false
set_option linter.unusedSectionVars false
namespace Go.Proofs.YtcbahpllcfbkmaaGreatDoor
open Go
set_option maxRecDepth 100000 in
theorem classtextPrints_card:Rows.ClasstextPrintsUptoCardSaid:=
 Claim7.holds_tied_plain_at .later [] _ _ _ _ eC (fun _ h=>by cases h) (by kernel_rfl) (fun _ h=>by cases h) classtextPrintsUpto_row_tie rfl ⟨rfl,rfl⟩ (by kernel_rfl) rfl
  (fun f fn hf hfn=>by
    obtain rfl:f=4:=Option.some.inj ((show Tryz.prog.funcNamed "testbench/testbenchlaw12.ClasstextPrints" = some 4 by kernel_rfl).symm.trans hf) |>.symm;obtain rfl:fn=Tryz.f4:=(Option.some.inj (Tryz.func4.symm.trans hfn)).symm
    exact⟨by kernel_rfl,fun j t ht=>by
     rw[Tryz.params4]at ht;rcases j with _|j
     ·obtain rfl:t=29:=by simpa using ht.symm
      exact(show Tryz.prog.wantsStandIn 29=false by kernel_rfl)
     ·simp at ht⟩)
  (by kernel_rfl)
#print axioms classtextPrints_card
end Go.Proofs.YtcbahpllcfbkmaaGreatDoor
