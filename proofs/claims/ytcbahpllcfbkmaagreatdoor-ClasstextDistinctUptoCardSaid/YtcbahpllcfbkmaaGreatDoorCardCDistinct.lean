import Derived.Test.YtcbahpllcfbkmaaGreatDoorRowCDistinct
import Derived.Test.YtcbahpllcfbkmaaGreatDoorTie
import Derived.Test.YtcbahpllcfbkmaaGreatDoorCards
import Derived.SevenTiedAt
set_option linter.unusedVariables false
set_option linter.unusedSimpArgs false
set_option linter.unusedSectionVars false
namespace Go.Proofs.YtcbahpllcfbkmaaGreatDoor
open Go
set_option maxRecDepth 100000 in
theorem classtextDistinct_card:Rows.ClasstextDistinctUptoCardSaid:=
 Claim7.holds_tied_plain_at .later [] _ _ _ _ ey (fun _ h=>by cases h) (by kernel_rfl) (fun _ h=>by cases h) classtextDistinctUpto_row_tie rfl ⟨rfl,rfl⟩ (by kernel_rfl) rfl
  (fun f fn hf hfn=>by
    obtain rfl:f=5:=Option.some.inj ((show Tryz.prog.funcNamed "testbench/testbenchlaw12.ClasstextDistinct" = some 5 by kernel_rfl).symm.trans hf) |>.symm;obtain rfl:fn=Tryz.f5:=(Option.some.inj (Tryz.func5.symm.trans hfn)).symm
    exact⟨by kernel_rfl,fun j t ht=>by
     rw[Tryz.params5]at ht;rcases j with _|_|j
     ·obtain rfl:t=29:=by simpa using ht.symm
      exact(show Tryz.prog.wantsStandIn 29=false by kernel_rfl)
     ·obtain rfl:t=29:=by simpa using ht.symm
      exact(show Tryz.prog.wantsStandIn 29=false by kernel_rfl)
     ·simp at ht⟩)
  (by kernel_rfl)
#print axioms classtextDistinct_card
end Go.Proofs.YtcbahpllcfbkmaaGreatDoor
