import Derived.Test.YtcbahpllcfbkmaaGreatDoorRowCSource
import Derived.Test.YtcbahpllcfbkmaaGreatDoorTie
import Derived.Test.YtcbahpllcfbkmaaGreatDoorCards
import Derived.SevenTiedAt
set_option linter.unusedVariables false
set_option linter.unusedSimpArgs false
set_option linter.unusedSectionVars false
namespace Go.Proofs.YtcbahpllcfbkmaaGreatDoor
open Go
set_option maxRecDepth 100000 in
theorem classtextSource_card:Rows.ClasstextSourceUptoCardSaid:=
 Claim7.holds_tied_plain_at .later [] _ _ _ _ eu (fun _ h=>by cases h) (by kernel_rfl) (fun _ h=>by cases h) classtextSourceUpto_row_tie rfl ⟨rfl,rfl⟩ (by kernel_rfl) rfl
  (fun f fn hf hfn=>by
    obtain rfl:f=8:=Option.some.inj ((show Tryz.prog.funcNamed "testbench/testbenchlaw12.ClasstextSource" = some 8 by kernel_rfl).symm.trans hf) |>.symm;obtain rfl:fn=Tryz.f8:=(Option.some.inj (Tryz.func8.symm.trans hfn)).symm
    exact⟨by kernel_rfl,fun j t ht=>by
     rw[Tryz.params8]at ht;rcases j with _|j
     ·obtain rfl:t=40:=by simpa using ht.symm
      exact(show Tryz.prog.wantsStandIn 40=false by kernel_rfl)
     ·simp at ht⟩)
  (by kernel_rfl)
#print axioms classtextSource_card
end Go.Proofs.YtcbahpllcfbkmaaGreatDoor
