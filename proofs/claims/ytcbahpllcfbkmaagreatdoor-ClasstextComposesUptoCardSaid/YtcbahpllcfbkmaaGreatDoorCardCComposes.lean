import Derived.Test.YtcbahpllcfbkmaaGreatDoorRowCComposes
import Derived.Test.YtcbahpllcfbkmaaGreatDoorTie
import Derived.Test.YtcbahpllcfbkmaaGreatDoorCards
import Derived.SevenTiedAt
set_option linter.unusedVariables false
set_option linter.unusedSimpArgs false
set_option linter.unusedSectionVars false
namespace Go.Proofs.YtcbahpllcfbkmaaGreatDoor
open Go
set_option maxRecDepth 100000 in
theorem classtextComposes_card:Rows.ClasstextComposesUptoCardSaid:=
 Claim7.holds_tied_plain_at .later [] _ _ _ _ dl (fun _ h=>by cases h) (by kernel_rfl) (fun _ h=>by cases h) classtextComposesUpto_row_tie rfl ⟨rfl,rfl⟩ (by kernel_rfl) rfl
  (fun f fn hf hfn=>by
    obtain rfl:f=7:=Option.some.inj ((show Tryz.prog.funcNamed "testbench/testbenchlaw12.ClasstextComposes" = some 7 by kernel_rfl).symm.trans hf) |>.symm;obtain rfl:fn=Tryz.f7:=(Option.some.inj (Tryz.func7.symm.trans hfn)).symm
    exact⟨by kernel_rfl,fun j t ht=>by
     rw[Tryz.params7]at ht;rcases j with _|_|_|j
     ·obtain rfl:t=33:=by simpa using ht.symm
      exact(show Tryz.prog.wantsStandIn 33=false by kernel_rfl)
     ·obtain rfl:t=33:=by simpa using ht.symm
      exact(show Tryz.prog.wantsStandIn 33=false by kernel_rfl)
     ·obtain rfl:t=5:=by simpa using ht.symm
      exact(show Tryz.prog.wantsStandIn 5=false by kernel_rfl)
     ·simp at ht⟩)
  (by kernel_rfl)
#print axioms classtextComposes_card
end Go.Proofs.YtcbahpllcfbkmaaGreatDoor
