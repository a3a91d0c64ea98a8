import Derived.Test.YtcbahpllcfbkmaaGreatDoorPt
import Derived.Test.YtcbahpllcfbkmaaGreatDoorAdd
import Derived.Test.YtcbahpllcfbkmaaGreatDoorK3
set_option linter.unusedVariables false
set_option linter.unusedSimpArgs false
set_option linter.unusedSectionVars false
namespace Go.Proofs.YtcbahpllcfbkmaaGreatDoor
open Go.RowKit
theorem CR:vex rj=.agg [.d (ay 0),.d (ay 0),.d (ak ⟨#[]⟩),.d (.sl [])]:=by rw[aI];rfl
end Go.Proofs.YtcbahpllcfbkmaaGreatDoor
