/-
  Walks: the reference's walk over the nodes: what it gathers, and how that lies in memory.
  Walks: see.
  Walks: the reference's Size, Depth, Valid, Names, Arrays.
-/
import Derived.Test.YthoebpnbhgmoiaaDoorNames2
import Derived.Test.YthoebpnbhgmoiaaDoorWrong
import Derived.Test.YthoebpnbhgmoiaaDoorData
import Derived.Deep.DeepCutAuto
import Derived.Deep.RegionLaw
import Derived.BigRegion
import Derived.BigQuiet
import Derived.Deep.QuietTactic
set_option linter.unusedVariables false
set_option linter.unusedSimpArgs false
set_option linter.unusedSectionVars false
namespace Go.Proofs.YthoebpnbhgmoiaaDoor
open Go.RowKit
section
end
section
end
end Go.Proofs.YthoebpnbhgmoiaaDoor
namespace Go.Proofs.YthoebpnbhgmoiaaDoor
open Go.RowKit
end Go.Proofs.YthoebpnbhgmoiaaDoor
namespace Go.Proofs.YthoebpnbhgmoiaaDoor
open Go.RowKit
end Go.Proofs.YthoebpnbhgmoiaaDoor
