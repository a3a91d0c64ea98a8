import Derived.Test.YtcbahpllcfbkmaaGreatDoorK3
import Derived.Test.YtcbahpllcfbkmaaGreatDoorLib7
import Derived.Test.YtcbahpllcfbkmaaGreatDoorBr8
import Derived.Test.YtcbahpllcfbkmaaGreatDoorData
import Derived.Test.YtcbahpllcfbkmaaGreatDoorNames2
import Derived.Test.YtcbahpllcfbkmaaGreatDoorIw1
import Derived.Test.YtcbahpllcfbkmaaGreatDoorShelf
import Derived.Scope
set_option linter.unusedVariables false
set_option linter.unusedSimpArgs false
set_option linter.unusedSectionVars false
namespace Go.Proofs.YtcbahpllcfbkmaaGreatDoor
open Go.RowKit
section
variable (spl : ByteArray → Option (ByteArray × Int)) (fs : List (ByteArray × Int))
end
end Go.Proofs.YtcbahpllcfbkmaaGreatDoor
namespace Go.Proofs.YtcbahpllcfbkmaaGreatDoor
open Go.RowKit
section
variable (spl : ByteArray → Option (ByteArray × Int)) (fs : List (ByteArray × Int))
theorem je{l:List It}{d:Nat}(h:rvl l d=0){x:It}(hx:x∈l):aR x d=0∧rvl x.items (d+1)=0∧rvl x.els (d+1)=0:=by
 induction l with
 | nil=>cases hx
 | cons a r ih=>
  rw[rvl,tf]at h;by_cases h1:aR a d=0
  ·rw[if_pos h1]at h;by_cases h2:rvl a.items (d+1)=0
   ·rw[if_pos h2]at h;by_cases h3:rvl a.els (d+1)=0
    ·rw[if_pos h3]at h;rcases List.mem_cons.1 hx with rfl|hx
     ·exact⟨h1,h2,h3⟩
     ·exact ih h hx
    ·rw[if_neg h3]at h;exact absurd h h3
   ·rw[if_neg h2,if_neg h2]at h;exact absurd h h2
  ·rw[if_neg h1,if_neg h1]at h;exact absurd h h1
end
end Go.Proofs.YtcbahpllcfbkmaaGreatDoor
namespace Go.Proofs.YtcbahpllcfbkmaaGreatDoor
open Go.RowKit
section
variable (fs : List (ByteArray × Int))
end
end Go.Proofs.YtcbahpllcfbkmaaGreatDoor
namespace Go.Proofs.YtcbahpllcfbkmaaGreatDoor
open Go.RowKit
section
variable (spl : ByteArray → Option (ByteArray × Int)) (fs : List (ByteArray × Int))
end
end Go.Proofs.YtcbahpllcfbkmaaGreatDoor
namespace Go.Proofs.YtcbahpllcfbkmaaGreatDoor
open Go.RowKit
theorem yi(l:Bs)(n:Nat)(h:n≤l.length):l9 true 0 (V.d (an (bs l))) none (some (V.d (az n)))=some (V.d (an (bs (l.take n)))):=by
 simp[l9,ae,rT,dE,h,Ch]
theorem yp(l:Bs)(n:Nat)(h:n≤l.length):l9 true 0 (V.d (an (bs l))) (some (V.d (az n))) none=some (V.d (an (bs (l.drop n)))):=by
 have:=BF l n;rw[dE]at this;simp[l9,ae,rT,dE,h,this]
theorem gi:decide (bs []=({data := #[]}:ByteArray))=true:=by rw[decide_eq_true_eq];rfl
theorem ep{K P:V→List (List V)→Prop}{v:V}{σ:List (List V)}:BJ K P (.ret v) σ=K v σ:=rfl
end Go.Proofs.YtcbahpllcfbkmaaGreatDoor
