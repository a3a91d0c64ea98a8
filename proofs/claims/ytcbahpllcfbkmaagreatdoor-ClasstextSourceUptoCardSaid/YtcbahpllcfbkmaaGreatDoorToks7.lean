import Derived.Test.YtcbahpllcfbkmaaGreatDoorK3
import Derived.Test.YtcbahpllcfbkmaaGreatDoorLib7
import Derived.Test.YtcbahpllcfbkmaaGreatDoorBr8
import Derived.Test.YtcbahpllcfbkmaaGreatDoorData
import Derived.Test.YtcbahpllcfbkmaaGreatDoorNames2
import Derived.Test.YtcbahpllcfbkmaaGreatDoorIw1
import Derived.Test.YtcbahpllcfbkmaaGreatDoorShelf
import Derived.Scope
set_option linter.unusedVariables false
set_option linter.unusedSimpArgs false
set_option linter.unusedSectionVars false
namespace Go.Proofs.YtcbahpllcfbkmaaGreatDoor
open Go.RowKit
section
variable (spl : ByteArray → Option (ByteArray × Int)) (fs : List (ByteArray × Int))
end
end Go.Proofs.YtcbahpllcfbkmaaGreatDoor
namespace Go.Proofs.YtcbahpllcfbkmaaGreatDoor
open Go.RowKit
section
variable (spl : ByteArray → Option (ByteArray × Int)) (fs : List (ByteArray × Int))
theorem lB{l:List It}{d:Nat}(h:rvl l d=0){x:It}(hx:x∈l):aZ x d=0∧rvl x.items (d+1)=0∧rvl x.els (d+1)=0:=by
 induction l with
 | nil=>cases hx
 | cons a r ih=>
  rw[rvl,pL]at h;by_cases h1:aZ a d=0
  ·rw[if_pos h1]at h;by_cases h2:rvl a.items (d+1)=0
   ·rw[if_pos h2]at h;by_cases h3:rvl a.els (d+1)=0
    ·rw[if_pos h3]at h;rcases List.mem_cons.1 hx with rfl|hx
     ·exact⟨h1,h2,h3⟩
     ·exact ih h hx
    ·rw[if_neg h3]at h;exact absurd h h3
   ·rw[if_neg h2,if_neg h2]at h;exact absurd h h2
  ·rw[if_neg h1,if_neg h1]at h;exact absurd h h1
end
end Go.Proofs.YtcbahpllcfbkmaaGreatDoor
namespace Go.Proofs.YtcbahpllcfbkmaaGreatDoor
open Go.RowKit
section
variable (fs : List (ByteArray × Int))
end
end Go.Proofs.YtcbahpllcfbkmaaGreatDoor
namespace Go.Proofs.YtcbahpllcfbkmaaGreatDoor
open Go.RowKit
section
variable (spl : ByteArray → Option (ByteArray × Int)) (fs : List (ByteArray × Int))
end
end Go.Proofs.YtcbahpllcfbkmaaGreatDoor
namespace Go.Proofs.YtcbahpllcfbkmaaGreatDoor
open Go.RowKit
theorem lN(l:Bs)(n:Nat)(h:n≤l.length):kf true 0 (V.d (ak (bs l))) none (some (V.d (ay n)))=some (V.d (ak (bs (l.take n)))):=by
 simp[kf,ae,pc,bR,h,zl]
theorem wt(l:Bs)(n:Nat)(h:n≤l.length):kf true 0 (V.d (ak (bs l))) (some (V.d (ay n))) none=some (V.d (ak (bs (l.drop n)))):=by
 have:=zo l n;rw[bR]at this;simp[kf,ae,pc,bR,h,this]
theorem cv:decide (bs []=({data := #[]}:ByteArray))=true:=by rw[decide_eq_true_eq];rfl
theorem Ar(c:UInt8)(r:Bs):decide (bs (c::r)=({data := #[]}:ByteArray))=false:=by
 rw[decide_eq_false_iff_not];intro h;have h2:=jC.1 (h:bs (c::r)=bs []);cases h2
theorem yw(c:UInt8)(r:Bs):ixV (V.d (ak (bs (c::r)))) (V.d (.lit (.int .i64 0)))=some (aK .u8 c.toNat):=by simp[ixV,aY]
theorem dK{K P:V→List (List V)→Prop}{v:V}{σ:List (List V)}:xW K P (.ret v) σ=K v σ:=rfl
end Go.Proofs.YtcbahpllcfbkmaaGreatDoor
