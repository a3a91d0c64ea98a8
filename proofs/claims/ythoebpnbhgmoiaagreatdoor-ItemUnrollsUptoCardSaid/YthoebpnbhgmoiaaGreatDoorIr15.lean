import Derived.Test.YthoebpnbhgmoiaaGreatDoorBr8
import Derived.Test.YthoebpnbhgmoiaaGreatDoorEval
import Derived.Test.YthoebpnbhgmoiaaGreatDoorBrief
import Derived.Test.YthoebpnbhgmoiaaGreatDoorIt6
import Derived.Test.YthoebpnbhgmoiaaGreatDoorIr5
import Derived.Test.YthoebpnbhgmoiaaGreatDoorIr10
import Derived.Test.YthoebpnbhgmoiaaGreatDoorIs3
set_option linter.unusedVariables false
set_option linter.unusedSimpArgs false
set_option linter.unusedSectionVars false
namespace Go.Proofs.YthoebpnbhgmoiaaGreatDoor
open Go.RowKit
theorem wi{x:Int}(h1 : -9223372036854775808≤x)(h2:x≤9223372036854775807):IntKind.i64.wrap x=x:=by rw[IntKind.wrap_i64];omega
def hib(p:Nat→Bool):Nat→Nat
 | 0=>0
 | k+1=>2*hib p k+(p (15-k)).toNat
theorem node_fun(op:Int)(a b:Ex)(σ:List (List V)):Fun G 121 [.d (dint op),vex a,vex b] σ (RetV (vex (.mk op 0 ⟨#[]⟩ [a,b])) σ):=by
 refine fun_code Tryz.func121 k121 (by simp only[vex_eq];rfl) fun hb hw=>?_;delta c121 oM oV kI kS kT kF;simp -dsimp -implicitDefEqProofs only[aw,slots0,V.copy,V.cells,V.boxable,over,bldV,rowsOf,plains,V.plain,Nat.reduceLeDiff,eq_self,reduceIte,reduceCtorEq,Nat.reduceBEq,Nat.reduceLT,Nat.reduceEqDiff,Nat.reduceAdd,vex_eq];exact fin_ret (v:=vex (.mk op 0 ⟨#[]⟩ [a,b])) hb (by rw[vex_eq];simp[rs121,resV,res1,Ex.op,Ex.num,Ex.name,Ex.args,dex_eq,aw,V.copy,V.lend,V.lend1,eq_self,reduceIte,Nat.reduceAdd]) (by rw[vex_eq];rfl) List.take_left ⟨by rw[vex_eq],rfl⟩
theorem const_fun(n:Int)(σ:List (List V)):Fun G 82 [.d (dint n)] σ (RetV (vex (constE n)) σ):=by
 refine fun_code Tryz.func82 k82 rfl fun hb hw=>?_;delta c82 oM oV kI kS kT kF;simp -dsimp -implicitDefEqProofs only[aw,slots0,V.copy,V.cells,V.boxable,over,bldV,Nat.reduceLeDiff,eq_self,reduceIte,reduceCtorEq,Nat.reduceBEq,Nat.reduceLT,Nat.reduceEqDiff,Nat.reduceAdd];exact fin_ret (v:=vex (constE n)) hb (by rw[vex_eq];simp[rs82,resV,res1,constE,Ex.op,Ex.num,Ex.name,Ex.args,aw,V.copy,V.lend,V.lend1,eq_self,reduceIte,Nat.reduceAdd]) (by rw[vex_eq];rfl) List.take_left ⟨rfl,rfl⟩
end Go.Proofs.YthoebpnbhgmoiaaGreatDoor
