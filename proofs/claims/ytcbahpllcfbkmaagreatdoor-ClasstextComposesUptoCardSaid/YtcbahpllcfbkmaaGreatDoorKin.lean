import Derived.Test.YtcbahpllcfbkmaaGreatDoorK3
import Derived.Test.YtcbahpllcfbkmaaGreatDoorRaw
set_option linter.unusedVariables false
set_option linter.unusedSimpArgs false
set_option linter.unusedSectionVars false
namespace Go.Proofs.YtcbahpllcfbkmaaGreatDoor
open Go.RowKit
abbrev vu7(u:List Bool):V:=.agg (u.map av)
def kvK:List (Key×V):=[(.i 1,vu7 [true,false,false,false,false,false,false]),(.i 2,vu7 [true,false,false,false,false,false,false]),(.i 3,vu7 [false,true,false,true,false,false,false]),
 (.i 4,vu7 [true,false,false,false,true,true,false]),(.i 5,vu7 [false,true,true,false,true,false,false]),(.i 6,vu7 [false,false,false,false,false,false,true])]
theorem mj(σ:List (List V)):Fun G 84 [] σ (fun o σ'=>o=.ret (.mp σ.length)∧σ'=σ++[[.mapc false kvK]]):=by
 refine ax Tryz.func84 k84 rfl fun hb hw=>?_;unfold c84;simp -dsimp -implicitDefEqProofs only[aw,ah,V.copy,V.lend,V.lend1,V.cells,V.boxable,over,ak,ae,ac,ai,V.plain,Nat.reduceLeDiff,cond_true,cond_false,implies_true,eq_self,ne_eq,reduceIte,reduceCtorEq,Nat.reduceBEq,Nat.reduceLT,Nat.reduceEqDiff,Nat.reduceAdd,Nat.reduceSub,Nat.reduceMul];exact⟨_,_,.refl _ _ _,.mp σ.length,rfl,(σ++[[V.mapc false kvK]]).length,by simp,by show az _ (List.take _ (σ++[[V.mapc false kvK]]))=true;rw[List.take_length];exact aZ hb rfl,by simp[V.under],by show Out.ret _=_∧List.take _ (σ++[[V.mapc false kvK]])=_;rw[List.take_length];exact⟨rfl,rfl⟩⟩
end Go.Proofs.YtcbahpllcfbkmaaGreatDoor
