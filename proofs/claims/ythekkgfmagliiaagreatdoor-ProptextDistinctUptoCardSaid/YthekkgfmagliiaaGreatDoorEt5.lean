import Derived.Test.YthekkgfmagliiaaGreatDoorEt3
set_option linter.unusedVariables false
set_option linter.unusedSimpArgs false
set_option linter.unusedSectionVars false
namespace Go.Proofs.YthekkgfmagliiaaGreatDoor
open Go.RowKit
theorem AY{e:Ex}(h:bd e=0):dz e=0∧aQ e≤400:=by
 unfold bd at h;split at h
 ·cases h
 ·rename_i hn;exact⟨h,by omega⟩
theorem tS(e:Ex)(hs:aQ e≤1000000)(hd:bN e≤1000000)(σ:List (List V)):Fun G 54 [vex e] σ (aG (.d (an (bs (if bd e=0 then aX e else[])))) σ):=by
 have hv:=mz e hs hd;refine aD Tryz.func54 k54 (by simp only[aR];rfl) fun hb hw=>?_;unfold c54;simp -dsimp -implicitDefEqProofs only[aw,ac,V.copy,V.lend,V.lend1,V.cells,V.boxable,over,al,ah,ae,ai,V.plain,Nat.reduceLeDiff,cond_true,cond_false,implies_true,eq_self,ne_eq,reduceIte,reduceCtorEq,Nat.reduceBEq,Nat.reduceLT,Nat.reduceEqDiff,Nat.reduceAdd,Nat.reduceSub,Nat.reduceMul,aR];refine aq (by simpa only[aR]using hv _) ?_;by_cases h:bd e=0
 ·rw[if_pos h];have he:=AY h;have hlen:=tX e he.1;have hT:=C1 e he.1 (by omega);generalize aX e=T at *;simp -dsimp -implicitDefEqProofs only[aw,ac,V.copy,V.lend,V.lend1,V.cells,V.boxable,over,al,ah,ae,ai,V.plain,Nat.reduceLeDiff,cond_true,cond_false,implies_true,eq_self,ne_eq,reduceIte,reduceCtorEq,Nat.reduceBEq,Nat.reduceLT,Nat.reduceEqDiff,Nat.reduceAdd,Nat.reduceSub,Nat.reduceMul,decide_eq_true h];refine aq (by simpa only[aR]using hT _) ?_;simp -dsimp -implicitDefEqProofs only[aw,ac,V.copy,V.lend,V.lend1,V.cells,V.boxable,over,al,ah,ae,ai,V.plain,Nat.reduceLeDiff,cond_true,cond_false,implies_true,eq_self,ne_eq,reduceIte,reduceCtorEq,Nat.reduceBEq,Nat.reduceLT,Nat.reduceEqDiff,Nat.reduceAdd,Nat.reduceSub,Nat.reduceMul]
  first|exact am hb rfl rfl List.take_length ⟨rfl,rfl⟩|exact am hb rfl rfl List.take_left ⟨rfl,rfl⟩|(trace_state;fail "fin")
 ·rw[if_neg h];simp -dsimp -implicitDefEqProofs only[aw,ac,V.copy,V.lend,V.lend1,V.cells,V.boxable,over,al,ah,ae,ai,V.plain,Nat.reduceLeDiff,cond_true,cond_false,implies_true,eq_self,ne_eq,reduceIte,reduceCtorEq,Nat.reduceBEq,Nat.reduceLT,Nat.reduceEqDiff,Nat.reduceAdd,Nat.reduceSub,Nat.reduceMul,decide_eq_false h];first|exact am hb rfl rfl List.take_length ⟨rfl,rfl⟩|exact am hb rfl rfl List.take_left ⟨rfl,rfl⟩|(trace_state;fail "fin")
end Go.Proofs.YthekkgfmagliiaaGreatDoor
