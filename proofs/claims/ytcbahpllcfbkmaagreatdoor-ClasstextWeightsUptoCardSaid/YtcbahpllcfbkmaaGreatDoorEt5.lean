import Derived.Test.YtcbahpllcfbkmaaGreatDoorEt3
set_option linter.unusedVariables false
set_option linter.unusedSimpArgs false
set_option linter.unusedSectionVars false
namespace Go.Proofs.YtcbahpllcfbkmaaGreatDoor
open Go.RowKit
theorem valid_err{e:Ex}(h:validE e=0):errE e=0∧esize e≤400:=by
 unfold validE at h;split at h
 ·cases h
 ·rename_i hn;exact⟨h,by omega⟩
theorem fun_etPrint(e:Ex)(hs:esize e≤1200000)(hd:edepth e≤1200000)(σ:List (List V)):Fun G 121 [vex e] σ (RetV (.d (dstr (bs (if validE e=0 then textE e else[])))) σ):=by
 have hv:=fun_valid e hs hd;refine fun_code Tryz.func121 k121 (by simp only[vex_eq];rfl) fun hb hw=>?_;unfold c121;simp -dsimp -implicitDefEqProofs only[aw,slots0,V.copy,V.lend,V.lend1,V.cells,V.boxable,over,bldV,boundV,rowsOf,plains,V.plain,Nat.reduceLeDiff,cond_true,cond_false,implies_true,eq_self,ne_eq,reduceIte,reduceCtorEq,Nat.reduceBEq,Nat.reduceLT,Nat.reduceEqDiff,Nat.reduceAdd,Nat.reduceSub,Nat.reduceMul,vex_eq];refine fun_ret (by simpa only[vex_eq]using hv _) ?_;by_cases h:validE e=0
 ·rw[if_pos h];have he:=valid_err h;have hlen:=text_len e he.1;have hT:=text_fun e he.1 (by omega);generalize textE e=T at *;simp -dsimp -implicitDefEqProofs only[aw,slots0,V.copy,V.lend,V.lend1,V.cells,V.boxable,over,bldV,boundV,rowsOf,plains,V.plain,Nat.reduceLeDiff,cond_true,cond_false,implies_true,eq_self,ne_eq,reduceIte,reduceCtorEq,Nat.reduceBEq,Nat.reduceLT,Nat.reduceEqDiff,Nat.reduceAdd,Nat.reduceSub,Nat.reduceMul,decide_eq_true h];refine fun_ret (by simpa only[vex_eq]using hT _) ?_;simp -dsimp -implicitDefEqProofs only[aw,slots0,V.copy,V.lend,V.lend1,V.cells,V.boxable,over,bldV,boundV,rowsOf,plains,V.plain,Nat.reduceLeDiff,cond_true,cond_false,implies_true,eq_self,ne_eq,reduceIte,reduceCtorEq,Nat.reduceBEq,Nat.reduceLT,Nat.reduceEqDiff,Nat.reduceAdd,Nat.reduceSub,Nat.reduceMul]
  first|exact fin_ret hb rfl rfl List.take_length ⟨rfl,rfl⟩|exact fin_ret hb rfl rfl List.take_left ⟨rfl,rfl⟩|(trace_state;fail "fin")
 ·rw[if_neg h];simp -dsimp -implicitDefEqProofs only[aw,slots0,V.copy,V.lend,V.lend1,V.cells,V.boxable,over,bldV,boundV,rowsOf,plains,V.plain,Nat.reduceLeDiff,cond_true,cond_false,implies_true,eq_self,ne_eq,reduceIte,reduceCtorEq,Nat.reduceBEq,Nat.reduceLT,Nat.reduceEqDiff,Nat.reduceAdd,Nat.reduceSub,Nat.reduceMul,decide_eq_false h];first|exact fin_ret hb rfl rfl List.take_length ⟨rfl,rfl⟩|exact fin_ret hb rfl rfl List.take_left ⟨rfl,rfl⟩|(trace_state;fail "fin")
end Go.Proofs.YtcbahpllcfbkmaaGreatDoor
