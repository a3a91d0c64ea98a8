import Derived.Test.YthoebpnbhgmoiaaGreatDoorIr2
import Derived.Test.YthoebpnbhgmoiaaGreatDoorIt6
import Derived.Test.YthoebpnbhgmoiaaGreatDoorClo
set_option linter.unusedVariables false
set_option linter.unusedSimpArgs false
set_option linter.unusedSectionVars false
namespace Go.Proofs.YthoebpnbhgmoiaaGreatDoor
open Go.RowKit
abbrev vfld(o:Option Int):V:=.tup [.d (dint (o.getD 0)),vbool o.isSome]
theorem fsz_drop(c:Cl)(s:ByteArray){j:Nat}(h:j<c.fields.length):fsz ((fldS c).drop j) s=if c.fields[j].name=s then some c.fields[j].size else fsz ((fldS c).drop (j+1)) s:=by
 have h':j<(fldS c).length:=by unfold fldS;simpa using h
 have he:(fldS c)[j]=(c.fields[j].name,c.fields[j].size):=by simp[fldS]
 rw[List.drop_eq_getElem_cons h',he];unfold fsz;rw[List.find?_cons];by_cases e:c.fields[j].name=s
 ·rw[if_pos e];simp[e]
 ·rw[if_neg e];simp[e]
theorem field_fun(c:Cl)(s:ByteArray)(hl:c.fields.length≤1000000)(σ:List (List V)):Fun G 80 [vcl c,.d (dstr s)] σ (RetV (vfld (fsz (fldS c) s)) σ):=by
 refine fun_code Tryz.func80 k80 rfl fun hb hw=>?_;delta c80 oM oV kI kS kT kF;simp -dsimp -implicitDefEqProofs only[aw,slots0,V.copy,V.cells,V.boxable,eq_self,reduceIte,reduceCtorEq,Nat.reduceBEq,Nat.reduceLT,Nat.reduceEqDiff];refine awp_for (R:=fun(j:Nat) ρ σ'=>ρ=[(1,.d (dstr s)),(2,.ptr σ.length 0),(6,vint .i64 j)]∧σ'=σ++[clsC c]∧fsz (fldS c) s=fsz ((fldS c).drop j) s) c.fields.length ⟨rfl,rfl,rfl⟩ ?_ _;rintro j ρ' σ' hj ⟨rfl,rfl,hr⟩;by_cases hlt:j<c.fields.length
 ·rw[fsz_drop c s hlt]at hr;have hxx:c.fields[j]? = some c.fields[j]:=List.getElem?_eq_getElem hlt;generalize c.fields[j]=f at hr hxx;have hd:dfd f=[dstr f.name,dint f.width,dint f.size,dint f.mode,dint f.init]:=rfl;have wj:=wrap_nat hlt (show c.fields.length≤9223372036854775807 by omega);by_cases e:f.name=s
  ·rw[if_pos e]at hr;rw[hr];simp -dsimp -implicitDefEqProofs only[aw,V.copy,Nat.reduceLeDiff,eq_self,reduceIte,Nat.reduceBEq,Nat.reduceLT,Nat.reduceEqDiff,Nat.reduceAdd,Int.ofNat_lt,hlt,decide_true,hxx,hd,decide_eq_true e];first|exact fin_ret hb rfl rfl List.take_length ⟨rfl,rfl⟩|exact fin_ret hb rfl rfl List.take_left ⟨rfl,rfl⟩
  ·rw[if_neg e]at hr;simp -dsimp -implicitDefEqProofs only[aw,V.copy,Nat.reduceLeDiff,eq_self,reduceIte,Nat.reduceBEq,Nat.reduceLT,Nat.reduceEqDiff,Nat.reduceAdd,Int.ofNat_lt,hlt,decide_true,hxx,hd,decide_eq_false e,wj];exact Nxt.same (by simp) (boxesBelow_app hb rfl) (by simp[slotsBelow,V.under]) ⟨rfl,rfl,hr⟩
 ·have h0:(fldS c).drop j=[]:=List.drop_eq_nil_of_le (by unfold fldS;rw[List.length_map];omega);rw[h0]at hr;have h1:fsz [] s=none:=rfl;rw[h1]at hr;rw[hr];simp -dsimp -implicitDefEqProofs only[aw,V.copy,Nat.reduceLeDiff,eq_self,reduceIte,Nat.reduceBEq,Nat.reduceLT,Nat.reduceEqDiff,Nat.reduceAdd,Int.ofNat_lt,hlt,decide_false];first|exact fin_ret hb rfl rfl List.take_length ⟨rfl,rfl⟩|exact fin_ret hb rfl rfl List.take_left ⟨rfl,rfl⟩
theorem rarray_fun(c:Cl)(s:ByteArray)(hl:c.fields.length≤1000000)(σ:List (List V)):Fun G 90 [vcl c,.d (dstr s)] σ (RetV (.d (dint (arrE (fldS c) s))) σ):=by
 refine fun_code Tryz.func90 k90 rfl fun hb hw=>?_;delta c90 oM oV kI kS kT kF;simp -dsimp -implicitDefEqProofs only[aw,slots0,V.copy,V.lend,V.lend1,V.cells,V.boxable,Nat.reduceLeDiff,eq_self,reduceIte,reduceCtorEq,Nat.reduceBEq,Nat.reduceLT,Nat.reduceEqDiff,Nat.reduceAdd];refine fun_ret (field_fun c s hl _) ?_;cases hf:fsz (fldS c) s with
 | none=>
  rw[show arrE (fldS c) s=7 by unfold arrE;rw[hf]];simp -dsimp -implicitDefEqProofs only[aw,V.copy,eq_self,reduceIte,Nat.reduceBEq,Nat.reduceLT,Nat.reduceEqDiff,Option.getD_none,Option.isSome_none];first|exact fin_ret hb rfl rfl List.take_length ⟨rfl,rfl⟩|exact fin_ret hb rfl rfl List.take_left ⟨rfl,rfl⟩
 | some n=>
  have e:arrE (fldS c) s=if n<1 then 9 else 0:=by unfold arrE;rw[hf]
  rw[e];by_cases h0:n<1
  ·rw[if_pos h0];simp -dsimp -implicitDefEqProofs only[aw,V.copy,eq_self,reduceIte,Nat.reduceBEq,Nat.reduceLT,Nat.reduceEqDiff,Option.getD_some,Option.isSome_some,decide_eq_true h0];first|exact fin_ret hb rfl rfl List.take_length ⟨rfl,rfl⟩|exact fin_ret hb rfl rfl List.take_left ⟨rfl,rfl⟩
  ·rw[if_neg h0];simp -dsimp -implicitDefEqProofs only[aw,V.copy,eq_self,reduceIte,Nat.reduceBEq,Nat.reduceLT,Nat.reduceEqDiff,Option.getD_some,Option.isSome_some,decide_eq_false h0];first|exact fin_ret hb rfl rfl List.take_length ⟨rfl,rfl⟩|exact fin_ret hb rfl rfl List.take_left ⟨rfl,rfl⟩
theorem inB_drop(l:List ByteArray)(s:ByteArray){j:Nat}(h:j<l.length):inB s (l.drop j)=(decide (l[j]=s)||inB s (l.drop (j+1))):=by
 rw[List.drop_eq_getElem_cons h];unfold inB;rw[List.any_cons]
theorem bound_fun(l:List ByteArray)(s:ByteArray)(hl:l.length≤1000000)(σ:List (List V)):Fun G 62 [.d (dstrs l),.d (dstr s)] σ (RetV (vbool (inB s l)) σ):=by
 refine fun_code Tryz.func62 k62 rfl fun hb hw=>?_;delta c62 oM oV kI kS kT kF;simp -dsimp -implicitDefEqProofs only[aw,slots0,V.copy,eq_self,reduceIte,reduceCtorEq,Nat.reduceBEq,Nat.reduceLT,Nat.reduceEqDiff,dstrs];refine awp_for (R:=fun(j:Nat) ρ σ'=>ρ=[(0,.d (.sl (l.map fun s=>[dstr s]))),(1,.d (dstr s)),(5,vint .i64 j)]∧σ'=σ∧inB s l=inB s (l.drop j)) l.length ⟨rfl,rfl,rfl⟩ ?_ _;rintro j ρ' σ' hj ⟨rfl,rfl,hr⟩;by_cases hlt:j<l.length
 ·rw[inB_drop l s hlt]at hr;have hxx:l[j]? = some l[j]:=List.getElem?_eq_getElem hlt;generalize l[j]=t at hr hxx;have wj:=wrap_nat hlt (show l.length≤9223372036854775807 by omega);by_cases e:t=s
  ·rw[decide_eq_true e,Bool.true_or]at hr;rw[hr];simp -dsimp -implicitDefEqProofs only[aw,V.copy,Nat.reduceLeDiff,eq_self,reduceIte,reduceCtorEq,Nat.reduceBEq,Nat.reduceLT,Nat.reduceEqDiff,Int.ofNat_lt,hlt,decide_true,hxx,decide_eq_true e];first|exact fin_ret hb rfl rfl List.take_length ⟨rfl,rfl⟩|exact fin_ret hb rfl rfl List.take_left ⟨rfl,rfl⟩
  ·rw[decide_eq_false e,Bool.false_or]at hr;simp -dsimp -implicitDefEqProofs only[aw,V.copy,Nat.reduceLeDiff,eq_self,reduceIte,reduceCtorEq,Nat.reduceBEq,Nat.reduceLT,Nat.reduceEqDiff,Int.ofNat_lt,hlt,decide_true,hxx,decide_eq_false e,wj];exact Nxt.same (Nat.le_refl _) hb (by simp[slotsBelow,V.under]) ⟨rfl,rfl,hr⟩
 ·rw[List.drop_eq_nil_of_le (by omega)]at hr;have h1:inB s []=false:=rfl;rw[h1]at hr;rw[hr];simp -dsimp -implicitDefEqProofs only[aw,V.copy,eq_self,reduceIte,reduceCtorEq,Nat.reduceBEq,Nat.reduceLT,Nat.reduceEqDiff,Int.ofNat_lt,hlt,decide_false];first|exact fin_ret hb rfl rfl List.take_length ⟨rfl,rfl⟩|exact fin_ret hb rfl rfl List.take_left ⟨rfl,rfl⟩
end Go.Proofs.YthoebpnbhgmoiaaGreatDoor
