import Derived.Test.YtcbahpllcfbkmaaGreatDoorCw2
import Derived.Test.YtcbahpllcfbkmaaGreatDoorEt5
set_option linter.unusedVariables false
set_option linter.unusedSimpArgs false
set_option linter.unusedSectionVars false
namespace Go.Proofs.YtcbahpllcfbkmaaGreatDoor
open Go.RowKit
def addT(t:Option Bs)(x:Bs):Option Bs:=match t with|some u=>some (u++x)|none=>if x=[]then none else some x
theorem addT_ne(t:Option Bs){x:Bs}(h:x≠[]):some (t.getD []++x)=addT t x:=by
 cases t with
 | none=>simp[addT,h]
 | some u=>rfl
theorem addT_some(u x:Bs):addT (some u) x=some (u++x):=rfl
theorem addT_nil(t:Option Bs):addT t []=t:=by
 cases t with
 | none=>rfl
 | some u=>simp[addT]
theorem addT_app(t:Option Bs)(x y:Bs):addT (addT t x) y=addT t (x++y):=by
 cases t with
 | none=>
  by_cases h:x=[]
  ·subst h;simp[addT]
  ·simp[addT,h]
 | some u=>simp[addT]
theorem addT_len(t:Option Bs)(x:Bs):((addT t x).getD []).length=(t.getD []).length+x.length:=by
 cases t with
 | none=>
  by_cases h:x=[]
  ·subst h;rfl
  ·simp[addT,h]
 | some u=>simp[addT]
theorem line_at(i:Nat)(t:Option Bs)(k:Nat)(ps:List ByteArray)(hk:k≤1000)(hl:(t.getD []).length+(lnT k (0,ps.flatMap strT)).length≤140737488355328)(hp:ps.length≤1000)(σ:List (List V))(hs:σ[i]? = some (pgc i t k)):
 Fun G 28 [.ptr i 0,.d (dstrs ps)] σ (fun o σ'=>o=.ret (.tup [])∧σ'=σ.set i (pgc i (addT t (lnT k (0,ps.flatMap strT))) k)):=by
 have h:=line_fun i t k ps hk (by rw[lnT_len]at hl;simp only at hl;omega) hp σ hs;rw[addT_ne t (x:=blk k++(ps.flatMap strT++[10])) (by simp)]at h;exact h
theorem inside_fun(i:Nat)(t t':Bs)(k:Nat)(hk:k≤1000)(f:FuncId)(cap:List V)(σ:List (List V))(hs:σ[i]? = some (pgc i (some t) k))
 (h:Fun G f cap (σ.set i (pgc i (some t) ((k+1:Nat):Int))) (fun o σ'=>o=.ret (.tup [])∧σ'=σ.set i (pgc i (some t') ((k+1:Nat):Int)))):
 Fun G 29 [.ptr i 0,.fn f cap] σ (fun o σ'=>o=.ret (.tup [])∧σ'=σ.set i (pgc i (some t') k)):=by
 refine fun_code Tryz.func29 k29 rfl fun hb hw=>?_;have hi:i<σ.length:=(List.getElem?_eq_some_iff.1 hs).1;have h1:∀X:List V,(σ.set i X)[i]? = some X:=fun X=>List.getElem?_set_self hi;have h2:∀X Y:List V,(σ.set i X).set i Y=σ.set i Y:=fun X Y=>List.set_set X;have hs':σ[i]? = some [.ptr i 0,.own U8 1 (dbs t),.d (dint k)]:=hs;have w1:IntKind.i64.wrap ((k:Int)+1)=((k+1:Nat):Int):=by rw[wrap_i64 (by omega) (by omega)];omega
 have w2:IntKind.i64.wrap (((k+1:Nat):Int)-1)=(k:Int):=by rw[wrap_i64 (by omega) (by omega)];omega
 unfold c29;simp -dsimp -implicitDefEqProofs only[aw,slots0,V.copy,V.lend,V.cells,V.boxable,over,Nat.reduceLeDiff,eq_self,reduceIte,reduceCtorEq,Nat.reduceBEq,Nat.reduceLT,Nat.reduceEqDiff,Nat.reduceAdd,hs',w1];refine fun_to (σ1:=σ.set i (pgc i (some t') ((k+1:Nat):Int))) h ?_;have h3:(σ.set i (pgc i (some t') ((k+1:Nat):Int)))[i]? = some [.ptr i 0,.own U8 1 (dbs t'),.d (dint ((k+1:Nat):Int))]:=h1 _;simp -dsimp -implicitDefEqProofs only[aw,V.copy,V.cells,V.boxable,over,Nat.reduceLeDiff,eq_self,reduceIte,reduceCtorEq,Nat.reduceBEq,Nat.reduceLT,Nat.reduceEqDiff,Nat.reduceAdd,h3,w2,h2];exact fin_en (v:=.tup []) (k:=σ.length) (Nat.le_refl _) (List.take_of_length_le (by simp)) (bbset hb (pg_under (t:=some t') (k:=k) hi)) rfl rfl ⟨rfl,rfl⟩
def wrF(kind:Int):FuncId:=if kind=2 then 90 else if kind=3 then 91 else if kind=4 then 92 else if kind=5 then 93 else if kind=6 then 94 else 95
theorem writer_fun(kind:Int)(σ:List (List V)):Fun G 59 [.d (dint kind)] σ (RetV (.fn (wrF kind) []) σ):=by
 refine fun_code Tryz.func59 k59 rfl fun hb hw=>?_;unfold c59 wrF;by_cases h2:kind=2
 ·rw[if_pos h2];simp -dsimp -implicitDefEqProofs only[aw,slots0,V.copy,eq_self,reduceIte,reduceCtorEq,Nat.reduceBEq,Nat.reduceLT,Nat.reduceEqDiff,h2,decide_true];first|exact fin_ret hb rfl rfl List.take_length ⟨rfl,rfl⟩|exact fin_ret hb rfl rfl List.take_left ⟨rfl,rfl⟩|(trace_state;fail "fin")
 rw[if_neg h2];by_cases h3:kind=3
 ·rw[if_pos h3];simp -dsimp -implicitDefEqProofs only[aw,slots0,V.copy,eq_self,reduceIte,reduceCtorEq,Nat.reduceBEq,Nat.reduceLT,Nat.reduceEqDiff,h3,Int.reduceEq,decide_true,decide_false];first|exact fin_ret hb rfl rfl List.take_length ⟨rfl,rfl⟩|exact fin_ret hb rfl rfl List.take_left ⟨rfl,rfl⟩|(trace_state;fail "fin")
 rw[if_neg h3];by_cases h4:kind=4
 ·rw[if_pos h4];simp -dsimp -implicitDefEqProofs only[aw,slots0,V.copy,eq_self,reduceIte,reduceCtorEq,Nat.reduceBEq,Nat.reduceLT,Nat.reduceEqDiff,h4,Int.reduceEq,decide_true,decide_false];first|exact fin_ret hb rfl rfl List.take_length ⟨rfl,rfl⟩|exact fin_ret hb rfl rfl List.take_left ⟨rfl,rfl⟩|(trace_state;fail "fin")
 rw[if_neg h4];by_cases h5:kind=5
 ·rw[if_pos h5];simp -dsimp -implicitDefEqProofs only[aw,slots0,V.copy,eq_self,reduceIte,reduceCtorEq,Nat.reduceBEq,Nat.reduceLT,Nat.reduceEqDiff,h5,Int.reduceEq,decide_true,decide_false];first|exact fin_ret hb rfl rfl List.take_length ⟨rfl,rfl⟩|exact fin_ret hb rfl rfl List.take_left ⟨rfl,rfl⟩|(trace_state;fail "fin")
 rw[if_neg h5];by_cases h6:kind=6
 ·rw[if_pos h6];simp -dsimp -implicitDefEqProofs only[aw,slots0,V.copy,eq_self,reduceIte,reduceCtorEq,Nat.reduceBEq,Nat.reduceLT,Nat.reduceEqDiff,h6,Int.reduceEq,decide_true,decide_false];first|exact fin_ret hb rfl rfl List.take_length ⟨rfl,rfl⟩|exact fin_ret hb rfl rfl List.take_left ⟨rfl,rfl⟩|(trace_state;fail "fin")
 rw[if_neg h6];simp -dsimp -implicitDefEqProofs only[aw,slots0,V.copy,eq_self,reduceIte,reduceCtorEq,Nat.reduceBEq,Nat.reduceLT,Nat.reduceEqDiff,decide_eq_false h2,decide_eq_false h3,decide_eq_false h4,decide_eq_false h5,decide_eq_false h6];first|exact fin_ret hb rfl rfl List.take_length ⟨rfl,rfl⟩|exact fin_ret hb rfl rfl List.take_left ⟨rfl,rfl⟩|(trace_state;fail "fin")
structure PgOk(σ:List (List V))(i:Nat)(t:Option Bs)(k:Nat):Prop where
 at_:σ[i]? = some (pgc i t k)
 k1:k≤200
theorem print_at{e:Ex}(h:validE e=0)(hs:esize e≤1100000)(σ:List (List V)):Fun G 121 [vex e] σ (RetV (.d (dstr (bs (textE e)))) σ):=by
 have hd:=depth_le e;have:=fun_etPrint e (by omega) (by omega) σ;rw[if_pos h]at this;exact this
theorem flat2(a b:Bs):[bs a,bs b].flatMap strT=a++b:=by simp[strT,bs_list]
section
variable (i : Nat) (t : Option Bs) (k : Nat) (x : It) (d : Nat) (σ : List (List V))
theorem hard_fun(hp:PgOk σ i t k)(hsh:shapeE x d=0)(hk:x.kind=1)(hz:esize x.ex≤1100000)(hl:(t.getD []).length+(lnsT k (lns1 x)).length≤140737488355328):
 Fun G 95 [.ptr i 0,vit x] σ (fun o σ'=>o=.ret (.tup [])∧σ'=σ.set i (pgc i (addT t (lnsT k (lns1 x))) k)):=by
 have he:validE x.ex=0:=by have:=ct_body hsh;rw[if_neg (by omega),if_neg (by omega),if_neg (by omega)]at this;exact this
 have hlns:lns1 x=[(0,textE x.ex++[59])]:=by rw[lns1_eq,if_pos hk]
 rw[hlns,lnsT_cons,lnsT_nil,List.append_nil]at hl ⊢;have hi:i<σ.length:=(List.getElem?_eq_some_iff.1 hp.at_).1;have hpr:=fun σ=>print_at he hz σ;simp only[vex_eq]at hpr;refine fun_code Tryz.func95 k95 (by simp only[vit_eq];rfl) fun hb hw=>?_;unfold c95;simp -dsimp -implicitDefEqProofs only[aw,slots0,V.copy,V.lend,V.lend1,V.cells,V.boxable,Nat.reduceLeDiff,eq_self,reduceIte,reduceCtorEq,Nat.reduceBEq,Nat.reduceLT,Nat.reduceEqDiff,Nat.reduceAdd,vit_eq];refine fun_ret (hpr _) ?_;simp -dsimp -implicitDefEqProofs only[aw,V.copy,V.lend,V.cells,rowsOf,plains,V.plain,eq_self,reduceIte,reduceCtorEq,Nat.reduceBEq,Nat.reduceLT,Nat.reduceEqDiff];have hl2:=line_at i t k [bs (textE x.ex),bs [59]] (by have:=hp.k1;omega) (by rw[flat2];exact hl) (by simp);rw[flat2]at hl2;refine fun_to (hl2 _ (by rw[List.getElem?_append_left hi];exact hp.at_)) ?_;rw[List.set_append_left _ _ hi]
 simp -dsimp -implicitDefEqProofs only[aw,reduceIte,reduceCtorEq,Nat.reduceLT,Nat.reduceEqDiff];exact fin_en (v:=.tup []) (k:=σ.length) (Nat.le_refl _) (List.take_left' (by simp)) (bbset hb (pg_under hi)) rfl rfl ⟨rfl,rfl⟩
theorem soft_fun(hp:PgOk σ i t k)(hsh:shapeE x d=0)(hk:x.kind=2)(hz:esize x.ex≤1100000)(hl:(t.getD []).length+(lnsT k (lns1 x)).length≤140737488355328):
 Fun G 90 [.ptr i 0,vit x] σ (fun o σ'=>o=.ret (.tup [])∧σ'=σ.set i (pgc i (addT t (lnsT k (lns1 x))) k)):=by
 have he:validE x.ex=0:=by have:=ct_body hsh;rw[if_neg (by omega),if_neg (by omega),if_neg (by omega)]at this;exact this
 have hlns:lns1 x=[(0,[115,111,102,116,32]++(textE x.ex++[59]))]:=by rw[lns1_eq,if_neg (by omega),if_pos hk]
 rw[hlns,lnsT_cons,lnsT_nil,List.append_nil]at hl ⊢;have hi:i<σ.length:=(List.getElem?_eq_some_iff.1 hp.at_).1;have hpr:=fun σ=>print_at he hz σ;simp only[vex_eq]at hpr;refine fun_code Tryz.func90 k90 (by simp only[vit_eq];rfl) fun hb hw=>?_;unfold c90;simp -dsimp -implicitDefEqProofs only[aw,slots0,V.copy,V.lend,V.lend1,V.cells,V.boxable,Nat.reduceLeDiff,eq_self,reduceIte,reduceCtorEq,Nat.reduceBEq,Nat.reduceLT,Nat.reduceEqDiff,Nat.reduceAdd,vit_eq];refine fun_ret (hpr _) ?_;simp -dsimp -implicitDefEqProofs only[aw,V.copy,V.lend,V.cells,rowsOf,plains,V.plain,eq_self,reduceIte,reduceCtorEq,Nat.reduceBEq,Nat.reduceLT,Nat.reduceEqDiff];have fl:[bs [115,111,102,116,32],bs (textE x.ex),bs [59]].flatMap strT=[115,111,102,116,32]++(textE x.ex++[59]):=by simp[strT,bs_list]
 have hl2:=line_at i t k [bs [115,111,102,116,32],bs (textE x.ex),bs [59]] (by have:=hp.k1;omega) (by rw[fl];exact hl) (by simp);rw[fl]at hl2;refine fun_to (hl2 _ (by rw[List.getElem?_append_left hi];exact hp.at_)) ?_;rw[List.set_append_left _ _ hi];simp -dsimp -implicitDefEqProofs only[aw,reduceIte,reduceCtorEq,Nat.reduceLT,Nat.reduceEqDiff];exact fin_en (v:=.tup []) (k:=σ.length) (Nat.le_refl _) (List.take_left' (by simp)) (bbset hb (pg_under hi)) rfl rfl ⟨rfl,rfl⟩
theorem wdist_fun(hp:PgOk σ i t k)(hsh:shapeE x d=0)(hk:x.kind=3)(hz:ibig x≤1100000)(hl:(t.getD []).length+(lnsT k (lns1 x)).length≤140737488355328):
 Fun G 91 [.ptr i 0,vit x] σ (fun o σ'=>o=.ret (.tup [])∧σ'=σ.set i (pgc i (addT t (lnsT k (lns1 x))) k)):=by
 obtain⟨-,hws,hnm⟩:=ct_dist hsh hk;have hbig:=ibig_eq x;have hlns:lns1 x=[(0,[100,105,115,116,32]++(strT x.name++([32,123,32]++(wtsT x.ws++[32,125,59]))))]:=by rw[lns1_eq,if_neg (by omega),if_neg (by omega),if_pos hk]
 rw[hlns,lnsT_cons,lnsT_nil,List.append_nil]at hl ⊢;have hi:i<σ.length:=(List.getElem?_eq_some_iff.1 hp.at_).1;refine fun_code Tryz.func91 k91 (by simp only[vit_eq];rfl) fun hb hw=>?_;unfold c91;simp -dsimp -implicitDefEqProofs only[aw,slots0,V.copy,V.lend,V.cells,V.boxable,Nat.reduceLeDiff,eq_self,reduceIte,reduceCtorEq,Nat.reduceBEq,Nat.reduceLT,Nat.reduceEqDiff,Nat.reduceAdd,Nat.reduceSub,vit_eq];refine calm_ret (ctvar_fun x.name hnm _) ?_;simp -dsimp -implicitDefEqProofs only[aw,V.copy,V.lend,Nat.reduceLeDiff,eq_self,reduceIte,reduceCtorEq,Nat.reduceLT,Nat.reduceEqDiff,Nat.reduceAdd,Nat.reduceSub];refine calm_ret (ctWeights_fun x.ws (fun w hw=>wtfit_of (List.all_eq_true.1 hws w hw)) (by omega) _) ?_;simp -dsimp -implicitDefEqProofs only[aw,V.copy,V.lend,V.cells,rowsOf,plains,V.plain,eq_self,reduceIte,reduceCtorEq,Nat.reduceBEq,Nat.reduceLT,Nat.reduceEqDiff,Nat.reduceSub]
 have fl:[bs [100,105,115,116,32],x.name,bs [32,123,32],bs (wtsT x.ws),bs [32,125,59]].flatMap strT=[100,105,115,116,32]++(strT x.name++([32,123,32]++(wtsT x.ws++[32,125,59]))):=by simp[strT,bs_list]
 have hl2:=line_at i t k [bs [100,105,115,116,32],x.name,bs [32,123,32],bs (wtsT x.ws),bs [32,125,59]] (by have:=hp.k1;omega) (by rw[fl];exact hl) (by simp);rw[fl]at hl2;refine actG_ret (hl2 _ (by rw[List.getElem?_append_left hi];exact hp.at_)) ?_ ?_
 ·simp -dsimp -implicitDefEqProofs only[aw]
 rw[List.set_append_left _ _ hi];simp -dsimp -implicitDefEqProofs only[aw,reduceIte,reduceCtorEq,Nat.reduceLT,Nat.reduceEqDiff];exact fin_en (v:=.tup []) (k:=σ.length) (Nat.le_refl _) (List.take_left' (by simp)) (bbset hb (pg_under hi)) rfl rfl ⟨rfl,rfl⟩
theorem wsolve_fun(hp:PgOk σ i t k)(hsh:shapeE x d=0)(hk:x.kind=6)(hz:ibig x≤1100000)(hl:(t.getD []).length+(lnsT k (lns1 x)).length≤140737488355328):
 Fun G 94 [.ptr i 0,vit x] σ (fun o σ'=>o=.ret (.tup [])∧σ'=σ.set i (pgc i (addT t (lnsT k (lns1 x))) k)):=by
 obtain⟨-,-,hb1,hb2⟩:=ct_solve hsh hk;have hbig:=ibig_eq x;have hlns:lns1 x=[(0,[115,111,108,118,101,32]++(sepT [44,32] (x.bef.map strT)++([32,98,101,102,111,114,101,32]++(sepT [44,32] (x.aft.map strT)++[59]))))]:=by rw[lns1_eq,if_neg (by omega),if_neg (by omega),if_neg (by omega),if_neg (by omega),if_neg (by omega)]
 rw[hlns,lnsT_cons,lnsT_nil,List.append_nil]at hl ⊢;have hi:i<σ.length:=(List.getElem?_eq_some_iff.1 hp.at_).1;have f1:=fun σ=>ctvars_fun x.bef hb1 (by omega) σ;have f2:=fun σ=>ctvars_fun x.aft hb2 (by omega) σ;simp only[dstrs]at f1 f2;refine fun_code Tryz.func94 k94 (by simp only[vit_eq];rfl) fun hb hw=>?_;unfold c94;simp -dsimp -implicitDefEqProofs only[aw,slots0,V.copy,V.lend,V.cells,V.boxable,Nat.reduceLeDiff,eq_self,reduceIte,reduceCtorEq,Nat.reduceBEq,Nat.reduceLT,Nat.reduceEqDiff,Nat.reduceAdd,Nat.reduceSub,vit_eq];refine calm_ret (f1 _) ?_;simp -dsimp -implicitDefEqProofs only[aw,V.copy,V.lend,Nat.reduceLeDiff,eq_self,reduceIte,reduceCtorEq,Nat.reduceLT,Nat.reduceEqDiff,Nat.reduceAdd,Nat.reduceSub];refine calm_ret (f2 _) ?_
 simp -dsimp -implicitDefEqProofs only[aw,V.copy,V.lend,V.cells,rowsOf,plains,V.plain,eq_self,reduceIte,reduceCtorEq,Nat.reduceBEq,Nat.reduceLT,Nat.reduceEqDiff,Nat.reduceSub];generalize sepT [44,32] (x.bef.map strT)=L1 at *;generalize sepT [44,32] (x.aft.map strT)=L2 at *;have fl:[bs [115,111,108,118,101,32],bs L1,bs [32,98,101,102,111,114,101,32],bs L2,bs [59]].flatMap strT=[115,111,108,118,101,32]++(L1++([32,98,101,102,111,114,101,32]++(L2++[59]))):=by simp[strT,bs_list]
 have hl2:=line_at i t k [bs [115,111,108,118,101,32],bs L1,bs [32,98,101,102,111,114,101,32],bs L2,bs [59]] (by have:=hp.k1;omega) (by rw[fl];exact hl) (by simp);rw[fl]at hl2;refine actG_ret (hl2 _ (by rw[List.getElem?_append_left hi];exact hp.at_)) ?_ ?_
 ·simp -dsimp -implicitDefEqProofs only[aw]
 rw[List.set_append_left _ _ hi];simp -dsimp -implicitDefEqProofs only[aw,reduceIte,reduceCtorEq,Nat.reduceLT,Nat.reduceEqDiff];exact fin_en (v:=.tup []) (k:=σ.length) (Nat.le_refl _) (List.take_left' (by simp)) (bbset hb (pg_under hi)) rfl rfl ⟨rfl,rfl⟩
end
end Go.Proofs.YtcbahpllcfbkmaaGreatDoor
