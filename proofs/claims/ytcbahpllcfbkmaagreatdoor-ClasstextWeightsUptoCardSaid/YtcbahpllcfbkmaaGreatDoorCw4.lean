import Derived.Test.YtcbahpllcfbkmaaGreatDoorCw3
set_option linter.unusedVariables false
set_option linter.unusedSimpArgs false
set_option linter.unusedSectionVars false
namespace Go.Proofs.YtcbahpllcfbkmaaGreatDoor
open Go.RowKit
theorem set_set_same(σ L:List (List V))(i:Nat)(X Y:List V)(hi:i<σ.length):(σ.set i X++L).set i Y=σ.set i Y++L:=by
 rw[List.set_append_left _ _ (by rw[List.length_set];exact hi),List.set_set]
theorem get_set_same(σ L:List (List V))(i:Nat)(X:List V)(hi:i<σ.length):(σ.set i X++L)[i]? = some X:=by
 rw[List.getElem?_append_left (by rw[List.length_set];exact hi),List.getElem?_set_self hi]
theorem get_set_new(σ L:List (List V))(i j:Nat)(X:List V):(σ.set i X++L)[σ.length+j]? = L[j]? := by
 rw[List.getElem?_append_right (by rw[List.length_set];omega),List.length_set];congr 1;omega
theorem get_set_new0(σ L:List (List V))(i:Nat)(X:List V):(σ.set i X++L)[σ.length]? = L[0]? := get_set_new σ L i 0 X
theorem set_set_new0(σ L:List (List V))(i:Nat)(X Y:List V):(σ.set i X++L).set σ.length Y=σ.set i X++L.set 0 Y:=by
 rw[List.set_append_right _ _ (by rw[List.length_set];exact Nat.le_refl _),List.length_set,Nat.sub_self]
def ItsOK(l:List It):Prop:=∀(d:Nat),rvl l d=0→∀(i:Nat) (t:Option Bs) (k:Nat) (σ:List (List V)),σ[i]? = some (pgc i t k)→k≤100+d→(t.getD []).length+(lnsT k (lns l)).length≤140737488355328→
 Fun G 39 [.ptr i 0,.d (ditl l)] σ (fun o σ'=>o=.ret (.tup [])∧σ'=σ.set i (pgc i (addT t (lnsT k (lns l))) k))
abbrev itC(x:It):List V:=[.d (dint x.kind),.d (dint x.ex.op),.d (dint x.ex.num),.d (dstr x.ex.name),.d (.sl (x.ex.args.map dex)),.d (dstr x.name),.d (dstr x.idx),.d (.sl (x.ws.map dwt)),.d (.sl (x.items.map dit)),.d (.sl (x.els.map dit)),.d (.sl (x.bef.map fun s=>[dstr s])),.d (.sl (x.aft.map fun s=>[dstr s]))]
section
variable (b c i : Nat) (t : Option Bs) (k : Nat) (x : It) (d : Nat) (σ : List (List V))
theorem ch1_fun(IH:ItsOK x.items)(hv:rvl x.items d=0)(hb:σ[b]? = some [.ptr i 0])(hc:σ[c]? = some (itC x))(hp:σ[i]? = some (pgc i t k))(hk:k≤100+d)(hl:(t.getD []).length+(lnsT k (lns x.items)).length≤140737488355328):
 Fun G 123 [.ptr b 0,.ptr c 0] σ (fun o σ'=>o=.ret (.tup [])∧σ'=σ.set i (pgc i (addT t (lnsT k (lns x.items))) k)):=by
 have hi:i<σ.length:=(List.getElem?_eq_some_iff.1 hp).1;have h:=IH d hv i t k σ hp hk hl;refine fun_code Tryz.func123 k123 rfl fun hb' hw=>?_;unfold c123;simp -dsimp -implicitDefEqProofs only[aw,slots0,V.copy,V.lend,V.lend1,V.cells,V.boxable,over,bldV,boundV,rowsOf,plains,V.plain,Nat.reduceLeDiff,cond_true,cond_false,implies_true,eq_self,ne_eq,reduceIte,reduceCtorEq,Nat.reduceBEq,Nat.reduceLT,Nat.reduceEqDiff,Nat.reduceAdd,Nat.reduceSub,Nat.reduceMul,hb,hc];refine fun_to h ?_;simp -dsimp -implicitDefEqProofs only[aw,slots0,V.copy,V.lend,V.lend1,V.cells,V.boxable,over,bldV,boundV,rowsOf,plains,V.plain,Nat.reduceLeDiff,cond_true,cond_false,implies_true,eq_self,ne_eq,reduceIte,reduceCtorEq,Nat.reduceBEq,Nat.reduceLT,Nat.reduceEqDiff,Nat.reduceAdd,Nat.reduceSub,Nat.reduceMul]
 exact fin_en (v:=.tup []) (k:=σ.length) (Nat.le_refl _) (List.take_of_length_le (by simp)) (bbset hb' (pg_under hi)) rfl rfl ⟨rfl,rfl⟩
theorem ch2_fun(IH:ItsOK x.els)(hv:rvl x.els d=0)(hb:σ[b]? = some [.ptr i 0])(hc:σ[c]? = some (itC x))(hp:σ[i]? = some (pgc i t k))(hk:k≤100+d)(hl:(t.getD []).length+(lnsT k (lns x.els)).length≤140737488355328):
 Fun G 124 [.ptr b 0,.ptr c 0] σ (fun o σ'=>o=.ret (.tup [])∧σ'=σ.set i (pgc i (addT t (lnsT k (lns x.els))) k)):=by
 have hi:i<σ.length:=(List.getElem?_eq_some_iff.1 hp).1;have h:=IH d hv i t k σ hp hk hl;refine fun_code Tryz.func124 k124 rfl fun hb' hw=>?_;unfold c124;simp -dsimp -implicitDefEqProofs only[aw,slots0,V.copy,V.lend,V.lend1,V.cells,V.boxable,over,bldV,boundV,rowsOf,plains,V.plain,Nat.reduceLeDiff,cond_true,cond_false,implies_true,eq_self,ne_eq,reduceIte,reduceCtorEq,Nat.reduceBEq,Nat.reduceLT,Nat.reduceEqDiff,Nat.reduceAdd,Nat.reduceSub,Nat.reduceMul,hb,hc];refine fun_to h ?_;simp -dsimp -implicitDefEqProofs only[aw,slots0,V.copy,V.lend,V.lend1,V.cells,V.boxable,over,bldV,boundV,rowsOf,plains,V.plain,Nat.reduceLeDiff,cond_true,cond_false,implies_true,eq_self,ne_eq,reduceIte,reduceCtorEq,Nat.reduceBEq,Nat.reduceLT,Nat.reduceEqDiff,Nat.reduceAdd,Nat.reduceSub,Nat.reduceMul]
 exact fin_en (v:=.tup []) (k:=σ.length) (Nat.le_refl _) (List.take_of_length_le (by simp)) (bbset hb' (pg_under hi)) rfl rfl ⟨rfl,rfl⟩
theorem ea1_fun(IH:ItsOK x.items)(hv:rvl x.items d=0)(hb:σ[b]? = some [.ptr i 0])(hc:σ[c]? = some (itC x))(hp:σ[i]? = some (pgc i t k))(hk:k≤100+d)(hl:(t.getD []).length+(lnsT k (lns x.items)).length≤140737488355328):
 Fun G 125 [.ptr b 0,.ptr c 0] σ (fun o σ'=>o=.ret (.tup [])∧σ'=σ.set i (pgc i (addT t (lnsT k (lns x.items))) k)):=by
 have hi:i<σ.length:=(List.getElem?_eq_some_iff.1 hp).1;have h:=IH d hv i t k σ hp hk hl;refine fun_code Tryz.func125 k125 rfl fun hb' hw=>?_;unfold c125;simp -dsimp -implicitDefEqProofs only[aw,slots0,V.copy,V.lend,V.lend1,V.cells,V.boxable,over,bldV,boundV,rowsOf,plains,V.plain,Nat.reduceLeDiff,cond_true,cond_false,implies_true,eq_self,ne_eq,reduceIte,reduceCtorEq,Nat.reduceBEq,Nat.reduceLT,Nat.reduceEqDiff,Nat.reduceAdd,Nat.reduceSub,Nat.reduceMul,hb,hc];refine fun_to h ?_;simp -dsimp -implicitDefEqProofs only[aw,slots0,V.copy,V.lend,V.lend1,V.cells,V.boxable,over,bldV,boundV,rowsOf,plains,V.plain,Nat.reduceLeDiff,cond_true,cond_false,implies_true,eq_self,ne_eq,reduceIte,reduceCtorEq,Nat.reduceBEq,Nat.reduceLT,Nat.reduceEqDiff,Nat.reduceAdd,Nat.reduceSub,Nat.reduceMul]
 exact fin_en (v:=.tup []) (k:=σ.length) (Nat.le_refl _) (List.take_of_length_le (by simp)) (bbset hb' (pg_under hi)) rfl rfl ⟨rfl,rfl⟩
end
theorem f125:[bs [125]].flatMap strT=[125]:=by simp[strT,bs_list]
theorem lnT_pos(k:Nat)(x:Ln):lnT k x≠[]:=by unfold lnT;simp
theorem addT_line(t:Option Bs)(k:Nat)(x:Ln):∃u,addT t (lnT k x)=some u∧u.length=(t.getD []).length+(lnT k x).length:=
 ⟨t.getD []++lnT k x,(addT_ne t (lnT_pos k x)).symm,List.length_append⟩
section
variable (i : Nat) (t : Option Bs) (k : Nat) (x : It) (d : Nat) (σ : List (List V))
set_option maxHeartbeats 4000000 in
theorem weach_fun(IH:ItsOK x.items)(hp:PgOk σ i t k)(hd:k≤100+d)(hsh:shapeE x d=0)(hv:rvl x.items (d+1)=0)(hk:x.kind=5)(hl:(t.getD []).length+(lnsT k (lns1 x)).length≤140737488355328):
 Fun G 93 [.ptr i 0,vit x] σ (fun o σ'=>o=.ret (.tup [])∧σ'=σ.set i (pgc i (addT t (lnsT k (lns1 x))) k)):=by
 have hlns:lns1 x=(0,[101,97,99,104,32]++(strT x.idx++([32,105,110,32]++(strT x.name++[32,123]))))::(upL (lns x.items)++[(0,[125])]):=by rw[lns1_eq,if_neg (by omega),if_neg (by omega),if_neg (by omega),if_neg (by omega),if_pos hk]
 rw[hlns,lnsT_cons,lnsT_app,lnsT_up,lnsT_cons,lnsT_nil,List.append_nil]at hl ⊢;simp only[List.length_append]at hl;have hi:i<σ.length:=(List.getElem?_eq_some_iff.1 hp.at_).1;have k1:=hp.k1;have fl:[bs [101,97,99,104,32],x.idx,bs [32,105,110,32],x.name,bs [32,123]].flatMap strT=[101,97,99,104,32]++(strT x.idx++([32,105,110,32]++(strT x.name++[32,123]))):=by simp[strT,bs_list]
 generalize hH:(0,[101,97,99,104,32]++(strT x.idx++([32,105,110,32]++(strT x.name++[32,123]))))=H at hl ⊢;obtain⟨u,hu,hul⟩:=addT_line t k H;have hL1:=line_at i t k [bs [101,97,99,104,32],x.idx,bs [32,105,110,32],x.name,bs [32,123]] (by omega) (by rw[fl,hH];omega) (by simp);rw[fl,hH,hu]at hL1;have hL3:=line_at i (some (u++lnsT (k+1) (lns x.items))) k [bs [125]] (by omega) (by rw[f125,Option.getD_some,List.length_append];omega) (by simp);refine fun_code Tryz.func93 k93 (by simp only[vit_eq];rfl) fun hb hw=>?_;unfold c93;simp -dsimp -implicitDefEqProofs only[aw,slots0,V.copy,V.lend,V.lend1,V.cells,V.boxable,over,bldV,boundV,rowsOf,plains,V.plain,Nat.reduceLeDiff,cond_true,cond_false,implies_true,eq_self,ne_eq,reduceIte,reduceCtorEq,Nat.reduceBEq,Nat.reduceLT,Nat.reduceEqDiff,Nat.reduceAdd,Nat.reduceSub,Nat.reduceMul,vit_eq]
 refine fun_to (hL1 _ (by rw[List.getElem?_append_left hi];exact hp.at_)) ?_;rw[List.set_append_left _ _ hi];simp -dsimp -implicitDefEqProofs only[aw,slots0,V.copy,V.lend,V.lend1,V.cells,V.boxable,over,bldV,boundV,rowsOf,plains,V.plain,Nat.reduceLeDiff,cond_true,cond_false,implies_true,eq_self,ne_eq,reduceIte,reduceCtorEq,Nat.reduceBEq,Nat.reduceLT,Nat.reduceEqDiff,Nat.reduceAdd,Nat.reduceSub,Nat.reduceMul,get_set_new,get_set_new0];refine fun_to (inside_fun i u (u++lnsT (k+1) (lns x.items)) k (by omega) _ _ _ (get_set_same σ _ i _ hi) ?_) ?_
 ·rw[set_set_same _ _ _ _ _ hi,set_set_same _ _ _ _ _ hi];have:=ea1_fun σ.length (σ.length+1) i (some u) (k+1) x (d+1) (σ.set i (pgc i (some u) ((k+1:Nat):Int))++[[.ptr i 0],itC x]) IH hv (get_set_new0 ..) (get_set_new ..) (get_set_same σ _ i _ hi) (by omega) (by rw[Option.getD_some];omega);rw[set_set_same _ _ _ _ _ hi]at this;exact this
 rw[set_set_same _ _ _ _ _ hi];simp -dsimp -implicitDefEqProofs only[aw,slots0,V.copy,V.lend,V.lend1,V.cells,V.boxable,over,bldV,boundV,rowsOf,plains,V.plain,Nat.reduceLeDiff,cond_true,cond_false,implies_true,eq_self,ne_eq,reduceIte,reduceCtorEq,Nat.reduceBEq,Nat.reduceLT,Nat.reduceEqDiff,Nat.reduceAdd,Nat.reduceSub,Nat.reduceMul,get_set_new,get_set_new0];refine fun_to (hL3 _ (get_set_same σ _ i _ hi)) ?_;rw[set_set_same _ _ _ _ _ hi];simp -dsimp -implicitDefEqProofs only[aw,slots0,V.copy,V.lend,V.lend1,V.cells,V.boxable,over,bldV,boundV,rowsOf,plains,V.plain,Nat.reduceLeDiff,cond_true,cond_false,implies_true,eq_self,ne_eq,reduceIte,reduceCtorEq,Nat.reduceBEq,Nat.reduceLT,Nat.reduceEqDiff,Nat.reduceAdd,Nat.reduceSub,Nat.reduceMul];refine fin_en (v:=.tup []) (k:=σ.length) (Nat.le_refl _) (List.take_left' (by simp)) (bbset hb (pg_under hi)) rfl rfl ⟨rfl,?_⟩
 rw[←addT_app,←addT_app,hu,f125];rfl
end
end Go.Proofs.YtcbahpllcfbkmaaGreatDoor
