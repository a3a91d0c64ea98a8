import Derived.Test.YtcbahpllcfbkmaaGreatDoorCw3
set_option linter.unusedVariables false
set_option linter.unusedSimpArgs false
set_option linter.unusedSectionVars false
namespace Go.Proofs.YtcbahpllcfbkmaaGreatDoor
open Go.RowKit
theorem set_set_same(σ L:List (List V))(i:Nat)(X Y:List V)(hi:i<σ.length):(σ.set i X++L).set i Y=σ.set i Y++L:=by
 rw[List.set_append_left _ _ (by rw[List.length_set];exact hi),List.set_set]
theorem get_set_same(σ L:List (List V))(i:Nat)(X:List V)(hi:i<σ.length):(σ.set i X++L)[i]? = some X:=by
 rw[List.getElem?_append_left (by rw[List.length_set];exact hi),List.getElem?_set_self hi]
theorem get_set_new(σ L:List (List V))(i j:Nat)(X:List V):(σ.set i X++L)[σ.length+j]? = L[j]? := by
 rw[List.getElem?_append_right (by rw[List.length_set];omega),List.length_set];congr 1;omega
theorem get_set_new0(σ L:List (List V))(i:Nat)(X:List V):(σ.set i X++L)[σ.length]? = L[0]? := get_set_new σ L i 0 X
theorem set_set_new0(σ L:List (List V))(i:Nat)(X Y:List V):(σ.set i X++L).set σ.length Y=σ.set i X++L.set 0 Y:=by
 rw[List.set_append_right _ _ (by rw[List.length_set];exact Nat.le_refl _),List.length_set,Nat.sub_self]
def ItsOK(l:List It):Prop:=∀(d:Nat),rvl l d=0→∀(i:Nat) (t:Option Bs) (k:Nat) (σ:List (List V)),σ[i]? = some (pgc i t k)→k≤100+d→(t.getD []).length+(lnsT k (lns l)).length≤140737488355328→
 Fun G 39 [.ptr i 0,.d (ditl l)] σ (fun o σ'=>o=.ret (.tup [])∧σ'=σ.set i (pgc i (addT t (lnsT k (lns l))) k))
abbrev itC(x:It):List V:=[.d (dint x.kind),.d (dint x.ex.op),.d (dint x.ex.num),.d (dstr x.ex.name),.d (.sl (x.ex.args.map dex)),.d (dstr x.name),.d (dstr x.idx),.d (.sl (x.ws.map dwt)),.d (.sl (x.items.map dit)),.d (.sl (x.els.map dit)),.d (.sl (x.bef.map fun s=>[dstr s])),.d (.sl (x.aft.map fun s=>[dstr s]))]
section
variable (b c i : Nat) (t : Option Bs) (k : Nat) (x : It) (d : Nat) (σ : List (List V))
theorem ch1_fun(IH:ItsOK x.items)(hv:rvl x.items d=0)(hb:σ[b]? = some [.ptr i 0])(hc:σ[c]? = some (itC x))(hp:σ[i]? = some (pgc i t k))(hk:k≤100+d)(hl:(t.getD []).length+(lnsT k (lns x.items)).length≤140737488355328):
 Fun G 123 [.ptr b 0,.ptr c 0] σ (fun o σ'=>o=.ret (.tup [])∧σ'=σ.set i (pgc i (addT t (lnsT k (lns x.items))) k)):=by
 have hi:i<σ.length:=(List.getElem?_eq_some_iff.1 hp).1;have h:=IH d hv i t k σ hp hk hl;refine fun_code Tryz.func123 k123 rfl fun hb' hw=>?_;unfold c123;simp -dsimp -implicitDefEqProofs only[aw,slots0,V.copy,V.lend,Nat.reduceLeDiff,eq_self,reduceIte,reduceCtorEq,Nat.reduceLT,Nat.reduceEqDiff,Nat.reduceAdd,hb,hc];refine fun_to h ?_;simp -dsimp -implicitDefEqProofs only[aw,reduceIte,reduceCtorEq,Nat.reduceLT,Nat.reduceEqDiff];exact fin_en (v:=.tup []) (k:=σ.length) (Nat.le_refl _) (List.take_of_length_le (by simp)) (bbset hb' (pg_under hi)) rfl rfl ⟨rfl,rfl⟩
theorem ch2_fun(IH:ItsOK x.els)(hv:rvl x.els d=0)(hb:σ[b]? = some [.ptr i 0])(hc:σ[c]? = some (itC x))(hp:σ[i]? = some (pgc i t k))(hk:k≤100+d)(hl:(t.getD []).length+(lnsT k (lns x.els)).length≤140737488355328):
 Fun G 124 [.ptr b 0,.ptr c 0] σ (fun o σ'=>o=.ret (.tup [])∧σ'=σ.set i (pgc i (addT t (lnsT k (lns x.els))) k)):=by
 have hi:i<σ.length:=(List.getElem?_eq_some_iff.1 hp).1;have h:=IH d hv i t k σ hp hk hl;refine fun_code Tryz.func124 k124 rfl fun hb' hw=>?_;unfold c124;simp -dsimp -implicitDefEqProofs only[aw,slots0,V.copy,V.lend,Nat.reduceLeDiff,eq_self,reduceIte,reduceCtorEq,Nat.reduceLT,Nat.reduceEqDiff,Nat.reduceAdd,hb,hc];refine fun_to h ?_;simp -dsimp -implicitDefEqProofs only[aw,reduceIte,reduceCtorEq,Nat.reduceLT,Nat.reduceEqDiff];exact fin_en (v:=.tup []) (k:=σ.length) (Nat.le_refl _) (List.take_of_length_le (by simp)) (bbset hb' (pg_under hi)) rfl rfl ⟨rfl,rfl⟩
theorem ea1_fun(IH:ItsOK x.items)(hv:rvl x.items d=0)(hb:σ[b]? = some [.ptr i 0])(hc:σ[c]? = some (itC x))(hp:σ[i]? = some (pgc i t k))(hk:k≤100+d)(hl:(t.getD []).length+(lnsT k (lns x.items)).length≤140737488355328):
 Fun G 125 [.ptr b 0,.ptr c 0] σ (fun o σ'=>o=.ret (.tup [])∧σ'=σ.set i (pgc i (addT t (lnsT k (lns x.items))) k)):=by
 have hi:i<σ.length:=(List.getElem?_eq_some_iff.1 hp).1;have h:=IH d hv i t k σ hp hk hl;refine fun_code Tryz.func125 k125 rfl fun hb' hw=>?_;unfold c125;simp -dsimp -implicitDefEqProofs only[aw,slots0,V.copy,V.lend,Nat.reduceLeDiff,eq_self,reduceIte,reduceCtorEq,Nat.reduceLT,Nat.reduceEqDiff,Nat.reduceAdd,hb,hc];refine fun_to h ?_;simp -dsimp -implicitDefEqProofs only[aw,reduceIte,reduceCtorEq,Nat.reduceLT,Nat.reduceEqDiff];exact fin_en (v:=.tup []) (k:=σ.length) (Nat.le_refl _) (List.take_of_length_le (by simp)) (bbset hb' (pg_under hi)) rfl rfl ⟨rfl,rfl⟩
end
theorem f125:[bs [125]].flatMap strT=[125]:=by simp[strT,bs_list]
theorem lnT_pos(k:Nat)(x:Ln):lnT k x≠[]:=by unfold lnT;simp
theorem addT_line(t:Option Bs)(k:Nat)(x:Ln):∃u,addT t (lnT k x)=some u∧u.length=(t.getD []).length+(lnT k x).length:=
 ⟨t.getD []++lnT k x,(addT_ne t (lnT_pos k x)).symm,List.length_append⟩
section
variable (i : Nat) (t : Option Bs) (k : Nat) (x : It) (d : Nat) (σ : List (List V))
set_option maxHeartbeats 4000000 in
theorem weach_fun(IH:ItsOK x.items)(hp:PgOk σ i t k)(hd:k≤100+d)(hsh:shapeE x d=0)(hv:rvl x.items (d+1)=0)(hk:x.kind=5)(hl:(t.getD []).length+(lnsT k (lns1 x)).length≤140737488355328):
 Fun G 93 [.ptr i 0,vit x] σ (fun o σ'=>o=.ret (.tup [])∧σ'=σ.set i (pgc i (addT t (lnsT k (lns1 x))) k)):=by
 have hlns:lns1 x=(0,[101,97,99,104,32]++(strT x.idx++([32,105,110,32]++(strT x.name++[32,123]))))::(upL (lns x.items)++[(0,[125])]):=by rw[lns1_eq,if_neg (by omega),if_neg (by omega),if_neg (by omega),if_neg (by omega),if_pos hk]
 rw[hlns,lnsT_cons,lnsT_app,lnsT_up,lnsT_cons,lnsT_nil,List.append_nil]at hl ⊢;simp only[List.length_append]at hl;have hi:i<σ.length:=(List.getElem?_eq_some_iff.1 hp.at_).1;have k1:=hp.k1;have fl:[bs [101,97,99,104,32],x.idx,bs [32,105,110,32],x.name,bs [32,123]].flatMap strT=[101,97,99,104,32]++(strT x.idx++([32,105,110,32]++(strT x.name++[32,123]))):=by simp[strT,bs_list]
 generalize hH:(0,[101,97,99,104,32]++(strT x.idx++([32,105,110,32]++(strT x.name++[32,123]))))=H at hl ⊢;obtain⟨u,hu,hul⟩:=addT_line t k H;have hL1:=line_at i t k [bs [101,97,99,104,32],x.idx,bs [32,105,110,32],x.name,bs [32,123]] (by omega) (by rw[fl,hH];omega) (by simp);rw[fl,hH,hu]at hL1;have hL3:=line_at i (some (u++lnsT (k+1) (lns x.items))) k [bs [125]] (by omega) (by rw[f125,Option.getD_some,List.length_append];omega) (by simp);refine fun_code Tryz.func93 k93 (by simp only[vit_eq];rfl) fun hb hw=>?_;unfold c93;simp -dsimp -implicitDefEqProofs only[aw,slots0,V.copy,V.lend,V.cells,V.boxable,rowsOf,plains,V.plain,Nat.reduceLeDiff,eq_self,reduceIte,reduceCtorEq,Nat.reduceBEq,Nat.reduceLT,Nat.reduceEqDiff,Nat.reduceAdd,vit_eq];refine fun_to (hL1 _ (by rw[List.getElem?_append_left hi];exact hp.at_)) ?_;rw[List.set_append_left _ _ hi]
 simp -dsimp -implicitDefEqProofs only[aw,V.copy,V.lend,Nat.reduceLeDiff,eq_self,reduceIte,Nat.reduceBEq,Nat.reduceLT,Nat.reduceEqDiff,get_set_new0];refine fun_to (inside_fun i u (u++lnsT (k+1) (lns x.items)) k (by omega) _ _ _ (get_set_same σ _ i _ hi) ?_) ?_
 ·rw[set_set_same _ _ _ _ _ hi,set_set_same _ _ _ _ _ hi];have:=ea1_fun σ.length (σ.length+1) i (some u) (k+1) x (d+1) (σ.set i (pgc i (some u) ((k+1:Nat):Int))++[[.ptr i 0],itC x]) IH hv (get_set_new0 ..) (get_set_new ..) (get_set_same σ _ i _ hi) (by omega) (by rw[Option.getD_some];omega);rw[set_set_same _ _ _ _ _ hi]at this;exact this
 rw[set_set_same _ _ _ _ _ hi];simp -dsimp -implicitDefEqProofs only[aw,V.copy,V.lend,V.cells,rowsOf,plains,V.plain,Nat.reduceLeDiff,eq_self,reduceIte,Nat.reduceBEq,Nat.reduceLT,Nat.reduceEqDiff,get_set_new0];refine fun_to (hL3 _ (get_set_same σ _ i _ hi)) ?_;rw[set_set_same _ _ _ _ _ hi];simp -dsimp -implicitDefEqProofs only[aw,reduceIte,Nat.reduceLT,Nat.reduceEqDiff];refine fin_en (v:=.tup []) (k:=σ.length) (Nat.le_refl _) (List.take_left' (by simp)) (bbset hb (pg_under hi)) rfl rfl ⟨rfl,?_⟩;rw[←addT_app,←addT_app,hu,f125];rfl
end
end Go.Proofs.YtcbahpllcfbkmaaGreatDoor
namespace Go.Proofs.YtcbahpllcfbkmaaGreatDoor
open Go.RowKit
theorem set_id{σ:List (List V)}{i:Nat}{X:List V}(h:σ[i]? = some X):σ.set i X=σ:=by
 apply List.ext_getElem?;intro j;by_cases e:j=i
 ·subst e;rw[List.getElem?_set_self (List.getElem?_eq_some_iff.1 h).1,h]
 ·rw[List.getElem?_set_ne (Ne.symm e)]
section
variable (i : Nat) (t : Option Bs) (k : Nat) (x : It) (d : Nat) (σ : List (List V))
set_option maxHeartbeats 8000000 in
theorem wchoice_fun(IH:ItsOK x.items)(IH2:ItsOK x.els)(hp:PgOk σ i t k)(hd:k≤100+d)(hsh:shapeE x d=0)(hv:rvl x.items (d+1)=0)(hv2:rvl x.els (d+1)=0)(hk:x.kind=4)(hz:ibig x≤1100000)(hl:(t.getD []).length+(lnsT k (lns1 x)).length≤140737488355328):
 Fun G 92 [.ptr i 0,vit x] σ (fun o σ'=>o=.ret (.tup [])∧σ'=σ.set i (pgc i (addT t (lnsT k (lns1 x))) k)):=by
 have hbig:=ibig_eq x;have he:validE x.ex=0:=by have:=ct_body hsh;rw[if_neg (by omega),if_neg (by omega),if_neg (by omega)]at this;exact this
 have hlns:lns1 x=(0,[105,102,32,40]++(textE x.ex++[41,32,123]))::(upL (lns x.items)++((if x.els.isEmpty=true then[]else(0,[125,32,101,108,115,101,32,123])::upL (lns x.els))++[(0,[125])])):=by
  rw[lns1_eq,if_neg (by omega),if_neg (by omega),if_neg (by omega),if_pos hk]
 rw[hlns,lnsT_cons,lnsT_app,lnsT_up,lnsT_app,lnsT_cons,lnsT_nil,List.append_nil]at hl ⊢;have hi:i<σ.length:=(List.getElem?_eq_some_iff.1 hp.at_).1;have k1:=hp.k1;have hel:=ibigs_len x.els;have hpr:=fun σ=>print_at he (by omega) σ;simp only[vex_eq]at hpr;have fl:[bs [105,102,32,40],bs (textE x.ex),bs [41,32,123]].flatMap strT=[105,102,32,40]++(textE x.ex++[41,32,123]):=by simp[strT,bs_list]
 have fe:[bs [125,32,101,108,115,101,32,123]].flatMap strT=[125,32,101,108,115,101,32,123]:=by simp[strT,bs_list]
 generalize hH:(0,[105,102,32,40]++(textE x.ex++[41,32,123]))=H at hl ⊢;obtain⟨u,hu,hul⟩:=addT_line t k H;have hL1:=line_at i t k [bs [105,102,32,40],bs (textE x.ex),bs [41,32,123]] (by omega) (by rw[fl,hH];simp only[List.length_append]at hl;omega) (by simp);rw[fl,hH,hu]at hL1;refine fun_code Tryz.func92 k92 (by simp only[vit_eq];rfl) fun hb hw=>?_
 have endL:∀(v:Bs) (R:Bs),v.length+(lnT k (0,[125])).length≤140737488355328→addT t R=some v→∀X:List (List V),Fun G 28 [.ptr i 0,.d (dstrs [bs [125]])] (σ.set i (pgc i (some v) k)++X) (fun o σ'=>o=.ret (.tup [])∧σ'=σ.set i (pgc i (addT t (R++lnT k (0,[125]))) k)++X):=by
  intro v R hv hR X;have h3:=line_at i (some v) k [bs [125]] (by omega) (by rw[f125,Option.getD_some];exact hv) (by simp) _ (get_set_same σ X i _ hi);rw[set_set_same _ _ _ _ _ hi,f125]at h3;exact h3.mono fun o σ' ⟨e1,e2⟩=>⟨e1,by rw[e2,←hR,addT_app]⟩
 unfold c92;simp -dsimp -implicitDefEqProofs only[aw,slots0,V.copy,V.lend,V.lend1,V.cells,V.boxable,Nat.reduceLeDiff,eq_self,reduceIte,reduceCtorEq,Nat.reduceBEq,Nat.reduceLT,Nat.reduceEqDiff,Nat.reduceAdd,Nat.reduceSub,vit_eq];refine calm_ret (hpr _) ?_;simp -dsimp -implicitDefEqProofs only[aw,V.copy,V.lend,V.cells,rowsOf,plains,V.plain,eq_self,reduceIte,Nat.reduceBEq,Nat.reduceLT,Nat.reduceEqDiff,Nat.reduceSub];refine actG_ret (hL1 _ (by rw[List.getElem?_append_left hi];exact hp.at_)) ?_ ?_
 ·simp -dsimp -implicitDefEqProofs only[aw]
 rw[List.set_append_left _ _ hi];simp -dsimp -implicitDefEqProofs only[aw,V.copy,V.lend,Nat.reduceLeDiff,eq_self,reduceIte,Nat.reduceBEq,Nat.reduceLT,Nat.reduceEqDiff,get_set_new0];simp only[List.length_append]at hl;refine fun_to (inside_fun i u (u++lnsT (k+1) (lns x.items)) k (by omega) _ _ _ (get_set_same σ _ i _ hi) ?_) ?_
 ·rw[set_set_same _ _ _ _ _ hi,set_set_same _ _ _ _ _ hi];have:=ch1_fun σ.length (σ.length+1) i (some u) (k+1) x (d+1) (σ.set i (pgc i (some u) ((k+1:Nat):Int))++[[.ptr i 0],itC x]) IH hv (get_set_new0 ..) (get_set_new ..) (get_set_same σ _ i _ hi) (by omega) (by rw[Option.getD_some];omega);rw[set_set_same _ _ _ _ _ hi]at this;exact this
 rw[set_set_same _ _ _ _ _ hi];have hu2:addT t (lnT k H++lnsT (k+1) (lns x.items))=some (u++lnsT (k+1) (lns x.items)):=by rw[←addT_app,hu];rfl
 by_cases hne:x.els=[]
 ·have hel0:x.els.isEmpty=true:=by rw[hne];rfl
  have h0:decide ((0:Int)<(x.els.length:Nat))=false:=by rw[hne];rfl
  rw[if_pos hel0,lnsT_nil]at hl ⊢;simp -dsimp -implicitDefEqProofs only[aw,V.copy,V.lend,V.cells,rowsOf,plains,V.plain,Nat.reduceLeDiff,eq_self,reduceIte,Nat.reduceBEq,Nat.reduceLT,Nat.reduceEqDiff,Nat.reduceAdd,get_set_new,get_set_new0,h0];refine fun_to (endL _ _ (by rw[List.length_append];omega) hu2 _) ?_;simp -dsimp -implicitDefEqProofs only[aw,reduceIte,Nat.reduceLT,Nat.reduceEqDiff];refine fin_en (v:=.tup []) (k:=σ.length) (Nat.le_refl _) (List.take_left' (by simp)) (bbset hb (pg_under hi)) rfl rfl ⟨rfl,?_⟩;simp only[]
 ·have hel0:¬x.els.isEmpty=true:=by rw[List.isEmpty_iff];exact hne
  have hpos:0<x.els.length:=List.length_pos_iff.2 hne;have h0:decide ((0:Int)<(x.els.length:Nat))=true:=decide_eq_true (by omega);rw[if_neg hel0,lnsT_cons,lnsT_up]at hl ⊢;simp only[List.length_append]at hl;have hL2:=line_at i (some (u++lnsT (k+1) (lns x.items))) k [bs [125,32,101,108,115,101,32,123]] (by omega) (by rw[fe,Option.getD_some,List.length_append];omega) (by simp);rw[fe,addT_some,List.append_assoc]at hL2;have hc2:=fun S h1 h2 h3=>ch2_fun σ.length (σ.length+1) i (some (u++(lnsT (k+1) (lns x.items)++lnT k (0,[125,32,101,108,115,101,32,123])))) (k+1) x (d+1) S IH2 hv2 h1 h2 h3 (by omega) (by rw[Option.getD_some];simp only[List.length_append];omega)
  have hu4:addT t (lnT k H++(lnsT (k+1) (lns x.items)++(lnT k (0,[125,32,101,108,115,101,32,123])++lnsT (k+1) (lns x.els))))=some (u++(lnsT (k+1) (lns x.items)++(lnT k (0,[125,32,101,108,115,101,32,123])++lnsT (k+1) (lns x.els)))):=by rw[←addT_app,hu];rfl
  have e3:u++(lnsT (k+1) (lns x.items)++lnT k (0,[125,32,101,108,115,101,32,123]))++lnsT (k+1) (lns x.els)=u++(lnsT (k+1) (lns x.items)++(lnT k (0,[125,32,101,108,115,101,32,123])++lnsT (k+1) (lns x.els))):=by simp only[List.append_assoc]
  simp only[addT_some,e3]at hc2;generalize lnsT (k+1) (lns x.items)=I at *;generalize lnT k (0,[125,32,101,108,115,101,32,123])=E at *;generalize lnsT (k+1) (lns x.els)=L2 at *;simp -dsimp -implicitDefEqProofs only[aw,V.copy,V.lend,V.cells,rowsOf,plains,V.plain,Nat.reduceLeDiff,eq_self,reduceIte,Nat.reduceBEq,Nat.reduceLT,Nat.reduceEqDiff,Nat.reduceAdd,get_set_new,get_set_new0,h0];refine fun_to (hL2 _ (get_set_same σ _ i _ hi)) ?_;rw[set_set_same _ _ _ _ _ hi];simp -dsimp -implicitDefEqProofs only[aw,V.copy,V.lend,Nat.reduceLeDiff,eq_self,reduceIte,Nat.reduceBEq,Nat.reduceLT,Nat.reduceEqDiff,get_set_new0];refine fun_to (inside_fun i (u++(I++E)) (u++(I++(E++L2))) k (by omega) _ _ _ (get_set_same σ _ i _ hi) ?_) ?_
  ·rw[set_set_same _ _ _ _ _ hi,set_set_same _ _ _ _ _ hi];have:=hc2 (σ.set i (pgc i (some (u++(I++E))) ((k+1:Nat):Int))++[[.ptr i 0],itC x]) (get_set_new0 ..) (get_set_new ..) (get_set_same σ _ i _ hi);rw[set_set_same _ _ _ _ _ hi]at this;exact this
  rw[set_set_same _ _ _ _ _ hi];simp -dsimp -implicitDefEqProofs only[aw,V.copy,V.lend,V.cells,rowsOf,plains,V.plain,Nat.reduceLeDiff,eq_self,reduceIte,Nat.reduceBEq,Nat.reduceLT,Nat.reduceEqDiff,get_set_new0];refine fun_to (endL _ _ (by simp only[List.length_append];omega) hu4 _) ?_;simp -dsimp -implicitDefEqProofs only[aw,reduceIte,Nat.reduceLT,Nat.reduceEqDiff];refine fin_en (v:=.tup []) (k:=σ.length) (Nat.le_refl _) (List.take_left' (by simp)) (bbset hb (pg_under hi)) rfl rfl ⟨rfl,?_⟩;simp only[]
end
theorem lns_cons(x:It)(r:List It):lns (x::r)=lns1 x++lns r:=by rw[lns]
theorem lns_take(l:List It){j:Nat}(h:j<l.length):lns (l.take (j+1))=lns (l.take j)++lns1 l[j]:=by
 rw[List.take_succ_eq_append_getElem h,lns_app,lns_cons];simp[lns]
set_option maxHeartbeats 4000000 in
theorem items_step(l:List It)(hbig:ibigs l≤1100000)(IH:∀x,x∈l→ItsOK x.items∧ItsOK x.els):ItsOK l:=by
 intro d hv i t k σ hs hk hl;have hi:i<σ.length:=(List.getElem?_eq_some_iff.1 hs).1;have hll:l.length≤ibigs l:=ibigs_len l;refine fun_code Tryz.func39 k39 rfl fun hb hw=>?_;unfold c39;simp -dsimp -implicitDefEqProofs only[aw,slots0,V.copy,eq_self,reduceIte,reduceCtorEq,Nat.reduceBEq,Nat.reduceLT,Nat.reduceEqDiff,ditl];refine awp_forK [0,6,7,8] (fun(j:Nat) ρ σ'=>ρ=[(0,.ptr i 0),(6,.d (.sl (l.map dit))),(7,vint .i64 l.length),(8,vint .i64 j)]∧σ'=σ.set i (pgc i (addT t (lnsT k (lns (l.take j)))) k)) l.length ⟨rfl,by rw[List.take_zero,lns,lnsT_nil,addT_nil,set_id hs]⟩ ?_ _;rintro j ρ' σ' hj ⟨rfl,rfl⟩
 have bbt:∀t,boxesBelow (σ.set i (pgc i t k)).length (σ.set i (pgc i t k))=true:=fun t=>by
  rw[List.length_set];exact bbset hb (pg_under hi)
 by_cases hlt:j<l.length
 ·have hx:=List.getElem_mem hlt;have wj:=wrap_nat hlt (show l.length≤9223372036854775807 by omega);obtain⟨s1,s2,s3⟩:=vldX_mem hv hx;obtain⟨hk6,-,hd4⟩:=shape_zero s1;obtain⟨I1,I2⟩:=IH _ hx;have hxb:=ibigs_mem hx;have hzb:=ibig_eq l[j]
  have hlen:∀m,(lnsT k (lns (l.take m))).length≤(lnsT k (lns l)).length:=fun m=>by
   have h:=congrArg (fun q=>(lnsT k (lns q)).length) (List.take_append_drop m l);simp only[lns_app,lnsT_app,List.length_append]at h;omega
  have hlj:=hlen (j+1);rw[lns_take l hlt,lnsT_app,List.length_append]at hlj;have hn:addT t (lnsT k (lns (l.take (j+1))))=addT (addT t (lnsT k (lns (l.take j)))) (lnsT k (lns1 l[j])):=by rw[lns_take l hlt,lnsT_app,addT_app]
  have hlx:=addT_len t (lnsT k (lns (l.take j)));rw[hn];generalize hT:addT t (lnsT k (lns (l.take j)))=T at *;have hdx:=dit_eq l[j];have hget:(l.map dit)[j]? = some (dit l[j]):=by rw[List.getElem?_map,List.getElem?_eq_getElem hlt];rfl
  generalize l[j]=x at *
  have hone:∀S:List (List V),S[i]? = some (pgc i T k)→Fun G (wrF x.kind) [.ptr i 0,vit x] S (fun o σ'=>o=.ret (.tup [])∧σ'=S.set i (pgc i (addT T (lnsT k (lns1 x))) k)):=by
   intro S hS;have hP:PgOk S i T k:=⟨hS,by omega⟩
   unfold wrF;by_cases h2:x.kind=2
   ·rw[if_pos h2];exact soft_fun i T k x d S hP s1 h2 (by omega) (by omega)
   rw[if_neg h2];by_cases h3:x.kind=3
   ·rw[if_pos h3];exact wdist_fun i T k x d S hP s1 h3 (by omega) (by omega)
   rw[if_neg h3];by_cases h4:x.kind=4
   ·rw[if_pos h4];exact wchoice_fun i T k x d S I1 I2 hP hk s1 s2 s3 h4 (by omega) (by omega)
   rw[if_neg h4];by_cases h5:x.kind=5
   ·rw[if_pos h5];exact weach_fun i T k x d S I1 hP hk s1 s2 h5 (by omega)
   rw[if_neg h5];by_cases h6:x.kind=6
   ·rw[if_pos h6];exact wsolve_fun i T k x d S hP s1 h6 (by omega) (by omega)
   rw[if_neg h6];exact hard_fun i T k x d S hP s1 (by omega) (by omega) (by omega)
  simp only[vit_eq]at hone;simp -dsimp -implicitDefEqProofs only[aw,V.copy,V.lend,V.cells,V.boxable,over,Nat.reduceLeDiff,eq_self,reduceIte,reduceCtorEq,Nat.reduceBEq,Nat.reduceLT,Nat.reduceEqDiff,Nat.reduceAdd,Nat.reduceSub,Int.ofNat_lt,hlt,decide_true,hget,hdx,get_set_new0,set_set_new0,List.length_set];refine calm_ret (writer_fun x.kind _) ?_;simp -dsimp -implicitDefEqProofs only[aw,V.copy,V.lend,V.lend1,Nat.reduceLeDiff,eq_self,reduceIte,reduceCtorEq,Nat.reduceLT,Nat.reduceEqDiff,Nat.reduceAdd,Nat.reduceSub,get_set_new0];refine actG_ret (hone _ (get_set_same σ _ i _ hi)) ?_ ?_
  ·simp -dsimp -implicitDefEqProofs only[aw]
  rw[set_set_same _ _ _ _ _ hi];simp -dsimp -implicitDefEqProofs only[aw,V.copy,eq_self,reduceIte,reduceCtorEq,Nat.reduceBEq,Nat.reduceLT,Nat.reduceEqDiff,wj];exact⟨hlt,Nxt.drop (l:=[_]) (by simp) (bbt _) (by simp[slotsBelow,V.under];exact hi) ⟨rfl,rfl⟩⟩
 ·simp -dsimp -implicitDefEqProofs only[aw,eq_self,reduceIte,reduceCtorEq,Nat.reduceBEq,Nat.reduceLT,Nat.reduceEqDiff,Int.ofNat_lt,hlt,decide_false];rw[List.take_of_length_le (by omega)];exact fin_en (v:=.tup []) (k:=σ.length) (Nat.le_refl _) (List.take_of_length_le (by simp)) (bbset hb (pg_under hi)) rfl rfl ⟨rfl,rfl⟩
end Go.Proofs.YtcbahpllcfbkmaaGreatDoor
