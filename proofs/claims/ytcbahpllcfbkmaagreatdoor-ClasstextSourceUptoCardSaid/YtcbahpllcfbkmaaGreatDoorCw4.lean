import Derived.Test.YtcbahpllcfbkmaaGreatDoorCw3
set_option linter.unusedVariables false
set_option linter.unusedSimpArgs false
set_option linter.unusedSectionVars false
namespace Go.Proofs.YtcbahpllcfbkmaaGreatDoor
open Go.RowKit
theorem aU(σ L:List (List V))(i:Nat)(X Y:List V)(hi:i<σ.length):(σ.set i X++L).set i Y=σ.set i Y++L:=by
 rw[List.set_append_left _ _ (by rw[List.length_set];exact hi),List.set_set]
theorem bu(σ L:List (List V))(i:Nat)(X:List V)(hi:i<σ.length):(σ.set i X++L)[i]? = some X:=by
 rw[List.getElem?_append_left (by rw[List.length_set];exact hi),List.getElem?_set_self hi]
theorem bt(σ L:List (List V))(i j:Nat)(X:List V):(σ.set i X++L)[σ.length+j]? = L[j]? := by
 rw[List.getElem?_append_right (by rw[List.length_set];omega),List.length_set];congr 1;omega
theorem ba(σ L:List (List V))(i:Nat)(X:List V):(σ.set i X++L)[σ.length]? = L[0]? := bt σ L i 0 X
theorem fU(σ L:List (List V))(i:Nat)(X Y:List V):(σ.set i X++L).set σ.length Y=σ.set i X++L.set 0 Y:=by
 rw[List.set_append_right _ _ (by rw[List.length_set];exact Nat.le_refl _),List.length_set,Nat.sub_self]
def io(l:List It):Prop:=∀(d:Nat),rvl l d=0→∀(i:Nat) (t:Option Bs) (k:Nat) (σ:List (List V)),σ[i]? = some (pgc i t k)→k≤100+d→(t.getD []).length+(aG k (lns l)).length≤140737488355328→
 Fun G 39 [.ptr i 0,.d (eO l)] σ (fun o σ'=>o=.ret (.tup [])∧σ'=σ.set i (pgc i (cI t (aG k (lns l))) k))
abbrev itC(x:It):List V:=[.d (ay x.kind),.d (ay x.ex.op),.d (ay x.ex.num),.d (ak x.ex.name),.d (.sl (x.ex.args.map dex)),.d (ak x.name),.d (ak x.idx),.d (.sl (x.ws.map dwt)),.d (.sl (x.items.map dit)),.d (.sl (x.els.map dit)),.d (.sl (x.bef.map fun s=>[ak s])),.d (.sl (x.aft.map fun s=>[ak s]))]
section
variable (b c i : Nat) (t : Option Bs) (k : Nat) (x : It) (d : Nat) (σ : List (List V))
theorem zi(IH:io x.items)(hv:rvl x.items d=0)(hb:σ[b]? = some [.ptr i 0])(hc:σ[c]? = some (itC x))(hp:σ[i]? = some (pgc i t k))(hk:k≤100+d)(hl:(t.getD []).length+(aG k (lns x.items)).length≤140737488355328):
 Fun G 123 [.ptr b 0,.ptr c 0] σ (fun o σ'=>o=.ret (.tup [])∧σ'=σ.set i (pgc i (cI t (aG k (lns x.items))) k)):=by
 have hi:i<σ.length:=(List.getElem?_eq_some_iff.1 hp).1;have h:=IH d hv i t k σ hp hk hl;refine aq Tryz.func123 FJ rfl fun hb' hw=>?_;unfold Ce;simp -dsimp -implicitDefEqProofs only[aw,ah,V.copy,V.lend,V.lend1,V.cells,V.boxable,over,al,ae,ac,ai,V.plain,Nat.reduceLeDiff,cond_true,cond_false,implies_true,eq_self,ne_eq,reduceIte,reduceCtorEq,Nat.reduceBEq,Nat.reduceLT,Nat.reduceEqDiff,Nat.reduceAdd,Nat.reduceSub,Nat.reduceMul,hb,hc];refine bQ h ?_;simp -dsimp -implicitDefEqProofs only[aw,ah,V.copy,V.lend,V.lend1,V.cells,V.boxable,over,al,ae,ac,ai,V.plain,Nat.reduceLeDiff,cond_true,cond_false,implies_true,eq_self,ne_eq,reduceIte,reduceCtorEq,Nat.reduceBEq,Nat.reduceLT,Nat.reduceEqDiff,Nat.reduceAdd,Nat.reduceSub,Nat.reduceMul]
 exact da (v:=.tup []) (k:=σ.length) (Nat.le_refl _) (List.take_of_length_le (by simp)) (dF hb' (bK hi)) rfl rfl ⟨rfl,rfl⟩
theorem yo(IH:io x.els)(hv:rvl x.els d=0)(hb:σ[b]? = some [.ptr i 0])(hc:σ[c]? = some (itC x))(hp:σ[i]? = some (pgc i t k))(hk:k≤100+d)(hl:(t.getD []).length+(aG k (lns x.els)).length≤140737488355328):
 Fun G 124 [.ptr b 0,.ptr c 0] σ (fun o σ'=>o=.ret (.tup [])∧σ'=σ.set i (pgc i (cI t (aG k (lns x.els))) k)):=by
 have hi:i<σ.length:=(List.getElem?_eq_some_iff.1 hp).1;have h:=IH d hv i t k σ hp hk hl;refine aq Tryz.func124 Eh rfl fun hb' hw=>?_;unfold Ck;simp -dsimp -implicitDefEqProofs only[aw,ah,V.copy,V.lend,V.lend1,V.cells,V.boxable,over,al,ae,ac,ai,V.plain,Nat.reduceLeDiff,cond_true,cond_false,implies_true,eq_self,ne_eq,reduceIte,reduceCtorEq,Nat.reduceBEq,Nat.reduceLT,Nat.reduceEqDiff,Nat.reduceAdd,Nat.reduceSub,Nat.reduceMul,hb,hc];refine bQ h ?_;simp -dsimp -implicitDefEqProofs only[aw,ah,V.copy,V.lend,V.lend1,V.cells,V.boxable,over,al,ae,ac,ai,V.plain,Nat.reduceLeDiff,cond_true,cond_false,implies_true,eq_self,ne_eq,reduceIte,reduceCtorEq,Nat.reduceBEq,Nat.reduceLT,Nat.reduceEqDiff,Nat.reduceAdd,Nat.reduceSub,Nat.reduceMul]
 exact da (v:=.tup []) (k:=σ.length) (Nat.le_refl _) (List.take_of_length_le (by simp)) (dF hb' (bK hi)) rfl rfl ⟨rfl,rfl⟩
theorem xX(IH:io x.items)(hv:rvl x.items d=0)(hb:σ[b]? = some [.ptr i 0])(hc:σ[c]? = some (itC x))(hp:σ[i]? = some (pgc i t k))(hk:k≤100+d)(hl:(t.getD []).length+(aG k (lns x.items)).length≤140737488355328):
 Fun G 125 [.ptr b 0,.ptr c 0] σ (fun o σ'=>o=.ret (.tup [])∧σ'=σ.set i (pgc i (cI t (aG k (lns x.items))) k)):=by
 have hi:i<σ.length:=(List.getElem?_eq_some_iff.1 hp).1;have h:=IH d hv i t k σ hp hk hl;refine aq Tryz.func125 Eq rfl fun hb' hw=>?_;unfold CZ;simp -dsimp -implicitDefEqProofs only[aw,ah,V.copy,V.lend,V.lend1,V.cells,V.boxable,over,al,ae,ac,ai,V.plain,Nat.reduceLeDiff,cond_true,cond_false,implies_true,eq_self,ne_eq,reduceIte,reduceCtorEq,Nat.reduceBEq,Nat.reduceLT,Nat.reduceEqDiff,Nat.reduceAdd,Nat.reduceSub,Nat.reduceMul,hb,hc];refine bQ h ?_;simp -dsimp -implicitDefEqProofs only[aw,ah,V.copy,V.lend,V.lend1,V.cells,V.boxable,over,al,ae,ac,ai,V.plain,Nat.reduceLeDiff,cond_true,cond_false,implies_true,eq_self,ne_eq,reduceIte,reduceCtorEq,Nat.reduceBEq,Nat.reduceLT,Nat.reduceEqDiff,Nat.reduceAdd,Nat.reduceSub,Nat.reduceMul]
 exact da (v:=.tup []) (k:=σ.length) (Nat.le_refl _) (List.take_of_length_le (by simp)) (dF hb' (bK hi)) rfl rfl ⟨rfl,rfl⟩
end
theorem f125:[bs [125]].flatMap aO=[125]:=by simp[aO,aY]
theorem rn(k:Nat)(x:Ln):lnT k x≠[]:=by unfold lnT;simp
theorem jx(t:Option Bs)(k:Nat)(x:Ln):∃u,cI t (lnT k x)=some u∧u.length=(t.getD []).length+(lnT k x).length:=
 ⟨t.getD []++lnT k x,(nv t (rn k x)).symm,List.length_append⟩
section
variable (i : Nat) (t : Option Bs) (k : Nat) (x : It) (d : Nat) (σ : List (List V))
set_option maxHeartbeats 4000000 in
theorem sQ(IH:io x.items)(hp:PgOk σ i t k)(hd:k≤100+d)(hsh:aZ x d=0)(hv:rvl x.items (d+1)=0)(hk:x.kind=5)(hl:(t.getD []).length+(aG k (cw x)).length≤140737488355328):
 Fun G 93 [.ptr i 0,vit x] σ (fun o σ'=>o=.ret (.tup [])∧σ'=σ.set i (pgc i (cI t (aG k (cw x))) k)):=by
 have hlns:cw x=(0,[101,97,99,104,32]++(aO x.idx++([32,105,110,32]++(aO x.name++[32,123]))))::(upL (lns x.items)++[(0,[125])]):=by rw[cX,if_neg (by omega),if_neg (by omega),if_neg (by omega),if_neg (by omega),if_pos hk]
 rw[hlns,aH,a7,dm,aH,a8,List.append_nil]at hl ⊢;simp only[List.length_append]at hl;have hi:i<σ.length:=(List.getElem?_eq_some_iff.1 hp.at_).1;have k1:=hp.k1;have fl:[bs [101,97,99,104,32],x.idx,bs [32,105,110,32],x.name,bs [32,123]].flatMap aO=[101,97,99,104,32]++(aO x.idx++([32,105,110,32]++(aO x.name++[32,123]))):=by simp[aO,aY]
 generalize hH:(0,[101,97,99,104,32]++(aO x.idx++([32,105,110,32]++(aO x.name++[32,123]))))=H at hl ⊢;obtain⟨u,hu,hul⟩:=jx t k H;have hL1:=cY i t k [bs [101,97,99,104,32],x.idx,bs [32,105,110,32],x.name,bs [32,123]] (by omega) (by rw[fl,hH];omega) (by simp);rw[fl,hH,hu]at hL1;have hL3:=cY i (some (u++aG (k+1) (lns x.items))) k [bs [125]] (by omega) (by rw[f125,Option.getD_some,List.length_append];omega) (by simp);refine aq Tryz.func93 k93 (by simp only[aP];rfl) fun hb hw=>?_;unfold c93;simp -dsimp -implicitDefEqProofs only[aw,ah,V.copy,V.lend,V.lend1,V.cells,V.boxable,over,al,ae,ac,ai,V.plain,Nat.reduceLeDiff,cond_true,cond_false,implies_true,eq_self,ne_eq,reduceIte,reduceCtorEq,Nat.reduceBEq,Nat.reduceLT,Nat.reduceEqDiff,Nat.reduceAdd,Nat.reduceSub,Nat.reduceMul,aP]
 refine bQ (hL1 _ (by rw[List.getElem?_append_left hi];exact hp.at_)) ?_;rw[List.set_append_left _ _ hi];simp -dsimp -implicitDefEqProofs only[aw,ah,V.copy,V.lend,V.lend1,V.cells,V.boxable,over,al,ae,ac,ai,V.plain,Nat.reduceLeDiff,cond_true,cond_false,implies_true,eq_self,ne_eq,reduceIte,reduceCtorEq,Nat.reduceBEq,Nat.reduceLT,Nat.reduceEqDiff,Nat.reduceAdd,Nat.reduceSub,Nat.reduceMul,bt,ba];refine bQ (dZ i u (u++aG (k+1) (lns x.items)) k (by omega) _ _ _ (bu σ _ i _ hi) ?_) ?_
 ·rw[aU _ _ _ _ _ hi,aU _ _ _ _ _ hi];have:=xX σ.length (σ.length+1) i (some u) (k+1) x (d+1) (σ.set i (pgc i (some u) ((k+1:Nat):Int))++[[.ptr i 0],itC x]) IH hv (ba ..) (bt ..) (bu σ _ i _ hi) (by omega) (by rw[Option.getD_some];omega);rw[aU _ _ _ _ _ hi]at this;exact this
 rw[aU _ _ _ _ _ hi];simp -dsimp -implicitDefEqProofs only[aw,ah,V.copy,V.lend,V.lend1,V.cells,V.boxable,over,al,ae,ac,ai,V.plain,Nat.reduceLeDiff,cond_true,cond_false,implies_true,eq_self,ne_eq,reduceIte,reduceCtorEq,Nat.reduceBEq,Nat.reduceLT,Nat.reduceEqDiff,Nat.reduceAdd,Nat.reduceSub,Nat.reduceMul,bt,ba];refine bQ (hL3 _ (bu σ _ i _ hi)) ?_;rw[aU _ _ _ _ _ hi];simp -dsimp -implicitDefEqProofs only[aw,ah,V.copy,V.lend,V.lend1,V.cells,V.boxable,over,al,ae,ac,ai,V.plain,Nat.reduceLeDiff,cond_true,cond_false,implies_true,eq_self,ne_eq,reduceIte,reduceCtorEq,Nat.reduceBEq,Nat.reduceLT,Nat.reduceEqDiff,Nat.reduceAdd,Nat.reduceSub,Nat.reduceMul];refine da (v:=.tup []) (k:=σ.length) (Nat.le_refl _) (List.take_left' (by simp)) (dF hb (bK hi)) rfl rfl ⟨rfl,?_⟩
 rw[←ez,←ez,hu,f125];rfl
end
end Go.Proofs.YtcbahpllcfbkmaaGreatDoor
