import Derived.Test.YtcbahpllcfbkmaaGreatDoorCw3
set_option linter.unusedVariables false
set_option linter.unusedSimpArgs false
set_option linter.unusedSectionVars false
namespace Go.Proofs.YtcbahpllcfbkmaaGreatDoor
open Go.RowKit
theorem aN(σ L:List (List V))(i:Nat)(X Y:List V)(hi:i<σ.length):(σ.set i X++L).set i Y=σ.set i Y++L:=by
 rw[List.set_append_left _ _ (by rw[List.length_set];exact hi),List.set_set]
theorem bt(σ L:List (List V))(i:Nat)(X:List V)(hi:i<σ.length):(σ.set i X++L)[i]? = some X:=by
 rw[List.getElem?_append_left (by rw[List.length_set];exact hi),List.getElem?_set_self hi]
theorem bp(σ L:List (List V))(i j:Nat)(X:List V):(σ.set i X++L)[σ.length+j]? = L[j]? := by
 rw[List.getElem?_append_right (by rw[List.length_set];omega),List.length_set];congr 1;omega
theorem aT(σ L:List (List V))(i:Nat)(X:List V):(σ.set i X++L)[σ.length]? = L[0]? := bp σ L i 0 X
theorem ig(σ L:List (List V))(i:Nat)(X Y:List V):(σ.set i X++L).set σ.length Y=σ.set i X++L.set 0 Y:=by
 rw[List.set_append_right _ _ (by rw[List.length_set];exact Nat.le_refl _),List.length_set,Nat.sub_self]
def jL(l:List It):Prop:=∀(d:Nat),rvl l d=0→∀(i:Nat) (t:Option Bs) (k:Nat) (σ:List (List V)),σ[i]? = some (pgc i t k)→k≤100+d→(t.getD []).length+(aX k (lns l)).length≤140737488355328→
 Fun G 39 [.ptr i 0,.d (fr l)] σ (fun o σ'=>o=.ret (.tup [])∧σ'=σ.set i (pgc i (cP t (aX k (lns l))) k))
abbrev itC(x:It):List V:=[.d (az x.kind),.d (az x.ex.op),.d (az x.ex.num),.d (an x.ex.name),.d (.sl (x.ex.args.map dex)),.d (an x.name),.d (an x.idx),.d (.sl (x.ws.map dwt)),.d (.sl (x.items.map dit)),.d (.sl (x.els.map dit)),.d (.sl (x.bef.map fun s=>[an s])),.d (.sl (x.aft.map fun s=>[an s]))]
section
variable (b c i : Nat) (t : Option Bs) (k : Nat) (x : It) (d : Nat) (σ : List (List V))
theorem BP(IH:jL x.items)(hv:rvl x.items d=0)(hb:σ[b]? = some [.ptr i 0])(hc:σ[c]? = some (itC x))(hp:σ[i]? = some (pgc i t k))(hk:k≤100+d)(hl:(t.getD []).length+(aX k (lns x.items)).length≤140737488355328):
 Fun G 123 [.ptr b 0,.ptr c 0] σ (fun o σ'=>o=.ret (.tup [])∧σ'=σ.set i (pgc i (cP t (aX k (lns x.items))) k)):=by
 have hi:i<σ.length:=(List.getElem?_eq_some_iff.1 hp).1;have h:=IH d hv i t k σ hp hk hl;refine ay Tryz.func123 Hp rfl fun hb' hw=>?_;unfold Fq;simp -dsimp -implicitDefEqProofs only[aw,ah,V.copy,V.lend,V.lend1,V.cells,V.boxable,over,ak,ae,ac,ai,V.plain,Nat.reduceLeDiff,cond_true,cond_false,implies_true,eq_self,ne_eq,reduceIte,reduceCtorEq,Nat.reduceBEq,Nat.reduceLT,Nat.reduceEqDiff,Nat.reduceAdd,Nat.reduceSub,Nat.reduceMul,hb,hc];refine bV h ?_;simp -dsimp -implicitDefEqProofs only[aw,ah,V.copy,V.lend,V.lend1,V.cells,V.boxable,over,ak,ae,ac,ai,V.plain,Nat.reduceLeDiff,cond_true,cond_false,implies_true,eq_self,ne_eq,reduceIte,reduceCtorEq,Nat.reduceBEq,Nat.reduceLT,Nat.reduceEqDiff,Nat.reduceAdd,Nat.reduceSub,Nat.reduceMul]
 exact dx (v:=.tup []) (k:=σ.length) (Nat.le_refl _) (List.take_of_length_le (by simp)) (d5 hb' (bQ hi)) rfl rfl ⟨rfl,rfl⟩
theorem BH(IH:jL x.els)(hv:rvl x.els d=0)(hb:σ[b]? = some [.ptr i 0])(hc:σ[c]? = some (itC x))(hp:σ[i]? = some (pgc i t k))(hk:k≤100+d)(hl:(t.getD []).length+(aX k (lns x.els)).length≤140737488355328):
 Fun G 124 [.ptr b 0,.ptr c 0] σ (fun o σ'=>o=.ret (.tup [])∧σ'=σ.set i (pgc i (cP t (aX k (lns x.els))) k)):=by
 have hi:i<σ.length:=(List.getElem?_eq_some_iff.1 hp).1;have h:=IH d hv i t k σ hp hk hl;refine ay Tryz.func124 Io rfl fun hb' hw=>?_;unfold ES;simp -dsimp -implicitDefEqProofs only[aw,ah,V.copy,V.lend,V.lend1,V.cells,V.boxable,over,ak,ae,ac,ai,V.plain,Nat.reduceLeDiff,cond_true,cond_false,implies_true,eq_self,ne_eq,reduceIte,reduceCtorEq,Nat.reduceBEq,Nat.reduceLT,Nat.reduceEqDiff,Nat.reduceAdd,Nat.reduceSub,Nat.reduceMul,hb,hc];refine bV h ?_;simp -dsimp -implicitDefEqProofs only[aw,ah,V.copy,V.lend,V.lend1,V.cells,V.boxable,over,ak,ae,ac,ai,V.plain,Nat.reduceLeDiff,cond_true,cond_false,implies_true,eq_self,ne_eq,reduceIte,reduceCtorEq,Nat.reduceBEq,Nat.reduceLT,Nat.reduceEqDiff,Nat.reduceAdd,Nat.reduceSub,Nat.reduceMul]
 exact dx (v:=.tup []) (k:=σ.length) (Nat.le_refl _) (List.take_of_length_le (by simp)) (d5 hb' (bQ hi)) rfl rfl ⟨rfl,rfl⟩
theorem Cr(IH:jL x.items)(hv:rvl x.items d=0)(hb:σ[b]? = some [.ptr i 0])(hc:σ[c]? = some (itC x))(hp:σ[i]? = some (pgc i t k))(hk:k≤100+d)(hl:(t.getD []).length+(aX k (lns x.items)).length≤140737488355328):
 Fun G 125 [.ptr b 0,.ptr c 0] σ (fun o σ'=>o=.ret (.tup [])∧σ'=σ.set i (pgc i (cP t (aX k (lns x.items))) k)):=by
 have hi:i<σ.length:=(List.getElem?_eq_some_iff.1 hp).1;have h:=IH d hv i t k σ hp hk hl;refine ay Tryz.func125 HA rfl fun hb' hw=>?_;unfold FL;simp -dsimp -implicitDefEqProofs only[aw,ah,V.copy,V.lend,V.lend1,V.cells,V.boxable,over,ak,ae,ac,ai,V.plain,Nat.reduceLeDiff,cond_true,cond_false,implies_true,eq_self,ne_eq,reduceIte,reduceCtorEq,Nat.reduceBEq,Nat.reduceLT,Nat.reduceEqDiff,Nat.reduceAdd,Nat.reduceSub,Nat.reduceMul,hb,hc];refine bV h ?_;simp -dsimp -implicitDefEqProofs only[aw,ah,V.copy,V.lend,V.lend1,V.cells,V.boxable,over,ak,ae,ac,ai,V.plain,Nat.reduceLeDiff,cond_true,cond_false,implies_true,eq_self,ne_eq,reduceIte,reduceCtorEq,Nat.reduceBEq,Nat.reduceLT,Nat.reduceEqDiff,Nat.reduceAdd,Nat.reduceSub,Nat.reduceMul]
 exact dx (v:=.tup []) (k:=σ.length) (Nat.le_refl _) (List.take_of_length_le (by simp)) (d5 hb' (bQ hi)) rfl rfl ⟨rfl,rfl⟩
end
theorem f125:[bs [125]].flatMap aG=[125]:=by simp[aG,bH]
theorem ux(k:Nat)(x:Ln):lnT k x≠[]:=by unfold lnT;simp
theorem lu(t:Option Bs)(k:Nat)(x:Ln):∃u,cP t (lnT k x)=some u∧u.length=(t.getD []).length+(lnT k x).length:=
 ⟨t.getD []++lnT k x,(qn t (ux k x)).symm,List.length_append⟩
section
variable (i : Nat) (t : Option Bs) (k : Nat) (x : It) (d : Nat) (σ : List (List V))
set_option maxHeartbeats 4000000 in
theorem wK(IH:jL x.items)(hp:PgOk σ i t k)(hd:k≤100+d)(hsh:aR x d=0)(hv:rvl x.items (d+1)=0)(hk:x.kind=5)(hl:(t.getD []).length+(aX k (eZ x)).length≤140737488355328):
 Fun G 93 [.ptr i 0,vit x] σ (fun o σ'=>o=.ret (.tup [])∧σ'=σ.set i (pgc i (cP t (aX k (eZ x))) k)):=by
 have hlns:eZ x=(0,[101,97,99,104,32]++(aG x.idx++([32,105,110,32]++(aG x.name++[32,123]))))::(upL (lns x.items)++[(0,[125])]):=by rw[ft,if_neg (by omega),if_neg (by omega),if_neg (by omega),if_neg (by omega),if_pos hk]
 rw[hlns,bc,bK,ga,bc,bE,List.append_nil]at hl ⊢;simp only[List.length_append]at hl;have hi:i<σ.length:=(List.getElem?_eq_some_iff.1 hp.at_).1;have k1:=hp.k1;have fl:[bs [101,97,99,104,32],x.idx,bs [32,105,110,32],x.name,bs [32,123]].flatMap aG=[101,97,99,104,32]++(aG x.idx++([32,105,110,32]++(aG x.name++[32,123]))):=by simp[aG,bH]
 generalize hH:(0,[101,97,99,104,32]++(aG x.idx++([32,105,110,32]++(aG x.name++[32,123]))))=H at hl ⊢;obtain⟨u,hu,hul⟩:=lu t k H;have hL1:=dg i t k [bs [101,97,99,104,32],x.idx,bs [32,105,110,32],x.name,bs [32,123]] (by omega) (by rw[fl,hH];omega) (by simp);rw[fl,hH,hu]at hL1;have hL3:=dg i (some (u++aX (k+1) (lns x.items))) k [bs [125]] (by omega) (by rw[f125,Option.getD_some,List.length_append];omega) (by simp);refine ay Tryz.func93 k93 (by simp only[aV];rfl) fun hb hw=>?_;unfold c93;simp -dsimp -implicitDefEqProofs only[aw,ah,V.copy,V.lend,V.lend1,V.cells,V.boxable,over,ak,ae,ac,ai,V.plain,Nat.reduceLeDiff,cond_true,cond_false,implies_true,eq_self,ne_eq,reduceIte,reduceCtorEq,Nat.reduceBEq,Nat.reduceLT,Nat.reduceEqDiff,Nat.reduceAdd,Nat.reduceSub,Nat.reduceMul,aV]
 refine bV (hL1 _ (by rw[List.getElem?_append_left hi];exact hp.at_)) ?_;rw[List.set_append_left _ _ hi];simp -dsimp -implicitDefEqProofs only[aw,ah,V.copy,V.lend,V.lend1,V.cells,V.boxable,over,ak,ae,ac,ai,V.plain,Nat.reduceLeDiff,cond_true,cond_false,implies_true,eq_self,ne_eq,reduceIte,reduceCtorEq,Nat.reduceBEq,Nat.reduceLT,Nat.reduceEqDiff,Nat.reduceAdd,Nat.reduceSub,Nat.reduceMul,bp,aT];refine bV (eH i u (u++aX (k+1) (lns x.items)) k (by omega) _ _ _ (bt σ _ i _ hi) ?_) ?_
 ·rw[aN _ _ _ _ _ hi,aN _ _ _ _ _ hi];have:=Cr σ.length (σ.length+1) i (some u) (k+1) x (d+1) (σ.set i (pgc i (some u) ((k+1:Nat):Int))++[[.ptr i 0],itC x]) IH hv (aT ..) (bp ..) (bt σ _ i _ hi) (by omega) (by rw[Option.getD_some];omega);rw[aN _ _ _ _ _ hi]at this;exact this
 rw[aN _ _ _ _ _ hi];simp -dsimp -implicitDefEqProofs only[aw,ah,V.copy,V.lend,V.lend1,V.cells,V.boxable,over,ak,ae,ac,ai,V.plain,Nat.reduceLeDiff,cond_true,cond_false,implies_true,eq_self,ne_eq,reduceIte,reduceCtorEq,Nat.reduceBEq,Nat.reduceLT,Nat.reduceEqDiff,Nat.reduceAdd,Nat.reduceSub,Nat.reduceMul,bp,aT];refine bV (hL3 _ (bt σ _ i _ hi)) ?_;rw[aN _ _ _ _ _ hi];simp -dsimp -implicitDefEqProofs only[aw,ah,V.copy,V.lend,V.lend1,V.cells,V.boxable,over,ak,ae,ac,ai,V.plain,Nat.reduceLeDiff,cond_true,cond_false,implies_true,eq_self,ne_eq,reduceIte,reduceCtorEq,Nat.reduceBEq,Nat.reduceLT,Nat.reduceEqDiff,Nat.reduceAdd,Nat.reduceSub,Nat.reduceMul];refine dx (v:=.tup []) (k:=σ.length) (Nat.le_refl _) (List.take_left' (by simp)) (d5 hb (bQ hi)) rfl rfl ⟨rfl,?_⟩
 rw[←eY,←eY,hu,f125];rfl
end
end Go.Proofs.YtcbahpllcfbkmaaGreatDoor
