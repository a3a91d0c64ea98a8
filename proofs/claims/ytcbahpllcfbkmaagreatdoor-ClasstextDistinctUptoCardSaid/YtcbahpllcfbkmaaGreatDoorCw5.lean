import Derived.Test.YtcbahpllcfbkmaaGreatDoorCw4
set_option linter.unusedVariables false
set_option linter.unusedSimpArgs false
set_option linter.unusedSectionVars false
namespace Go.Proofs.YtcbahpllcfbkmaaGreatDoor
open Go.RowKit
theorem zR{σ:List (List V)}{i:Nat}{X:List V}(h:σ[i]? = some X):σ.set i X=σ:=by
 apply List.ext_getElem?;intro j;by_cases e:j=i
 ·subst e;rw[List.getElem?_set_self (List.getElem?_eq_some_iff.1 h).1,h]
 ·rw[List.getElem?_set_ne (Ne.symm e)]
section
variable (i : Nat) (t : Option Bs) (k : Nat) (x : It) (d : Nat) (σ : List (List V))
set_option maxHeartbeats 8000000 in
theorem rO(IH:jL x.items)(IH2:jL x.els)(hp:PgOk σ i t k)(hd:k≤100+d)(hsh:aR x d=0)(hv:rvl x.items (d+1)=0)(hv2:rvl x.els (d+1)=0)(hk:x.kind=4)(hz:fY x≤1100000)(hl:(t.getD []).length+(aX k (eZ x)).length≤140737488355328):
 Fun G 92 [.ptr i 0,vit x] σ (fun o σ'=>o=.ret (.tup [])∧σ'=σ.set i (pgc i (cP t (aX k (eZ x))) k)):=by
 have hbig:=cA x;have he:bU x.ex=0:=by have:=g9 hsh;rw[if_neg (by omega),if_neg (by omega),if_neg (by omega)]at this;exact this
 have hlns:eZ x=(0,[105,102,32,40]++(aF x.ex++[41,32,123]))::(upL (lns x.items)++((if x.els.isEmpty=true then[]else(0,[125,32,101,108,115,101,32,123])::upL (lns x.els))++[(0,[125])])):=by
  rw[ft,if_neg (by omega),if_neg (by omega),if_neg (by omega),if_pos hk]
 rw[hlns,bc,bK,ga,bK,bc,bE,List.append_nil]at hl ⊢;have hi:i<σ.length:=(List.getElem?_eq_some_iff.1 hp.at_).1;have k1:=hp.k1;have hel:=gO x.els;have hpr:=fun σ=>nv he (by omega) σ;simp only[be]at hpr;have fl:[bs [105,102,32,40],bs (aF x.ex),bs [41,32,123]].flatMap aG=[105,102,32,40]++(aF x.ex++[41,32,123]):=by simp[aG,bH]
 have fe:[bs [125,32,101,108,115,101,32,123]].flatMap aG=[125,32,101,108,115,101,32,123]:=by simp[aG,bH]
 generalize hH:(0,[105,102,32,40]++(aF x.ex++[41,32,123]))=H at hl ⊢;obtain⟨u,hu,hul⟩:=lu t k H;have hL1:=dg i t k [bs [105,102,32,40],bs (aF x.ex),bs [41,32,123]] (by omega) (by rw[fl,hH];simp only[List.length_append]at hl;omega) (by simp);rw[fl,hH,hu]at hL1;refine ay Tryz.func92 k92 (by simp only[aV];rfl) fun hb hw=>?_
 have endL:∀(v:Bs) (R:Bs),v.length+(lnT k (0,[125])).length≤140737488355328→cP t R=some v→∀X:List (List V),Fun G 28 [.ptr i 0,.d (cT [bs [125]])] (σ.set i (pgc i (some v) k)++X) (fun o σ'=>o=.ret (.tup [])∧σ'=σ.set i (pgc i (cP t (R++lnT k (0,[125]))) k)++X):=by
  intro v R hv hR X;have h3:=dg i (some v) k [bs [125]] (by omega) (by rw[f125,Option.getD_some];exact hv) (by simp) _ (bt σ X i _ hi);rw[aN _ _ _ _ _ hi,f125]at h3;exact h3.mono fun o σ' ⟨e1,e2⟩=>⟨e1,by rw[e2,←hR,eY]⟩
 unfold c92;simp -dsimp -implicitDefEqProofs only[aw,ah,V.copy,V.lend,V.lend1,V.cells,V.boxable,over,ak,ae,ac,ai,V.plain,Nat.reduceLeDiff,cond_true,cond_false,implies_true,eq_self,ne_eq,reduceIte,reduceCtorEq,Nat.reduceBEq,Nat.reduceLT,Nat.reduceEqDiff,Nat.reduceAdd,Nat.reduceSub,Nat.reduceMul,aV,bp,aT];refine aK (hpr _) ?_;simp -dsimp -implicitDefEqProofs only[aw,ah,V.copy,V.lend,V.lend1,V.cells,V.boxable,over,ak,ae,ac,ai,V.plain,Nat.reduceLeDiff,cond_true,cond_false,implies_true,eq_self,ne_eq,reduceIte,reduceCtorEq,Nat.reduceBEq,Nat.reduceLT,Nat.reduceEqDiff,Nat.reduceAdd,Nat.reduceSub,Nat.reduceMul,bp,aT];refine dR (hL1 _ (by rw[List.getElem?_append_left hi];exact hp.at_)) ?_ ?_
 ·simp -dsimp -implicitDefEqProofs only[aw,ah,V.copy,V.lend,V.lend1,V.cells,V.boxable,over,ak,ae,ac,ai,V.plain,Nat.reduceLeDiff,cond_true,cond_false,implies_true,eq_self,ne_eq,reduceIte,reduceCtorEq,Nat.reduceBEq,Nat.reduceLT,Nat.reduceEqDiff,Nat.reduceAdd,Nat.reduceSub,Nat.reduceMul,bp,aT]
 rw[List.set_append_left _ _ hi];simp -dsimp -implicitDefEqProofs only[aw,ah,V.copy,V.lend,V.lend1,V.cells,V.boxable,over,ak,ae,ac,ai,V.plain,Nat.reduceLeDiff,cond_true,cond_false,implies_true,eq_self,ne_eq,reduceIte,reduceCtorEq,Nat.reduceBEq,Nat.reduceLT,Nat.reduceEqDiff,Nat.reduceAdd,Nat.reduceSub,Nat.reduceMul,bp,aT];simp only[List.length_append]at hl;refine bV (eH i u (u++aX (k+1) (lns x.items)) k (by omega) _ _ _ (bt σ _ i _ hi) ?_) ?_
 ·rw[aN _ _ _ _ _ hi,aN _ _ _ _ _ hi];have:=BP σ.length (σ.length+1) i (some u) (k+1) x (d+1) (σ.set i (pgc i (some u) ((k+1:Nat):Int))++[[.ptr i 0],itC x]) IH hv (aT ..) (bp ..) (bt σ _ i _ hi) (by omega) (by rw[Option.getD_some];omega);rw[aN _ _ _ _ _ hi]at this;exact this
 rw[aN _ _ _ _ _ hi];have hu2:cP t (lnT k H++aX (k+1) (lns x.items))=some (u++aX (k+1) (lns x.items)):=by rw[←eY,hu];rfl
 by_cases hne:x.els=[]
 ·have hel0:x.els.isEmpty=true:=by rw[hne];rfl
  have h0:decide ((0:Int)<(x.els.length:Nat))=false:=by rw[hne];rfl
  rw[if_pos hel0,bE]at hl ⊢;simp -dsimp -implicitDefEqProofs only[aw,ah,V.copy,V.lend,V.lend1,V.cells,V.boxable,over,ak,ae,ac,ai,V.plain,Nat.reduceLeDiff,cond_true,cond_false,implies_true,eq_self,ne_eq,reduceIte,reduceCtorEq,Nat.reduceBEq,Nat.reduceLT,Nat.reduceEqDiff,Nat.reduceAdd,Nat.reduceSub,Nat.reduceMul,bp,aT,List.length_map,h0];refine bV (endL _ _ (by rw[List.length_append];omega) hu2 _) ?_;simp -dsimp -implicitDefEqProofs only[aw,ah,V.copy,V.lend,V.lend1,V.cells,V.boxable,over,ak,ae,ac,ai,V.plain,Nat.reduceLeDiff,cond_true,cond_false,implies_true,eq_self,ne_eq,reduceIte,reduceCtorEq,Nat.reduceBEq,Nat.reduceLT,Nat.reduceEqDiff,Nat.reduceAdd,Nat.reduceSub,Nat.reduceMul];refine dx (v:=.tup []) (k:=σ.length) (Nat.le_refl _) (List.take_left' (by simp)) (d5 hb (bQ hi)) rfl rfl ⟨rfl,?_⟩
  simp only[List.append_assoc,List.nil_append]
 ·have hel0:¬x.els.isEmpty=true:=by rw[List.isEmpty_iff];exact hne
  have hpos:0<x.els.length:=List.length_pos_iff.2 hne;have h0:decide ((0:Int)<(x.els.length:Nat))=true:=decide_eq_true (by omega);rw[if_neg hel0,bc,ga]at hl ⊢;simp only[List.length_append]at hl;have hL2:=dg i (some (u++aX (k+1) (lns x.items))) k [bs [125,32,101,108,115,101,32,123]] (by omega) (by rw[fe,Option.getD_some,List.length_append];omega) (by simp);rw[fe,gL,List.append_assoc]at hL2;have hc2:=fun S h1 h2 h3=>BH σ.length (σ.length+1) i (some (u++(aX (k+1) (lns x.items)++lnT k (0,[125,32,101,108,115,101,32,123])))) (k+1) x (d+1) S IH2 hv2 h1 h2 h3 (by omega) (by rw[Option.getD_some];simp only[List.length_append];omega)
  have hu4:cP t (lnT k H++(aX (k+1) (lns x.items)++(lnT k (0,[125,32,101,108,115,101,32,123])++aX (k+1) (lns x.els))))=some (u++(aX (k+1) (lns x.items)++(lnT k (0,[125,32,101,108,115,101,32,123])++aX (k+1) (lns x.els)))):=by rw[←eY,hu];rfl
  have e3:u++(aX (k+1) (lns x.items)++lnT k (0,[125,32,101,108,115,101,32,123]))++aX (k+1) (lns x.els)=u++(aX (k+1) (lns x.items)++(lnT k (0,[125,32,101,108,115,101,32,123])++aX (k+1) (lns x.els))):=by simp only[List.append_assoc]
  simp only[gL,e3]at hc2;generalize aX (k+1) (lns x.items)=I at *;generalize lnT k (0,[125,32,101,108,115,101,32,123])=E at *;generalize aX (k+1) (lns x.els)=L2 at *;simp -dsimp -implicitDefEqProofs only[aw,ah,V.copy,V.lend,V.lend1,V.cells,V.boxable,over,ak,ae,ac,ai,V.plain,Nat.reduceLeDiff,cond_true,cond_false,implies_true,eq_self,ne_eq,reduceIte,reduceCtorEq,Nat.reduceBEq,Nat.reduceLT,Nat.reduceEqDiff,Nat.reduceAdd,Nat.reduceSub,Nat.reduceMul,bp,aT,List.length_map,h0];refine bV (hL2 _ (bt σ _ i _ hi)) ?_;rw[aN _ _ _ _ _ hi]
  simp -dsimp -implicitDefEqProofs only[aw,ah,V.copy,V.lend,V.lend1,V.cells,V.boxable,over,ak,ae,ac,ai,V.plain,Nat.reduceLeDiff,cond_true,cond_false,implies_true,eq_self,ne_eq,reduceIte,reduceCtorEq,Nat.reduceBEq,Nat.reduceLT,Nat.reduceEqDiff,Nat.reduceAdd,Nat.reduceSub,Nat.reduceMul,bp,aT];refine bV (eH i (u++(I++E)) (u++(I++(E++L2))) k (by omega) _ _ _ (bt σ _ i _ hi) ?_) ?_
  ·rw[aN _ _ _ _ _ hi,aN _ _ _ _ _ hi];have:=hc2 (σ.set i (pgc i (some (u++(I++E))) ((k+1:Nat):Int))++[[.ptr i 0],itC x]) (aT ..) (bp ..) (bt σ _ i _ hi);rw[aN _ _ _ _ _ hi]at this;exact this
  rw[aN _ _ _ _ _ hi];simp -dsimp -implicitDefEqProofs only[aw,ah,V.copy,V.lend,V.lend1,V.cells,V.boxable,over,ak,ae,ac,ai,V.plain,Nat.reduceLeDiff,cond_true,cond_false,implies_true,eq_self,ne_eq,reduceIte,reduceCtorEq,Nat.reduceBEq,Nat.reduceLT,Nat.reduceEqDiff,Nat.reduceAdd,Nat.reduceSub,Nat.reduceMul,bp,aT];refine bV (endL _ _ (by simp only[List.length_append];omega) hu4 _) ?_;simp -dsimp -implicitDefEqProofs only[aw,ah,V.copy,V.lend,V.lend1,V.cells,V.boxable,over,ak,ae,ac,ai,V.plain,Nat.reduceLeDiff,cond_true,cond_false,implies_true,eq_self,ne_eq,reduceIte,reduceCtorEq,Nat.reduceBEq,Nat.reduceLT,Nat.reduceEqDiff,Nat.reduceAdd,Nat.reduceSub,Nat.reduceMul];refine dx (v:=.tup []) (k:=σ.length) (Nat.le_refl _) (List.take_left' (by simp)) (d5 hb (bQ hi)) rfl rfl ⟨rfl,?_⟩;simp only[List.append_assoc]
end
theorem A6(x:It)(r:List It):lns (x::r)=eZ x++lns r:=by rw[lns]
theorem qY(l:List It){j:Nat}(h:j<l.length):lns (l.take (j+1))=lns (l.take j)++eZ l[j]:=by
 rw[List.take_succ_eq_append_getElem h,ut,A6];simp[lns]
set_option maxHeartbeats 4000000 in
theorem tF(l:List It)(hbig:bN l≤1100000)(IH:∀x,x∈l→jL x.items∧jL x.els):jL l:=by
 intro d hv i t k σ hs hk hl;have hi:i<σ.length:=(List.getElem?_eq_some_iff.1 hs).1;have hll:l.length≤bN l:=gO l;refine ay Tryz.func39 k39 rfl fun hb hw=>?_;unfold c39;simp -dsimp -implicitDefEqProofs only[aw,ah,V.copy,V.lend,V.lend1,V.cells,V.boxable,over,ak,ae,ac,ai,V.plain,Nat.reduceLeDiff,cond_true,cond_false,implies_true,eq_self,ne_eq,reduceIte,reduceCtorEq,Nat.reduceBEq,Nat.reduceLT,Nat.reduceEqDiff,Nat.reduceAdd,Nat.reduceSub,Nat.reduceMul,fr,List.length_map];refine aS [0,6,7,8] (fun(j:Nat) ρ σ'=>ρ=[(0,.ptr i 0),(6,.d (.sl (l.map dit))),(7,aI .i64 l.length),(8,aI .i64 j)]∧σ'=σ.set i (pgc i (cP t (aX k (lns (l.take j)))) k)) l.length ⟨rfl,by rw[List.take_zero,lns,bE,AE,zR hs]⟩ ?_ _;rintro j ρ' σ' hj ⟨rfl,rfl⟩
 have bbt:∀t,aB (σ.set i (pgc i t k)).length (σ.set i (pgc i t k))=true:=fun t=>by
  rw[List.length_set];exact d5 hb (bQ hi)
 by_cases hlt:j<l.length
 ·have hx:=List.getElem_mem hlt;have wj:=aJ hlt (show l.length≤9223372036854775807 by omega);obtain⟨s1,s2,s3⟩:=je hv hx;obtain⟨hk6,-,hd4⟩:=dm s1;obtain⟨I1,I2⟩:=IH _ hx;have hxb:=d6 hx;have hzb:=cA l[j]
  have hlen:∀m,(aX k (lns (l.take m))).length≤(aX k (lns l)).length:=fun m=>by
   have h:=congrArg (fun q=>(aX k (lns q)).length) (List.take_append_drop m l);simp only[ut,bK,List.length_append]at h;omega
  have hlj:=hlen (j+1);rw[qY l hlt,bK,List.length_append]at hlj;have hn:cP t (aX k (lns (l.take (j+1))))=cP (cP t (aX k (lns (l.take j)))) (aX k (eZ l[j])):=by rw[qY l hlt,bK,eY]
  have hlx:=xR t (aX k (lns (l.take j)));rw[hn];generalize hT:cP t (aX k (lns (l.take j)))=T at *;have hdx:=fk l[j];have hget:(l.map dit)[j]? = some (dit l[j]):=by rw[List.getElem?_map,List.getElem?_eq_getElem hlt];rfl
  generalize l[j]=x at *
  have hone:∀S:List (List V),S[i]? = some (pgc i T k)→Fun G (wrF x.kind) [.ptr i 0,vit x] S (fun o σ'=>o=.ret (.tup [])∧σ'=S.set i (pgc i (cP T (aX k (eZ x))) k)):=by
   intro S hS;have hP:PgOk S i T k:=⟨hS,by omega⟩
   unfold wrF;by_cases h2:x.kind=2
   ·rw[if_pos h2];exact za i T k x d S hP s1 h2 (by omega) (by omega)
   rw[if_neg h2];by_cases h3:x.kind=3
   ·rw[if_pos h3];exact uT i T k x d S hP s1 h3 (by omega) (by omega)
   rw[if_neg h3];by_cases h4:x.kind=4
   ·rw[if_pos h4];exact rO i T k x d S I1 I2 hP hk s1 s2 s3 h4 (by omega) (by omega)
   rw[if_neg h4];by_cases h5:x.kind=5
   ·rw[if_pos h5];exact wK i T k x d S I1 hP hk s1 s2 h5 (by omega)
   rw[if_neg h5];by_cases h6:x.kind=6
   ·rw[if_pos h6];exact sH i T k x d S hP s1 h6 (by omega) (by omega)
   rw[if_neg h6];exact zO i T k x d S hP s1 (by omega) (by omega) (by omega)
  simp only[aV]at hone;simp -dsimp -implicitDefEqProofs only[aw,ah,V.copy,V.lend,V.lend1,V.cells,V.boxable,over,ak,ae,ac,ai,V.plain,Nat.reduceLeDiff,cond_true,cond_false,implies_true,eq_self,ne_eq,reduceIte,reduceCtorEq,Nat.reduceBEq,Nat.reduceLT,Nat.reduceEqDiff,Nat.reduceAdd,Nat.reduceSub,Nat.reduceMul,Int.ofNat_lt,hlt,decide_true,List.getElem?_eq_getElem hlt,hget,hdx,List.map_cons,List.map_nil,pB,aT,ig,List.length_set];refine aK (si x.kind _) ?_;simp -dsimp -implicitDefEqProofs only[aw,ah,V.copy,V.lend,V.lend1,V.cells,V.boxable,over,ak,ae,ac,ai,V.plain,Nat.reduceLeDiff,cond_true,cond_false,implies_true,eq_self,ne_eq,reduceIte,reduceCtorEq,Nat.reduceBEq,Nat.reduceLT,Nat.reduceEqDiff,Nat.reduceAdd,Nat.reduceSub,Nat.reduceMul,aT,List.length_set,pB]
  refine dR (hone _ (bt σ _ i _ hi)) ?_ ?_
  ·simp -dsimp -implicitDefEqProofs only[aw,ah,V.copy,V.lend,V.lend1,V.cells,V.boxable,over,ak,ae,ac,ai,V.plain,Nat.reduceLeDiff,cond_true,cond_false,implies_true,eq_self,ne_eq,reduceIte,reduceCtorEq,Nat.reduceBEq,Nat.reduceLT,Nat.reduceEqDiff,Nat.reduceAdd,Nat.reduceSub,Nat.reduceMul]
  rw[aN _ _ _ _ _ hi];simp -dsimp -implicitDefEqProofs only[aw,ah,V.copy,V.lend,V.lend1,V.cells,V.boxable,over,ak,ae,ac,ai,V.plain,Nat.reduceLeDiff,cond_true,cond_false,implies_true,eq_self,ne_eq,reduceIte,reduceCtorEq,Nat.reduceBEq,Nat.reduceLT,Nat.reduceEqDiff,Nat.reduceAdd,Nat.reduceSub,Nat.reduceMul,wj];exact⟨hlt,Nxt.drop (l:=[_]) (by simp) (bbt _) (by simp[ax,V.under];exact hi) ⟨rfl,rfl⟩⟩
 ·simp -dsimp -implicitDefEqProofs only[aw,ah,V.copy,V.lend,V.lend1,V.cells,V.boxable,over,ak,ae,ac,ai,V.plain,Nat.reduceLeDiff,cond_true,cond_false,implies_true,eq_self,ne_eq,reduceIte,reduceCtorEq,Nat.reduceBEq,Nat.reduceLT,Nat.reduceEqDiff,Nat.reduceAdd,Nat.reduceSub,Nat.reduceMul,Int.ofNat_lt,hlt,decide_false];rw[List.take_of_length_le (by omega)];exact dx (v:=.tup []) (k:=σ.length) (Nat.le_refl _) (List.take_of_length_le (by simp)) (d5 hb (bQ hi)) rfl rfl ⟨rfl,rfl⟩
end Go.Proofs.YtcbahpllcfbkmaaGreatDoor
