import Derived.Test.YtcbahpllcfbkmaaGreatDoorCw4
set_option linter.unusedVariables false
set_option linter.unusedSimpArgs false
set_option linter.unusedSectionVars false
namespace Go.Proofs.YtcbahpllcfbkmaaGreatDoor
open Go.RowKit
theorem ve{σ:List (List V)}{i:Nat}{X:List V}(h:σ[i]? = some X):σ.set i X=σ:=by
 apply List.ext_getElem?;intro j;by_cases e:j=i
 ·subst e;rw[List.getElem?_set_self (List.getElem?_eq_some_iff.1 h).1,h]
 ·rw[List.getElem?_set_ne (Ne.symm e)]
section
variable (i : Nat) (t : Option Bs) (k : Nat) (x : It) (d : Nat) (σ : List (List V))
set_option maxHeartbeats 8000000 in
theorem pj(IH:io x.items)(IH2:io x.els)(hp:PgOk σ i t k)(hd:k≤100+d)(hsh:aZ x d=0)(hv:rvl x.items (d+1)=0)(hv2:rvl x.els (d+1)=0)(hk:x.kind=4)(hz:eJ x≤1100000)(hl:(t.getD []).length+(aG k (cw x)).length≤140737488355328):
 Fun G 92 [.ptr i 0,vit x] σ (fun o σ'=>o=.ret (.tup [])∧σ'=σ.set i (pgc i (cI t (aG k (cw x))) k)):=by
 have hbig:=bU x;have he:bB x.ex=0:=by have:=ef hsh;rw[if_neg (by omega),if_neg (by omega),if_neg (by omega)]at this;exact this
 have hlns:cw x=(0,[105,102,32,40]++(aE x.ex++[41,32,123]))::(upL (lns x.items)++((if x.els.isEmpty=true then[]else(0,[125,32,101,108,115,101,32,123])::upL (lns x.els))++[(0,[125])])):=by
  rw[cX,if_neg (by omega),if_neg (by omega),if_neg (by omega),if_pos hk]
 rw[hlns,aH,a7,dm,a7,aH,a8,List.append_nil]at hl ⊢;have hi:i<σ.length:=(List.getElem?_eq_some_iff.1 hp.at_).1;have k1:=hp.k1;have hel:=eK x.els;have hpr:=fun σ=>lr he (by omega) σ;simp only[aI]at hpr;have fl:[bs [105,102,32,40],bs (aE x.ex),bs [41,32,123]].flatMap aO=[105,102,32,40]++(aE x.ex++[41,32,123]):=by simp[aO,aY]
 have fe:[bs [125,32,101,108,115,101,32,123]].flatMap aO=[125,32,101,108,115,101,32,123]:=by simp[aO,aY]
 generalize hH:(0,[105,102,32,40]++(aE x.ex++[41,32,123]))=H at hl ⊢;obtain⟨u,hu,hul⟩:=jx t k H;have hL1:=cY i t k [bs [105,102,32,40],bs (aE x.ex),bs [41,32,123]] (by omega) (by rw[fl,hH];simp only[List.length_append]at hl;omega) (by simp);rw[fl,hH,hu]at hL1;refine aq Tryz.func92 k92 (by simp only[aP];rfl) fun hb hw=>?_
 have endL:∀(v:Bs) (R:Bs),v.length+(lnT k (0,[125])).length≤140737488355328→cI t R=some v→∀X:List (List V),Fun G 28 [.ptr i 0,.d (bX [bs [125]])] (σ.set i (pgc i (some v) k)++X) (fun o σ'=>o=.ret (.tup [])∧σ'=σ.set i (pgc i (cI t (R++lnT k (0,[125]))) k)++X):=by
  intro v R hv hR X;have h3:=cY i (some v) k [bs [125]] (by omega) (by rw[f125,Option.getD_some];exact hv) (by simp) _ (bu σ X i _ hi);rw[aU _ _ _ _ _ hi,f125]at h3;exact h3.mono fun o σ' ⟨e1,e2⟩=>⟨e1,by rw[e2,←hR,ez]⟩
 unfold c92;simp -dsimp -implicitDefEqProofs only[aw,ah,V.copy,V.lend,V.lend1,V.cells,V.boxable,over,al,ae,ac,ai,V.plain,Nat.reduceLeDiff,cond_true,cond_false,implies_true,eq_self,ne_eq,reduceIte,reduceCtorEq,Nat.reduceBEq,Nat.reduceLT,Nat.reduceEqDiff,Nat.reduceAdd,Nat.reduceSub,Nat.reduceMul,aP,bt,ba];refine aD (hpr _) ?_;simp -dsimp -implicitDefEqProofs only[aw,ah,V.copy,V.lend,V.lend1,V.cells,V.boxable,over,al,ae,ac,ai,V.plain,Nat.reduceLeDiff,cond_true,cond_false,implies_true,eq_self,ne_eq,reduceIte,reduceCtorEq,Nat.reduceBEq,Nat.reduceLT,Nat.reduceEqDiff,Nat.reduceAdd,Nat.reduceSub,Nat.reduceMul,bt,ba];refine dv (hL1 _ (by rw[List.getElem?_append_left hi];exact hp.at_)) ?_ ?_
 ·simp -dsimp -implicitDefEqProofs only[aw,ah,V.copy,V.lend,V.lend1,V.cells,V.boxable,over,al,ae,ac,ai,V.plain,Nat.reduceLeDiff,cond_true,cond_false,implies_true,eq_self,ne_eq,reduceIte,reduceCtorEq,Nat.reduceBEq,Nat.reduceLT,Nat.reduceEqDiff,Nat.reduceAdd,Nat.reduceSub,Nat.reduceMul,bt,ba]
 rw[List.set_append_left _ _ hi];simp -dsimp -implicitDefEqProofs only[aw,ah,V.copy,V.lend,V.lend1,V.cells,V.boxable,over,al,ae,ac,ai,V.plain,Nat.reduceLeDiff,cond_true,cond_false,implies_true,eq_self,ne_eq,reduceIte,reduceCtorEq,Nat.reduceBEq,Nat.reduceLT,Nat.reduceEqDiff,Nat.reduceAdd,Nat.reduceSub,Nat.reduceMul,bt,ba];simp only[List.length_append]at hl;refine bQ (dZ i u (u++aG (k+1) (lns x.items)) k (by omega) _ _ _ (bu σ _ i _ hi) ?_) ?_
 ·rw[aU _ _ _ _ _ hi,aU _ _ _ _ _ hi];have:=zi σ.length (σ.length+1) i (some u) (k+1) x (d+1) (σ.set i (pgc i (some u) ((k+1:Nat):Int))++[[.ptr i 0],itC x]) IH hv (ba ..) (bt ..) (bu σ _ i _ hi) (by omega) (by rw[Option.getD_some];omega);rw[aU _ _ _ _ _ hi]at this;exact this
 rw[aU _ _ _ _ _ hi];have hu2:cI t (lnT k H++aG (k+1) (lns x.items))=some (u++aG (k+1) (lns x.items)):=by rw[←ez,hu];rfl
 by_cases hne:x.els=[]
 ·have hel0:x.els.isEmpty=true:=by rw[hne];rfl
  have h0:decide ((0:Int)<(x.els.length:Nat))=false:=by rw[hne];rfl
  rw[if_pos hel0,a8]at hl ⊢;simp -dsimp -implicitDefEqProofs only[aw,ah,V.copy,V.lend,V.lend1,V.cells,V.boxable,over,al,ae,ac,ai,V.plain,Nat.reduceLeDiff,cond_true,cond_false,implies_true,eq_self,ne_eq,reduceIte,reduceCtorEq,Nat.reduceBEq,Nat.reduceLT,Nat.reduceEqDiff,Nat.reduceAdd,Nat.reduceSub,Nat.reduceMul,bt,ba,List.length_map,h0];refine bQ (endL _ _ (by rw[List.length_append];omega) hu2 _) ?_;simp -dsimp -implicitDefEqProofs only[aw,ah,V.copy,V.lend,V.lend1,V.cells,V.boxable,over,al,ae,ac,ai,V.plain,Nat.reduceLeDiff,cond_true,cond_false,implies_true,eq_self,ne_eq,reduceIte,reduceCtorEq,Nat.reduceBEq,Nat.reduceLT,Nat.reduceEqDiff,Nat.reduceAdd,Nat.reduceSub,Nat.reduceMul];refine da (v:=.tup []) (k:=σ.length) (Nat.le_refl _) (List.take_left' (by simp)) (dF hb (bK hi)) rfl rfl ⟨rfl,?_⟩
  simp only[List.append_assoc,List.nil_append]
 ·have hel0:¬x.els.isEmpty=true:=by rw[List.isEmpty_iff];exact hne
  have hpos:0<x.els.length:=List.length_pos_iff.2 hne;have h0:decide ((0:Int)<(x.els.length:Nat))=true:=decide_eq_true (by omega);rw[if_neg hel0,aH,dm]at hl ⊢;simp only[List.length_append]at hl;have hL2:=cY i (some (u++aG (k+1) (lns x.items))) k [bs [125,32,101,108,115,101,32,123]] (by omega) (by rw[fe,Option.getD_some,List.length_append];omega) (by simp);rw[fe,fA,List.append_assoc]at hL2;have hc2:=fun S h1 h2 h3=>yo σ.length (σ.length+1) i (some (u++(aG (k+1) (lns x.items)++lnT k (0,[125,32,101,108,115,101,32,123])))) (k+1) x (d+1) S IH2 hv2 h1 h2 h3 (by omega) (by rw[Option.getD_some];simp only[List.length_append];omega)
  have hu4:cI t (lnT k H++(aG (k+1) (lns x.items)++(lnT k (0,[125,32,101,108,115,101,32,123])++aG (k+1) (lns x.els))))=some (u++(aG (k+1) (lns x.items)++(lnT k (0,[125,32,101,108,115,101,32,123])++aG (k+1) (lns x.els)))):=by rw[←ez,hu];rfl
  have e3:u++(aG (k+1) (lns x.items)++lnT k (0,[125,32,101,108,115,101,32,123]))++aG (k+1) (lns x.els)=u++(aG (k+1) (lns x.items)++(lnT k (0,[125,32,101,108,115,101,32,123])++aG (k+1) (lns x.els))):=by simp only[List.append_assoc]
  simp only[fA,e3]at hc2;generalize aG (k+1) (lns x.items)=I at *;generalize lnT k (0,[125,32,101,108,115,101,32,123])=E at *;generalize aG (k+1) (lns x.els)=L2 at *;simp -dsimp -implicitDefEqProofs only[aw,ah,V.copy,V.lend,V.lend1,V.cells,V.boxable,over,al,ae,ac,ai,V.plain,Nat.reduceLeDiff,cond_true,cond_false,implies_true,eq_self,ne_eq,reduceIte,reduceCtorEq,Nat.reduceBEq,Nat.reduceLT,Nat.reduceEqDiff,Nat.reduceAdd,Nat.reduceSub,Nat.reduceMul,bt,ba,List.length_map,h0];refine bQ (hL2 _ (bu σ _ i _ hi)) ?_;rw[aU _ _ _ _ _ hi]
  simp -dsimp -implicitDefEqProofs only[aw,ah,V.copy,V.lend,V.lend1,V.cells,V.boxable,over,al,ae,ac,ai,V.plain,Nat.reduceLeDiff,cond_true,cond_false,implies_true,eq_self,ne_eq,reduceIte,reduceCtorEq,Nat.reduceBEq,Nat.reduceLT,Nat.reduceEqDiff,Nat.reduceAdd,Nat.reduceSub,Nat.reduceMul,bt,ba];refine bQ (dZ i (u++(I++E)) (u++(I++(E++L2))) k (by omega) _ _ _ (bu σ _ i _ hi) ?_) ?_
  ·rw[aU _ _ _ _ _ hi,aU _ _ _ _ _ hi];have:=hc2 (σ.set i (pgc i (some (u++(I++E))) ((k+1:Nat):Int))++[[.ptr i 0],itC x]) (ba ..) (bt ..) (bu σ _ i _ hi);rw[aU _ _ _ _ _ hi]at this;exact this
  rw[aU _ _ _ _ _ hi];simp -dsimp -implicitDefEqProofs only[aw,ah,V.copy,V.lend,V.lend1,V.cells,V.boxable,over,al,ae,ac,ai,V.plain,Nat.reduceLeDiff,cond_true,cond_false,implies_true,eq_self,ne_eq,reduceIte,reduceCtorEq,Nat.reduceBEq,Nat.reduceLT,Nat.reduceEqDiff,Nat.reduceAdd,Nat.reduceSub,Nat.reduceMul,bt,ba];refine bQ (endL _ _ (by simp only[List.length_append];omega) hu4 _) ?_;simp -dsimp -implicitDefEqProofs only[aw,ah,V.copy,V.lend,V.lend1,V.cells,V.boxable,over,al,ae,ac,ai,V.plain,Nat.reduceLeDiff,cond_true,cond_false,implies_true,eq_self,ne_eq,reduceIte,reduceCtorEq,Nat.reduceBEq,Nat.reduceLT,Nat.reduceEqDiff,Nat.reduceAdd,Nat.reduceSub,Nat.reduceMul];refine da (v:=.tup []) (k:=σ.length) (Nat.le_refl _) (List.take_left' (by simp)) (dF hb (bK hi)) rfl rfl ⟨rfl,?_⟩;simp only[List.append_assoc]
end
theorem vB(x:It)(r:List It):lns (x::r)=cw x++lns r:=by rw[lns]
theorem iW(l:List It){j:Nat}(h:j<l.length):lns (l.take (j+1))=lns (l.take j)++cw l[j]:=by
 rw[List.take_succ_eq_append_getElem h,nU,vB];simp[lns]
set_option maxHeartbeats 4000000 in
theorem pN(l:List It)(hbig:bG l≤1100000)(IH:∀x,x∈l→io x.items∧io x.els):io l:=by
 intro d hv i t k σ hs hk hl;have hi:i<σ.length:=(List.getElem?_eq_some_iff.1 hs).1;have hll:l.length≤bG l:=eK l;refine aq Tryz.func39 k39 rfl fun hb hw=>?_;unfold c39;simp -dsimp -implicitDefEqProofs only[aw,ah,V.copy,V.lend,V.lend1,V.cells,V.boxable,over,al,ae,ac,ai,V.plain,Nat.reduceLeDiff,cond_true,cond_false,implies_true,eq_self,ne_eq,reduceIte,reduceCtorEq,Nat.reduceBEq,Nat.reduceLT,Nat.reduceEqDiff,Nat.reduceAdd,Nat.reduceSub,Nat.reduceMul,eO,List.length_map];refine aT [0,6,7,8] (fun(j:Nat) ρ σ'=>ρ=[(0,.ptr i 0),(6,.d (.sl (l.map dit))),(7,aK .i64 l.length),(8,aK .i64 j)]∧σ'=σ.set i (pgc i (cI t (aG k (lns (l.take j)))) k)) l.length ⟨rfl,by rw[List.take_zero,lns,a8,wu,ve hs]⟩ ?_ _;rintro j ρ' σ' hj ⟨rfl,rfl⟩
 have bbt:∀t,aC (σ.set i (pgc i t k)).length (σ.set i (pgc i t k))=true:=fun t=>by
  rw[List.length_set];exact dF hb (bK hi)
 by_cases hlt:j<l.length
 ·have hx:=List.getElem_mem hlt;have wj:=aJ hlt (show l.length≤9223372036854775807 by omega);obtain⟨s1,s2,s3⟩:=lB hv hx;obtain⟨hk6,-,hd4⟩:=fW s1;obtain⟨I1,I2⟩:=IH _ hx;have hxb:=dh hx;have hzb:=bU l[j]
  have hlen:∀m,(aG k (lns (l.take m))).length≤(aG k (lns l)).length:=fun m=>by
   have h:=congrArg (fun q=>(aG k (lns q)).length) (List.take_append_drop m l);simp only[nU,a7,List.length_append]at h;omega
  have hlj:=hlen (j+1);rw[iW l hlt,a7,List.length_append]at hlj;have hn:cI t (aG k (lns (l.take (j+1))))=cI (cI t (aG k (lns (l.take j)))) (aG k (cw l[j])):=by rw[iW l hlt,a7,ez]
  have hlx:=uB t (aG k (lns (l.take j)));rw[hn];generalize hT:cI t (aG k (lns (l.take j)))=T at *;have hdx:=eE l[j];have hget:(l.map dit)[j]? = some (dit l[j]):=by rw[List.getElem?_map,List.getElem?_eq_getElem hlt];rfl
  generalize l[j]=x at *
  have hone:∀S:List (List V),S[i]? = some (pgc i T k)→Fun G (wrF x.kind) [.ptr i 0,vit x] S (fun o σ'=>o=.ret (.tup [])∧σ'=S.set i (pgc i (cI T (aG k (cw x))) k)):=by
   intro S hS;have hP:PgOk S i T k:=⟨hS,by omega⟩
   unfold wrF;by_cases h2:x.kind=2
   ·rw[if_pos h2];exact uy i T k x d S hP s1 h2 (by omega) (by omega)
   rw[if_neg h2];by_cases h3:x.kind=3
   ·rw[if_pos h3];exact sX i T k x d S hP s1 h3 (by omega) (by omega)
   rw[if_neg h3];by_cases h4:x.kind=4
   ·rw[if_pos h4];exact pj i T k x d S I1 I2 hP hk s1 s2 s3 h4 (by omega) (by omega)
   rw[if_neg h4];by_cases h5:x.kind=5
   ·rw[if_pos h5];exact sQ i T k x d S I1 hP hk s1 s2 h5 (by omega)
   rw[if_neg h5];by_cases h6:x.kind=6
   ·rw[if_pos h6];exact qX i T k x d S hP s1 h6 (by omega) (by omega)
   rw[if_neg h6];exact xi i T k x d S hP s1 (by omega) (by omega) (by omega)
  simp only[aP]at hone;simp -dsimp -implicitDefEqProofs only[aw,ah,V.copy,V.lend,V.lend1,V.cells,V.boxable,over,al,ae,ac,ai,V.plain,Nat.reduceLeDiff,cond_true,cond_false,implies_true,eq_self,ne_eq,reduceIte,reduceCtorEq,Nat.reduceBEq,Nat.reduceLT,Nat.reduceEqDiff,Nat.reduceAdd,Nat.reduceSub,Nat.reduceMul,Int.ofNat_lt,hlt,decide_true,List.getElem?_eq_getElem hlt,hget,hdx,List.map_cons,List.map_nil,nQ,ba,fU,List.length_set];refine aD (qo x.kind _) ?_;simp -dsimp -implicitDefEqProofs only[aw,ah,V.copy,V.lend,V.lend1,V.cells,V.boxable,over,al,ae,ac,ai,V.plain,Nat.reduceLeDiff,cond_true,cond_false,implies_true,eq_self,ne_eq,reduceIte,reduceCtorEq,Nat.reduceBEq,Nat.reduceLT,Nat.reduceEqDiff,Nat.reduceAdd,Nat.reduceSub,Nat.reduceMul,ba,List.length_set,nQ]
  refine dv (hone _ (bu σ _ i _ hi)) ?_ ?_
  ·simp -dsimp -implicitDefEqProofs only[aw,ah,V.copy,V.lend,V.lend1,V.cells,V.boxable,over,al,ae,ac,ai,V.plain,Nat.reduceLeDiff,cond_true,cond_false,implies_true,eq_self,ne_eq,reduceIte,reduceCtorEq,Nat.reduceBEq,Nat.reduceLT,Nat.reduceEqDiff,Nat.reduceAdd,Nat.reduceSub,Nat.reduceMul]
  rw[aU _ _ _ _ _ hi];simp -dsimp -implicitDefEqProofs only[aw,ah,V.copy,V.lend,V.lend1,V.cells,V.boxable,over,al,ae,ac,ai,V.plain,Nat.reduceLeDiff,cond_true,cond_false,implies_true,eq_self,ne_eq,reduceIte,reduceCtorEq,Nat.reduceBEq,Nat.reduceLT,Nat.reduceEqDiff,Nat.reduceAdd,Nat.reduceSub,Nat.reduceMul,wj];exact⟨hlt,Nxt.drop (l:=[_]) (by simp) (bbt _) (by simp[au,V.under];exact hi) ⟨rfl,rfl⟩⟩
 ·simp -dsimp -implicitDefEqProofs only[aw,ah,V.copy,V.lend,V.lend1,V.cells,V.boxable,over,al,ae,ac,ai,V.plain,Nat.reduceLeDiff,cond_true,cond_false,implies_true,eq_self,ne_eq,reduceIte,reduceCtorEq,Nat.reduceBEq,Nat.reduceLT,Nat.reduceEqDiff,Nat.reduceAdd,Nat.reduceSub,Nat.reduceMul,Int.ofNat_lt,hlt,decide_false];rw[List.take_of_length_le (by omega)];exact da (v:=.tup []) (k:=σ.length) (Nat.le_refl _) (List.take_of_length_le (by simp)) (dF hb (bK hi)) rfl rfl ⟨rfl,rfl⟩
end Go.Proofs.YtcbahpllcfbkmaaGreatDoor
