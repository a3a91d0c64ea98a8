import Derived.Test.YtcbahpllcfbkmaaGreatDoorCw9
set_option linter.unusedVariables false
set_option linter.unusedSimpArgs false
set_option linter.unusedSectionVars false
namespace Go.Proofs.YtcbahpllcfbkmaaGreatDoor
open Go.RowKit
def oD(c:Kl):Bs:=if iR c=true then tl c else[]
set_option maxHeartbeats 8000000 in
theorem rU(c:Kl)(hk:nZ c≤1100000)(hf:c.flds.length≤1200000)(hbk:c.blks.length≤1200000)(σ:List (List V)):Fun G 13 [vkl c] σ (a7 (.d (am (bs (oD c)))) σ):=by
 refine ax Tryz.func13 k13 rfl fun hb hw=>?_;unfold c13 oD;simp -dsimp -implicitDefEqProofs only[aw,ah,V.copy,V.lend,V.lend1,V.cells,V.boxable,over,ak,ae,ac,ai,V.plain,Nat.reduceLeDiff,cond_true,cond_false,implies_true,eq_self,ne_eq,reduceIte,reduceCtorEq,Nat.reduceBEq,Nat.reduceLT,Nat.reduceEqDiff,Nat.reduceAdd,Nat.reduceSub,Nat.reduceMul];refine an (lj c hk hf hbk _) ?_;cases hp:iR c with
 | false=>
  rw[if_neg (by simp)];simp -dsimp -implicitDefEqProofs only[aw,ah,V.copy,V.lend,V.lend1,V.cells,V.boxable,over,ak,ae,ac,ai,V.plain,Nat.reduceLeDiff,cond_true,cond_false,implies_true,eq_self,ne_eq,reduceIte,reduceCtorEq,Nat.reduceBEq,Nat.reduceLT,Nat.reduceEqDiff,Nat.reduceAdd,Nat.reduceSub,Nat.reduceMul];first|exact aj hb rfl rfl List.take_length ⟨rfl,rfl⟩|exact aj hb rfl rfl List.take_left ⟨rfl,rfl⟩|(trace_state;fail "fin")
 | true=>
 have hv:=(o7 c).1 hp;have hn:=pe hv.cls;have hlen:=xN hv hk;rw[if_pos rfl]
 have hcl:tl c=lnT 0 (0,[99,108,97,115,115,32]++(aQ c.name++(oF c.par++[32,123])))++(aO 1 (e8 c.flds++c.blks.flatMap dX)++lnT 0 (0,[125])):=by
  unfold tl Ax;rw[aX,bw,eN,aX,bz,List.append_nil];rfl
 obtain⟨S,hS⟩:∃S,S=oF c.par:=⟨_,rfl⟩
 rw[←hS]at hcl;have fl:[bs [99,108,97,115,115,32],c.name,bs S,bs [32,123]].flatMap aQ=[99,108,97,115,115,32]++(aQ c.name++(S++[32,123])):=by simp[aQ,bt]
 rw[hcl]at hlen ⊢;simp only[List.length_append]at hlen;have hL:=fun i S' h=>cF i none 0 [bs [99,108,97,115,115,32],c.name,bs S,bs [32,123]] (by omega) (by rw[fl];show 0+(lnT 0 (0,[99,108,97,115,115,32]++(aQ c.name++(S++[32,123])))).length≤_;omega) (by simp) S' h;rw[fl]at hL;generalize hH:lnT 0 (0,[99,108,97,115,115,32]++(aQ c.name++(S++[32,123])))=H at *;have hHne:H≠[]:=by rw[←hH];exact qt _ _
 have hadd:ca none H=some H:=by rw[←mZ none hHne];rfl
 rw[hadd]at hL;have hB:=fun a b i S' h1 h2 h3=>xA a b i H 1 c S' hv hk h1 h2 h3 (by omega) (by omega);generalize hX:aO 1 (e8 c.flds++c.blks.flatMap dX)=X at *;have hE:=fun i S' h=>cF i (some (H++X)) 0 [bs [125]] (by omega) (by rw[f125,Option.getD_some,List.length_append];omega) (by simp) S' h;rw[f125,fg]at hE;generalize hY:lnT 0 (0,[125])=Y at *;have hT:=fun i S' h=>nC i (some (H++(X++Y))) ((0:Nat):Int) (by simp;intro h;exact absurd h hHne) (by rw[Option.getD_some];simp only[List.length_append];omega) S' h;rw[Option.getD_some]at hT
 have seg:∀A B E Z:List V,(σ++[A,B,E]).set (σ.length+1) Z=σ++[A,Z,E]:=fun A B E Z=>by
  rw[List.set_append_right _ _ (by omega),show σ.length+1-σ.length=1 by omega];rfl
 have at1:∀A B E:List V,(σ++[A,B,E])[σ.length+1]? = some B:=fun A B E=>by
  rw[List.getElem?_append_right (by omega),show σ.length+1-σ.length=1 by omega];rfl
 have at2:∀A B E:List V,(σ++[A,B,E])[σ.length+1+1]? = some E:=fun A B E=>by
  rw[List.getElem?_append_right (by omega),show σ.length+1+1-σ.length=2 by omega];rfl
 have seg2:∀A B E Z:List V,(σ++[A,B,E]).set (σ.length+1+1) Z=σ++[A,B,Z]:=fun A B E Z=>by
  rw[List.set_append_right _ _ (by omega),show σ.length+1+1-σ.length=2 by omega];rfl
 have at0:∀A B E:List V,(σ++[A,B,E])[σ.length]? = some A:=fun A B E=>by
  rw[List.getElem?_append_right (by omega),Nat.sub_self];rfl
 by_cases he:c.par=⟨#[]⟩
 ·have hS0:S=[]:=by rw[hS];unfold oF;rw[if_pos he]
  subst hS0;simp -dsimp -implicitDefEqProofs only[aw,ah,V.copy,V.lend,V.lend1,V.cells,V.boxable,over,ak,ae,ac,ai,V.plain,Nat.reduceLeDiff,cond_true,cond_false,implies_true,eq_self,ne_eq,reduceIte,reduceCtorEq,Nat.reduceBEq,Nat.reduceLT,Nat.reduceEqDiff,Nat.reduceAdd,Nat.reduceSub,Nat.reduceMul,seg2,at0,at1,at2,decide_eq_true he];refine bG (hL _ _ (at1 _ _ _)) ?_;rw[seg];simp -dsimp -implicitDefEqProofs only[aw,ah,V.copy,V.lend,V.lend1,V.cells,V.boxable,over,ak,ae,ac,ai,V.plain,Nat.reduceLeDiff,cond_true,cond_false,implies_true,eq_self,ne_eq,reduceIte,reduceCtorEq,Nat.reduceBEq,Nat.reduceLT,Nat.reduceEqDiff,Nat.reduceAdd,Nat.reduceSub,Nat.reduceMul,seg2,at0,at1,at2];refine bG (dz (σ.length+1) H (H++X) 0 (by omega) _ _ _ (at1 _ _ _) ?_) ?_
  ·rw[seg,seg];have:=hB σ.length (σ.length+1+1) (σ.length+1) (σ++[[.d (am c.name),.d (am c.par),.d (.sl (c.flds.map dfl)),.d (.sl (c.blks.map dbk))],pgc (σ.length+1) (some H) ((0+1:Nat):Int),[.ptr (σ.length+1) 0]]) (at0 _ _ _) (at2 _ _ _) (at1 _ _ _);rw[seg]at this;exact this
  rw[seg];simp -dsimp -implicitDefEqProofs only[aw,ah,V.copy,V.lend,V.lend1,V.cells,V.boxable,over,ak,ae,ac,ai,V.plain,Nat.reduceLeDiff,cond_true,cond_false,implies_true,eq_self,ne_eq,reduceIte,reduceCtorEq,Nat.reduceBEq,Nat.reduceLT,Nat.reduceEqDiff,Nat.reduceAdd,Nat.reduceSub,Nat.reduceMul,seg2,at0,at1,at2];refine bG (hE _ _ (at1 _ _ _)) ?_;rw[seg];simp -dsimp -implicitDefEqProofs only[aw,ah,V.copy,V.lend,V.lend1,V.cells,V.boxable,over,ak,ae,ac,ai,V.plain,Nat.reduceLeDiff,cond_true,cond_false,implies_true,eq_self,ne_eq,reduceIte,reduceCtorEq,Nat.reduceBEq,Nat.reduceLT,Nat.reduceEqDiff,Nat.reduceAdd,Nat.reduceSub,Nat.reduceMul,seg2,at0,at1,at2];refine bG (hT _ _ (at1 _ _ _)) ?_;rw[seg]
  simp -dsimp -implicitDefEqProofs only[aw,ah,V.copy,V.lend,V.lend1,V.cells,V.boxable,over,ak,ae,ac,ai,V.plain,Nat.reduceLeDiff,cond_true,cond_false,implies_true,eq_self,ne_eq,reduceIte,reduceCtorEq,Nat.reduceBEq,Nat.reduceLT,Nat.reduceEqDiff,Nat.reduceAdd,Nat.reduceSub,Nat.reduceMul];exact aj hb rfl rfl List.take_left ⟨rfl,rfl⟩
 ·have hS0:S=[32,101,120,116,101,110,100,115,32]++aQ c.par:=by rw[hS];unfold oF;rw[if_neg he]
  have hpl:=bV (hn.par.resolve_left he);have hps:c.par.size=c.par.data.toList.length:=rfl
  have hs:aY .add (V.d (am ⟨#[32,101,120,116,101,110,100,115,32]⟩)) (V.d (am c.par))=some (V.d (am (bs S))):=by
   have:=bE [32,101,120,116,101,110,100,115,32] (aQ c.par) (by simp[aQ];omega);rw[←hS0]at this;unfold aQ at this;rw[dJ]at this;exact this
  simp -dsimp -implicitDefEqProofs only[aw,ah,V.copy,V.lend,V.lend1,V.cells,V.boxable,over,ak,ae,ac,ai,V.plain,Nat.reduceLeDiff,cond_true,cond_false,implies_true,eq_self,ne_eq,reduceIte,reduceCtorEq,Nat.reduceBEq,Nat.reduceLT,Nat.reduceEqDiff,Nat.reduceAdd,Nat.reduceSub,Nat.reduceMul,seg2,at0,at1,at2,decide_eq_false he,hs];refine bG (hL _ _ (at1 _ _ _)) ?_;rw[seg];simp -dsimp -implicitDefEqProofs only[aw,ah,V.copy,V.lend,V.lend1,V.cells,V.boxable,over,ak,ae,ac,ai,V.plain,Nat.reduceLeDiff,cond_true,cond_false,implies_true,eq_self,ne_eq,reduceIte,reduceCtorEq,Nat.reduceBEq,Nat.reduceLT,Nat.reduceEqDiff,Nat.reduceAdd,Nat.reduceSub,Nat.reduceMul,seg2,at0,at1,at2];refine bG (dz (σ.length+1) H (H++X) 0 (by omega) _ _ _ (at1 _ _ _) ?_) ?_
  ·rw[seg,seg];have:=hB σ.length (σ.length+1+1) (σ.length+1) (σ++[[.d (am c.name),.d (am c.par),.d (.sl (c.flds.map dfl)),.d (.sl (c.blks.map dbk))],pgc (σ.length+1) (some H) ((0+1:Nat):Int),[.ptr (σ.length+1) 0]]) (at0 _ _ _) (at2 _ _ _) (at1 _ _ _);rw[seg]at this;exact this
  rw[seg];simp -dsimp -implicitDefEqProofs only[aw,ah,V.copy,V.lend,V.lend1,V.cells,V.boxable,over,ak,ae,ac,ai,V.plain,Nat.reduceLeDiff,cond_true,cond_false,implies_true,eq_self,ne_eq,reduceIte,reduceCtorEq,Nat.reduceBEq,Nat.reduceLT,Nat.reduceEqDiff,Nat.reduceAdd,Nat.reduceSub,Nat.reduceMul,seg2,at0,at1,at2];refine bG (hE _ _ (at1 _ _ _)) ?_;rw[seg];simp -dsimp -implicitDefEqProofs only[aw,ah,V.copy,V.lend,V.lend1,V.cells,V.boxable,over,ak,ae,ac,ai,V.plain,Nat.reduceLeDiff,cond_true,cond_false,implies_true,eq_self,ne_eq,reduceIte,reduceCtorEq,Nat.reduceBEq,Nat.reduceLT,Nat.reduceEqDiff,Nat.reduceAdd,Nat.reduceSub,Nat.reduceMul,seg2,at0,at1,at2];refine bG (hT _ _ (at1 _ _ _)) ?_;rw[seg]
  simp -dsimp -implicitDefEqProofs only[aw,ah,V.copy,V.lend,V.lend1,V.cells,V.boxable,over,ak,ae,ac,ai,V.plain,Nat.reduceLeDiff,cond_true,cond_false,implies_true,eq_self,ne_eq,reduceIte,reduceCtorEq,Nat.reduceBEq,Nat.reduceLT,Nat.reduceEqDiff,Nat.reduceAdd,Nat.reduceSub,Nat.reduceMul];exact aj hb rfl rfl List.take_left ⟨rfl,rfl⟩
def exE:Ex:=.mk 17 0 ⟨#[]⟩ [.mk 2 0 ⟨#[107,105,110,100]⟩ [],.mk 1 3 ⟨#[]⟩ []]
def exI:It:=.mk 1 exE ⟨#[]⟩ ⟨#[]⟩ [] [] [] [] []
def exK:Kl:=⟨⟨#[112]⟩,⟨#[98,97,115,101]⟩,[⟨⟨#[107,105,110,100]⟩,2,0,1,0⟩],[(⟨#[108,101,103,97,108]⟩,[exI])]⟩
def exW:List Wt:=[⟨0,0,2,true⟩,⟨1,3,6,false⟩]
theorem Az:bs (jf exW)=⟨#[48,32,58,61,32,50,44,32,49,32,46,46,32,51,32,58,47,32,54]⟩:=by kernel_rfl
theorem ur:bs (oD exK)=⟨#[99,108,97,115,115,32,112,32,101,120,116,101,110,100,115,32,98,97,115,101,32,123,10,32,32,32,32,114,97,110,100,32,107,105,110,100,32,58,32,50,59,10,32,32,32,32,99,111,110,115,116,114,97,105,110,116,32,108,101,103,97,108,32,123,10,32,32,32,32,32,32,32,32,107,105,110,100,32,60,32,51,59,10,32,32,32,32,125,10,125,10]⟩:=by kernel_rfl
set_option maxHeartbeats 4000000 in
theorem iZ(σ:List (List V)):Fun G 12 [] σ (a7 (av true) σ):=by
 have f1:=fun σ=>gI exW (fun w hw=>by
  rcases List.mem_cons.1 hw with rfl|hw
  ·exact⟨by decide,by decide,by decide,by decide,by decide,by decide⟩
  ·rw[List.mem_singleton.1 hw];exact⟨by decide,by decide,by decide,by decide,by decide,by decide⟩) (by decide) σ
 have f2:=fun σ=>rU exK (by decide) (by decide) (by decide) σ;rw[Az]at f1;rw[ur]at f2;refine ax Tryz.func12 k12 rfl fun hb hw=>?_;unfold c12;simp -dsimp -implicitDefEqProofs only[aw,ah,V.copy,V.lend,V.lend1,V.cells,V.boxable,over,ak,ae,ac,ai,V.plain,Nat.reduceLeDiff,cond_true,cond_false,implies_true,eq_self,ne_eq,reduceIte,reduceCtorEq,Nat.reduceBEq,Nat.reduceLT,Nat.reduceEqDiff,Nat.reduceAdd,Nat.reduceSub,Nat.reduceMul];refine an (f1 _) ?_;simp -dsimp -implicitDefEqProofs only[aw,ah,V.copy,V.lend,V.lend1,V.cells,V.boxable,over,ak,ae,ac,ai,V.plain,Nat.reduceLeDiff,cond_true,cond_false,implies_true,eq_self,ne_eq,reduceIte,reduceCtorEq,Nat.reduceBEq,Nat.reduceLT,Nat.reduceEqDiff,Nat.reduceAdd,Nat.reduceSub,Nat.reduceMul,decide_true];refine an (f2 _) ?_
 simp -dsimp -implicitDefEqProofs only[aw,ah,V.copy,V.lend,V.lend1,V.cells,V.boxable,over,ak,ae,ac,ai,V.plain,Nat.reduceLeDiff,cond_true,cond_false,implies_true,eq_self,ne_eq,reduceIte,reduceCtorEq,Nat.reduceBEq,Nat.reduceLT,Nat.reduceEqDiff,Nat.reduceAdd,Nat.reduceSub,Nat.reduceMul,decide_true];first|exact aj hb rfl rfl List.take_length ⟨rfl,rfl⟩|exact aj hb rfl rfl List.take_left ⟨rfl,rfl⟩|(trace_state;fail "fin")
end Go.Proofs.YtcbahpllcfbkmaaGreatDoor
