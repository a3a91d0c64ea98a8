import Derived.Test.YtcbahpllcfbkmaaGreatDoorCw9
set_option linter.unusedVariables false
set_option linter.unusedSimpArgs false
set_option linter.unusedSectionVars false
namespace Go.Proofs.YtcbahpllcfbkmaaGreatDoor
open Go.RowKit
def jU(c:Kl):Bs:=if em c=true then jZ c else[]
set_option maxHeartbeats 8000000 in
theorem lB(c:Kl)(hk:jQ c≤1100000)(hf:c.flds.length≤1200000)(hbk:c.blks.length≤1200000)(σ:List (List V)):Fun G 13 [vkl c] σ (aZ (.d (an (bs (jU c)))) σ):=by
 refine ay Tryz.func13 k13 rfl fun hb hw=>?_;unfold c13 jU;simp -dsimp -implicitDefEqProofs only[aw,ah,V.copy,V.lend,V.lend1,V.cells,V.boxable,over,ak,ae,ac,ai,V.plain,Nat.reduceLeDiff,cond_true,cond_false,implies_true,eq_self,ne_eq,reduceIte,reduceCtorEq,Nat.reduceBEq,Nat.reduceLT,Nat.reduceEqDiff,Nat.reduceAdd,Nat.reduceSub,Nat.reduceMul];refine aq (oa c hk hf hbk _) ?_;cases hp:em c with
 | false=>
  rw[if_neg (by simp)];simp -dsimp -implicitDefEqProofs only[aw,ah,V.copy,V.lend,V.lend1,V.cells,V.boxable,over,ak,ae,ac,ai,V.plain,Nat.reduceLeDiff,cond_true,cond_false,implies_true,eq_self,ne_eq,reduceIte,reduceCtorEq,Nat.reduceBEq,Nat.reduceLT,Nat.reduceEqDiff,Nat.reduceAdd,Nat.reduceSub,Nat.reduceMul];first|exact aj hb rfl rfl List.take_length ⟨rfl,rfl⟩|exact aj hb rfl rfl List.take_left ⟨rfl,rfl⟩|(trace_state;fail "fin")
 | true=>
 have hv:=(jY c).1 hp;have hn:=pH hv.cls;have hlen:=CA hv hk;rw[if_pos rfl]
 have hcl:jZ c=lnT 0 (0,[99,108,97,115,115,32]++(aG c.name++(jD c.par++[32,123])))++(aX 1 (gy c.flds++c.blks.flatMap di)++lnT 0 (0,[125])):=by
  unfold jZ Bg;rw[bc,bK,ga,bc,bE,List.append_nil];rfl
 obtain⟨S,hS⟩:∃S,S=jD c.par:=⟨_,rfl⟩
 rw[←hS]at hcl;have fl:[bs [99,108,97,115,115,32],c.name,bs S,bs [32,123]].flatMap aG=[99,108,97,115,115,32]++(aG c.name++(S++[32,123])):=by simp[aG,bH]
 rw[hcl]at hlen ⊢;simp only[List.length_append]at hlen;have hL:=fun i S' h=>dg i none 0 [bs [99,108,97,115,115,32],c.name,bs S,bs [32,123]] (by omega) (by rw[fl];show 0+(lnT 0 (0,[99,108,97,115,115,32]++(aG c.name++(S++[32,123])))).length≤_;omega) (by simp) S' h;rw[fl]at hL;generalize hH:lnT 0 (0,[99,108,97,115,115,32]++(aG c.name++(S++[32,123])))=H at *;have hHne:H≠[]:=by rw[←hH];exact ux _ _
 have hadd:cP none H=some H:=by rw[←qn none hHne];rfl
 rw[hadd]at hL;have hB:=fun a b i S' h1 h2 h3=>Cy a b i H 1 c S' hv hk h1 h2 h3 (by omega) (by omega);generalize hX:aX 1 (gy c.flds++c.blks.flatMap di)=X at *;have hE:=fun i S' h=>dg i (some (H++X)) 0 [bs [125]] (by omega) (by rw[f125,Option.getD_some,List.length_append];omega) (by simp) S' h;rw[f125,gL]at hE;generalize hY:lnT 0 (0,[125])=Y at *;have hT:=fun i S' h=>Aa i (some (H++(X++Y))) ((0:Nat):Int) (by simp;intro h;exact absurd h hHne) (by rw[Option.getD_some];simp only[List.length_append];omega) S' h;rw[Option.getD_some]at hT
 have seg:∀A B E Z:List V,(σ++[A,B,E]).set (σ.length+1) Z=σ++[A,Z,E]:=fun A B E Z=>by
  rw[List.set_append_right _ _ (by omega),show σ.length+1-σ.length=1 by omega];rfl
 have at1:∀A B E:List V,(σ++[A,B,E])[σ.length+1]? = some B:=fun A B E=>by
  rw[List.getElem?_append_right (by omega),show σ.length+1-σ.length=1 by omega];rfl
 have at2:∀A B E:List V,(σ++[A,B,E])[σ.length+1+1]? = some E:=fun A B E=>by
  rw[List.getElem?_append_right (by omega),show σ.length+1+1-σ.length=2 by omega];rfl
 have seg2:∀A B E Z:List V,(σ++[A,B,E]).set (σ.length+1+1) Z=σ++[A,B,Z]:=fun A B E Z=>by
  rw[List.set_append_right _ _ (by omega),show σ.length+1+1-σ.length=2 by omega];rfl
 have at0:∀A B E:List V,(σ++[A,B,E])[σ.length]? = some A:=fun A B E=>by
  rw[List.getElem?_append_right (by omega),Nat.sub_self];rfl
 by_cases he:c.par=⟨#[]⟩
 ·have hS0:S=[]:=by rw[hS];unfold jD;rw[if_pos he]
  subst hS0;simp -dsimp -implicitDefEqProofs only[aw,ah,V.copy,V.lend,V.lend1,V.cells,V.boxable,over,ak,ae,ac,ai,V.plain,Nat.reduceLeDiff,cond_true,cond_false,implies_true,eq_self,ne_eq,reduceIte,reduceCtorEq,Nat.reduceBEq,Nat.reduceLT,Nat.reduceEqDiff,Nat.reduceAdd,Nat.reduceSub,Nat.reduceMul,seg2,at0,at1,at2,decide_eq_true he];refine bV (hL _ _ (at1 _ _ _)) ?_;rw[seg];simp -dsimp -implicitDefEqProofs only[aw,ah,V.copy,V.lend,V.lend1,V.cells,V.boxable,over,ak,ae,ac,ai,V.plain,Nat.reduceLeDiff,cond_true,cond_false,implies_true,eq_self,ne_eq,reduceIte,reduceCtorEq,Nat.reduceBEq,Nat.reduceLT,Nat.reduceEqDiff,Nat.reduceAdd,Nat.reduceSub,Nat.reduceMul,seg2,at0,at1,at2];refine bV (eH (σ.length+1) H (H++X) 0 (by omega) _ _ _ (at1 _ _ _) ?_) ?_
  ·rw[seg,seg];have:=hB σ.length (σ.length+1+1) (σ.length+1) (σ++[[.d (an c.name),.d (an c.par),.d (.sl (c.flds.map dfl)),.d (.sl (c.blks.map dbk))],pgc (σ.length+1) (some H) ((0+1:Nat):Int),[.ptr (σ.length+1) 0]]) (at0 _ _ _) (at2 _ _ _) (at1 _ _ _);rw[seg]at this;exact this
  rw[seg];simp -dsimp -implicitDefEqProofs only[aw,ah,V.copy,V.lend,V.lend1,V.cells,V.boxable,over,ak,ae,ac,ai,V.plain,Nat.reduceLeDiff,cond_true,cond_false,implies_true,eq_self,ne_eq,reduceIte,reduceCtorEq,Nat.reduceBEq,Nat.reduceLT,Nat.reduceEqDiff,Nat.reduceAdd,Nat.reduceSub,Nat.reduceMul,seg2,at0,at1,at2];refine bV (hE _ _ (at1 _ _ _)) ?_;rw[seg];simp -dsimp -implicitDefEqProofs only[aw,ah,V.copy,V.lend,V.lend1,V.cells,V.boxable,over,ak,ae,ac,ai,V.plain,Nat.reduceLeDiff,cond_true,cond_false,implies_true,eq_self,ne_eq,reduceIte,reduceCtorEq,Nat.reduceBEq,Nat.reduceLT,Nat.reduceEqDiff,Nat.reduceAdd,Nat.reduceSub,Nat.reduceMul,seg2,at0,at1,at2];refine bV (hT _ _ (at1 _ _ _)) ?_;rw[seg]
  simp -dsimp -implicitDefEqProofs only[aw,ah,V.copy,V.lend,V.lend1,V.cells,V.boxable,over,ak,ae,ac,ai,V.plain,Nat.reduceLeDiff,cond_true,cond_false,implies_true,eq_self,ne_eq,reduceIte,reduceCtorEq,Nat.reduceBEq,Nat.reduceLT,Nat.reduceEqDiff,Nat.reduceAdd,Nat.reduceSub,Nat.reduceMul];exact aj hb rfl rfl List.take_left ⟨rfl,rfl⟩
 ·have hS0:S=[32,101,120,116,101,110,100,115,32]++aG c.par:=by rw[hS];unfold jD;rw[if_neg he]
  have hpl:=cq (hn.par.resolve_left he);have hps:c.par.size=c.par.data.toList.length:=rfl
  have hs:bg .add (V.d (an ⟨#[32,101,120,116,101,110,100,115,32]⟩)) (V.d (an c.par))=some (V.d (an (bs S))):=by
   have:=bJ [32,101,120,116,101,110,100,115,32] (aG c.par) (by simp[aG];omega);rw[←hS0]at this;unfold aG at this;rw[eU]at this;exact this
  simp -dsimp -implicitDefEqProofs only[aw,ah,V.copy,V.lend,V.lend1,V.cells,V.boxable,over,ak,ae,ac,ai,V.plain,Nat.reduceLeDiff,cond_true,cond_false,implies_true,eq_self,ne_eq,reduceIte,reduceCtorEq,Nat.reduceBEq,Nat.reduceLT,Nat.reduceEqDiff,Nat.reduceAdd,Nat.reduceSub,Nat.reduceMul,seg2,at0,at1,at2,decide_eq_false he,hs];refine bV (hL _ _ (at1 _ _ _)) ?_;rw[seg];simp -dsimp -implicitDefEqProofs only[aw,ah,V.copy,V.lend,V.lend1,V.cells,V.boxable,over,ak,ae,ac,ai,V.plain,Nat.reduceLeDiff,cond_true,cond_false,implies_true,eq_self,ne_eq,reduceIte,reduceCtorEq,Nat.reduceBEq,Nat.reduceLT,Nat.reduceEqDiff,Nat.reduceAdd,Nat.reduceSub,Nat.reduceMul,seg2,at0,at1,at2];refine bV (eH (σ.length+1) H (H++X) 0 (by omega) _ _ _ (at1 _ _ _) ?_) ?_
  ·rw[seg,seg];have:=hB σ.length (σ.length+1+1) (σ.length+1) (σ++[[.d (an c.name),.d (an c.par),.d (.sl (c.flds.map dfl)),.d (.sl (c.blks.map dbk))],pgc (σ.length+1) (some H) ((0+1:Nat):Int),[.ptr (σ.length+1) 0]]) (at0 _ _ _) (at2 _ _ _) (at1 _ _ _);rw[seg]at this;exact this
  rw[seg];simp -dsimp -implicitDefEqProofs only[aw,ah,V.copy,V.lend,V.lend1,V.cells,V.boxable,over,ak,ae,ac,ai,V.plain,Nat.reduceLeDiff,cond_true,cond_false,implies_true,eq_self,ne_eq,reduceIte,reduceCtorEq,Nat.reduceBEq,Nat.reduceLT,Nat.reduceEqDiff,Nat.reduceAdd,Nat.reduceSub,Nat.reduceMul,seg2,at0,at1,at2];refine bV (hE _ _ (at1 _ _ _)) ?_;rw[seg];simp -dsimp -implicitDefEqProofs only[aw,ah,V.copy,V.lend,V.lend1,V.cells,V.boxable,over,ak,ae,ac,ai,V.plain,Nat.reduceLeDiff,cond_true,cond_false,implies_true,eq_self,ne_eq,reduceIte,reduceCtorEq,Nat.reduceBEq,Nat.reduceLT,Nat.reduceEqDiff,Nat.reduceAdd,Nat.reduceSub,Nat.reduceMul,seg2,at0,at1,at2];refine bV (hT _ _ (at1 _ _ _)) ?_;rw[seg]
  simp -dsimp -implicitDefEqProofs only[aw,ah,V.copy,V.lend,V.lend1,V.cells,V.boxable,over,ak,ae,ac,ai,V.plain,Nat.reduceLeDiff,cond_true,cond_false,implies_true,eq_self,ne_eq,reduceIte,reduceCtorEq,Nat.reduceBEq,Nat.reduceLT,Nat.reduceEqDiff,Nat.reduceAdd,Nat.reduceSub,Nat.reduceMul];exact aj hb rfl rfl List.take_left ⟨rfl,rfl⟩
theorem pf(l:Bs):(bs l=⟨#[]⟩)=(l=[]):=by
 refine propext ⟨fun h=>?_,fun h=>by rw[h];rfl⟩;have:=congrArg (fun s:ByteArray=>s.data.toList) h;simp only[bH]at this;exact this
def exE:Ex:=.mk 17 0 ⟨#[]⟩ [.mk 2 0 ⟨#[107,105,110,100]⟩ [],.mk 1 3 ⟨#[]⟩ []]
def exI:It:=.mk 1 exE ⟨#[]⟩ ⟨#[]⟩ [] [] [] [] []
def exK:Kl:=⟨⟨#[112]⟩,⟨#[98,97,115,101]⟩,[⟨⟨#[107,105,110,100]⟩,2,0,1,0⟩],[(⟨#[108,101,103,97,108]⟩,[exI])]⟩
def exW:List Wt:=[⟨0,0,2,true⟩,⟨1,3,6,false⟩]
theorem EE:bs (gN exW)=⟨#[48,32,58,61,32,50,44,32,49,32,46,46,32,51,32,58,47,32,54]⟩:=by kernel_rfl
theorem zb:bs (jU exK)=⟨#[99,108,97,115,115,32,112,32,101,120,116,101,110,100,115,32,98,97,115,101,32,123,10,32,32,32,32,114,97,110,100,32,107,105,110,100,32,58,32,50,59,10,32,32,32,32,99,111,110,115,116,114,97,105,110,116,32,108,101,103,97,108,32,123,10,32,32,32,32,32,32,32,32,107,105,110,100,32,60,32,51,59,10,32,32,32,32,125,10,125,10]⟩:=by kernel_rfl
set_option maxHeartbeats 4000000 in
theorem lh(σ:List (List V)):Fun G 12 [] σ (aZ (aA true) σ):=by
 have f1:=fun σ=>jH exW (fun w hw=>by
  rcases List.mem_cons.1 hw with rfl|hw
  ·exact⟨by decide,by decide,by decide,by decide,by decide,by decide⟩
  ·rw[List.mem_singleton.1 hw];exact⟨by decide,by decide,by decide,by decide,by decide,by decide⟩) (by decide) σ
 have f2:=fun σ=>lB exK (by decide) (by decide) (by decide) σ;rw[EE]at f1;rw[zb]at f2;refine ay Tryz.func12 k12 rfl fun hb hw=>?_;unfold c12;simp -dsimp -implicitDefEqProofs only[aw,ah,V.copy,V.lend,V.lend1,V.cells,V.boxable,over,ak,ae,ac,ai,V.plain,Nat.reduceLeDiff,cond_true,cond_false,implies_true,eq_self,ne_eq,reduceIte,reduceCtorEq,Nat.reduceBEq,Nat.reduceLT,Nat.reduceEqDiff,Nat.reduceAdd,Nat.reduceSub,Nat.reduceMul];refine aq (f1 _) ?_;simp -dsimp -implicitDefEqProofs only[aw,ah,V.copy,V.lend,V.lend1,V.cells,V.boxable,over,ak,ae,ac,ai,V.plain,Nat.reduceLeDiff,cond_true,cond_false,implies_true,eq_self,ne_eq,reduceIte,reduceCtorEq,Nat.reduceBEq,Nat.reduceLT,Nat.reduceEqDiff,Nat.reduceAdd,Nat.reduceSub,Nat.reduceMul,decide_true];refine aq (f2 _) ?_
 simp -dsimp -implicitDefEqProofs only[aw,ah,V.copy,V.lend,V.lend1,V.cells,V.boxable,over,ak,ae,ac,ai,V.plain,Nat.reduceLeDiff,cond_true,cond_false,implies_true,eq_self,ne_eq,reduceIte,reduceCtorEq,Nat.reduceBEq,Nat.reduceLT,Nat.reduceEqDiff,Nat.reduceAdd,Nat.reduceSub,Nat.reduceMul,decide_true];first|exact aj hb rfl rfl List.take_length ⟨rfl,rfl⟩|exact aj hb rfl rfl List.take_left ⟨rfl,rfl⟩|(trace_state;fail "fin")
abbrev dkl(c:Kl):List D:=[an c.name,an c.par,.sl (c.flds.map dfl),.sl (c.blks.map dbk)]
theorem rG(k:Nat)(rows:List (List D))(m:Nat)(hm:m≤rows.length)(h:rows.all (fun r=>r.length==k)=true):l9 false k (.d (.sl rows)) none (some (aI .i64 (m:Int)))=some (.d (.sl (rows.take m))):=by
 simp[l9,dN,ae,aI,hm,h]
end Go.Proofs.YtcbahpllcfbkmaaGreatDoor
