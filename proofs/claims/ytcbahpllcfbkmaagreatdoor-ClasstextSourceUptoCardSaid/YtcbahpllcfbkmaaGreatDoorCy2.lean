import Derived.Test.YtcbahpllcfbkmaaGreatDoorCw9
set_option linter.unusedVariables false
set_option linter.unusedSimpArgs false
set_option linter.unusedSectionVars false
namespace Go.Proofs.YtcbahpllcfbkmaaGreatDoor
open Go.RowKit
def eU(c:Kl):Bs:=if cj c=true then eq c else[]
set_option maxHeartbeats 8000000 in
theorem jG(c:Kl)(hk:fg c≤1100000)(hf:c.flds.length≤1200000)(hbk:c.blks.length≤1200000)(σ:List (List V)):Fun G 13 [vkl c] σ (aN (.d (ak (bs (eU c)))) σ):=by
 refine aq Tryz.func13 k13 rfl fun hb hw=>?_;unfold c13 eU;simp -dsimp -implicitDefEqProofs only[aw,ah,V.copy,V.lend,V.lend1,V.cells,V.boxable,over,al,ae,ac,ai,V.plain,Nat.reduceLeDiff,cond_true,cond_false,implies_true,eq_self,ne_eq,reduceIte,reduceCtorEq,Nat.reduceBEq,Nat.reduceLT,Nat.reduceEqDiff,Nat.reduceAdd,Nat.reduceSub,Nat.reduceMul];refine am (lW c hk hf hbk _) ?_;cases hp:cj c with
 | false=>
  rw[if_neg (by simp)];simp -dsimp -implicitDefEqProofs only[aw,ah,V.copy,V.lend,V.lend1,V.cells,V.boxable,over,al,ae,ac,ai,V.plain,Nat.reduceLeDiff,cond_true,cond_false,implies_true,eq_self,ne_eq,reduceIte,reduceCtorEq,Nat.reduceBEq,Nat.reduceLT,Nat.reduceEqDiff,Nat.reduceAdd,Nat.reduceSub,Nat.reduceMul];first|exact aj hb rfl rfl List.take_length ⟨rfl,rfl⟩|exact aj hb rfl rfl List.take_left ⟨rfl,rfl⟩|(trace_state;fail "fin")
 | true=>
 have hv:=(fT c).1 hp;have hn:=m7 hv.cls;have hlen:=ku hv hk;rw[if_pos rfl]
 have hcl:eq c=lnT 0 (0,[99,108,97,115,115,32]++(aO c.name++(gf c.par++[32,123])))++(aG 1 (dV c.flds++c.blks.flatMap cS)++lnT 0 (0,[125])):=by
  unfold eq xD;rw[aH,a7,dm,aH,a8,List.append_nil];rfl
 obtain⟨S,hS⟩:∃S,S=gf c.par:=⟨_,rfl⟩
 rw[←hS]at hcl;have fl:[bs [99,108,97,115,115,32],c.name,bs S,bs [32,123]].flatMap aO=[99,108,97,115,115,32]++(aO c.name++(S++[32,123])):=by simp[aO,aY]
 rw[hcl]at hlen ⊢;simp only[List.length_append]at hlen;have hL:=fun i S' h=>cY i none 0 [bs [99,108,97,115,115,32],c.name,bs S,bs [32,123]] (by omega) (by rw[fl];show 0+(lnT 0 (0,[99,108,97,115,115,32]++(aO c.name++(S++[32,123])))).length≤_;omega) (by simp) S' h;rw[fl]at hL;generalize hH:lnT 0 (0,[99,108,97,115,115,32]++(aO c.name++(S++[32,123])))=H at *;have hHne:H≠[]:=by rw[←hH];exact rn _ _
 have hadd:cI none H=some H:=by rw[←nv none hHne];rfl
 rw[hadd]at hL;have hB:=fun a b i S' h1 h2 h3=>y4 a b i H 1 c S' hv hk h1 h2 h3 (by omega) (by omega);generalize hX:aG 1 (dV c.flds++c.blks.flatMap cS)=X at *;have hE:=fun i S' h=>cY i (some (H++X)) 0 [bs [125]] (by omega) (by rw[f125,Option.getD_some,List.length_append];omega) (by simp) S' h;rw[f125,fA]at hE;generalize hY:lnT 0 (0,[125])=Y at *;have hT:=fun i S' h=>uI i (some (H++(X++Y))) ((0:Nat):Int) (by simp;intro h;exact absurd h hHne) (by rw[Option.getD_some];simp only[List.length_append];omega) S' h;rw[Option.getD_some]at hT
 have seg:∀A B E Z:List V,(σ++[A,B,E]).set (σ.length+1) Z=σ++[A,Z,E]:=fun A B E Z=>by
  rw[List.set_append_right _ _ (by omega),show σ.length+1-σ.length=1 by omega];rfl
 have at1:∀A B E:List V,(σ++[A,B,E])[σ.length+1]? = some B:=fun A B E=>by
  rw[List.getElem?_append_right (by omega),show σ.length+1-σ.length=1 by omega];rfl
 have at2:∀A B E:List V,(σ++[A,B,E])[σ.length+1+1]? = some E:=fun A B E=>by
  rw[List.getElem?_append_right (by omega),show σ.length+1+1-σ.length=2 by omega];rfl
 have seg2:∀A B E Z:List V,(σ++[A,B,E]).set (σ.length+1+1) Z=σ++[A,B,Z]:=fun A B E Z=>by
  rw[List.set_append_right _ _ (by omega),show σ.length+1+1-σ.length=2 by omega];rfl
 have at0:∀A B E:List V,(σ++[A,B,E])[σ.length]? = some A:=fun A B E=>by
  rw[List.getElem?_append_right (by omega),Nat.sub_self];rfl
 by_cases he:c.par=⟨#[]⟩
 ·have hS0:S=[]:=by rw[hS];unfold gf;rw[if_pos he]
  subst hS0;simp -dsimp -implicitDefEqProofs only[aw,ah,V.copy,V.lend,V.lend1,V.cells,V.boxable,over,al,ae,ac,ai,V.plain,Nat.reduceLeDiff,cond_true,cond_false,implies_true,eq_self,ne_eq,reduceIte,reduceCtorEq,Nat.reduceBEq,Nat.reduceLT,Nat.reduceEqDiff,Nat.reduceAdd,Nat.reduceSub,Nat.reduceMul,seg2,at0,at1,at2,decide_eq_true he];refine bQ (hL _ _ (at1 _ _ _)) ?_;rw[seg];simp -dsimp -implicitDefEqProofs only[aw,ah,V.copy,V.lend,V.lend1,V.cells,V.boxable,over,al,ae,ac,ai,V.plain,Nat.reduceLeDiff,cond_true,cond_false,implies_true,eq_self,ne_eq,reduceIte,reduceCtorEq,Nat.reduceBEq,Nat.reduceLT,Nat.reduceEqDiff,Nat.reduceAdd,Nat.reduceSub,Nat.reduceMul,seg2,at0,at1,at2];refine bQ (dZ (σ.length+1) H (H++X) 0 (by omega) _ _ _ (at1 _ _ _) ?_) ?_
  ·rw[seg,seg];have:=hB σ.length (σ.length+1+1) (σ.length+1) (σ++[[.d (ak c.name),.d (ak c.par),.d (.sl (c.flds.map dfl)),.d (.sl (c.blks.map dbk))],pgc (σ.length+1) (some H) ((0+1:Nat):Int),[.ptr (σ.length+1) 0]]) (at0 _ _ _) (at2 _ _ _) (at1 _ _ _);rw[seg]at this;exact this
  rw[seg];simp -dsimp -implicitDefEqProofs only[aw,ah,V.copy,V.lend,V.lend1,V.cells,V.boxable,over,al,ae,ac,ai,V.plain,Nat.reduceLeDiff,cond_true,cond_false,implies_true,eq_self,ne_eq,reduceIte,reduceCtorEq,Nat.reduceBEq,Nat.reduceLT,Nat.reduceEqDiff,Nat.reduceAdd,Nat.reduceSub,Nat.reduceMul,seg2,at0,at1,at2];refine bQ (hE _ _ (at1 _ _ _)) ?_;rw[seg];simp -dsimp -implicitDefEqProofs only[aw,ah,V.copy,V.lend,V.lend1,V.cells,V.boxable,over,al,ae,ac,ai,V.plain,Nat.reduceLeDiff,cond_true,cond_false,implies_true,eq_self,ne_eq,reduceIte,reduceCtorEq,Nat.reduceBEq,Nat.reduceLT,Nat.reduceEqDiff,Nat.reduceAdd,Nat.reduceSub,Nat.reduceMul,seg2,at0,at1,at2];refine bQ (hT _ _ (at1 _ _ _)) ?_;rw[seg]
  simp -dsimp -implicitDefEqProofs only[aw,ah,V.copy,V.lend,V.lend1,V.cells,V.boxable,over,al,ae,ac,ai,V.plain,Nat.reduceLeDiff,cond_true,cond_false,implies_true,eq_self,ne_eq,reduceIte,reduceCtorEq,Nat.reduceBEq,Nat.reduceLT,Nat.reduceEqDiff,Nat.reduceAdd,Nat.reduceSub,Nat.reduceMul];exact aj hb rfl rfl List.take_left ⟨rfl,rfl⟩
 ·have hS0:S=[32,101,120,116,101,110,100,115,32]++aO c.par:=by rw[hS];unfold gf;rw[if_neg he]
  have hpl:=bP (hn.par.resolve_left he);have hps:c.par.size=c.par.data.toList.length:=rfl
  have hs:aA .add (V.d (ak ⟨#[32,101,120,116,101,110,100,115,32]⟩)) (V.d (ak c.par))=some (V.d (ak (bs S))):=by
   have:=aM [32,101,120,116,101,110,100,115,32] (aO c.par) (by simp[aO];omega);rw[←hS0]at this;unfold aO at this;rw[bT]at this;exact this
  simp -dsimp -implicitDefEqProofs only[aw,ah,V.copy,V.lend,V.lend1,V.cells,V.boxable,over,al,ae,ac,ai,V.plain,Nat.reduceLeDiff,cond_true,cond_false,implies_true,eq_self,ne_eq,reduceIte,reduceCtorEq,Nat.reduceBEq,Nat.reduceLT,Nat.reduceEqDiff,Nat.reduceAdd,Nat.reduceSub,Nat.reduceMul,seg2,at0,at1,at2,decide_eq_false he,hs];refine bQ (hL _ _ (at1 _ _ _)) ?_;rw[seg];simp -dsimp -implicitDefEqProofs only[aw,ah,V.copy,V.lend,V.lend1,V.cells,V.boxable,over,al,ae,ac,ai,V.plain,Nat.reduceLeDiff,cond_true,cond_false,implies_true,eq_self,ne_eq,reduceIte,reduceCtorEq,Nat.reduceBEq,Nat.reduceLT,Nat.reduceEqDiff,Nat.reduceAdd,Nat.reduceSub,Nat.reduceMul,seg2,at0,at1,at2];refine bQ (dZ (σ.length+1) H (H++X) 0 (by omega) _ _ _ (at1 _ _ _) ?_) ?_
  ·rw[seg,seg];have:=hB σ.length (σ.length+1+1) (σ.length+1) (σ++[[.d (ak c.name),.d (ak c.par),.d (.sl (c.flds.map dfl)),.d (.sl (c.blks.map dbk))],pgc (σ.length+1) (some H) ((0+1:Nat):Int),[.ptr (σ.length+1) 0]]) (at0 _ _ _) (at2 _ _ _) (at1 _ _ _);rw[seg]at this;exact this
  rw[seg];simp -dsimp -implicitDefEqProofs only[aw,ah,V.copy,V.lend,V.lend1,V.cells,V.boxable,over,al,ae,ac,ai,V.plain,Nat.reduceLeDiff,cond_true,cond_false,implies_true,eq_self,ne_eq,reduceIte,reduceCtorEq,Nat.reduceBEq,Nat.reduceLT,Nat.reduceEqDiff,Nat.reduceAdd,Nat.reduceSub,Nat.reduceMul,seg2,at0,at1,at2];refine bQ (hE _ _ (at1 _ _ _)) ?_;rw[seg];simp -dsimp -implicitDefEqProofs only[aw,ah,V.copy,V.lend,V.lend1,V.cells,V.boxable,over,al,ae,ac,ai,V.plain,Nat.reduceLeDiff,cond_true,cond_false,implies_true,eq_self,ne_eq,reduceIte,reduceCtorEq,Nat.reduceBEq,Nat.reduceLT,Nat.reduceEqDiff,Nat.reduceAdd,Nat.reduceSub,Nat.reduceMul,seg2,at0,at1,at2];refine bQ (hT _ _ (at1 _ _ _)) ?_;rw[seg]
  simp -dsimp -implicitDefEqProofs only[aw,ah,V.copy,V.lend,V.lend1,V.cells,V.boxable,over,al,ae,ac,ai,V.plain,Nat.reduceLeDiff,cond_true,cond_false,implies_true,eq_self,ne_eq,reduceIte,reduceCtorEq,Nat.reduceBEq,Nat.reduceLT,Nat.reduceEqDiff,Nat.reduceAdd,Nat.reduceSub,Nat.reduceMul];exact aj hb rfl rfl List.take_left ⟨rfl,rfl⟩
def uV(l:List Kl):Bs:=if l.all cj=true then bV [10] (l.map eq)else[]
theorem tY(l:Bs):(bs l=⟨#[]⟩)=(l=[]):=by
 refine propext ⟨fun h=>?_,fun h=>by rw[h];rfl⟩;have:=congrArg (fun s:ByteArray=>s.data.toList) h;simp only[aY]at this;exact this
set_option maxHeartbeats 4000000 in
theorem qk(l:List Kl)(hl:l.length≤6)(h:∀c,c∈l→fg c≤1100000∧c.flds.length≤1200000∧c.blks.length≤1200000)(σ:List (List V)):
 Fun G 21 [.d (.sl (l.map fun c=>[ak c.name,ak c.par,.sl (c.flds.map dfl),.sl (c.blks.map dbk)]))] σ (aN (.d (ak (bs (uV l)))) σ):=by
 refine aq Tryz.func21 k21 rfl fun hb hw=>?_;unfold c21 uV;simp -dsimp -implicitDefEqProofs only[aw,ah,V.copy,V.lend,V.lend1,V.cells,V.boxable,over,al,ae,ac,ai,V.plain,Nat.reduceLeDiff,cond_true,cond_false,implies_true,eq_self,ne_eq,reduceIte,reduceCtorEq,Nat.reduceBEq,Nat.reduceLT,Nat.reduceEqDiff,Nat.reduceAdd,Nat.reduceSub,Nat.reduceMul,List.length_map];refine aT [3,7,8,9] (fun(j:Nat) ρ σ'=>ρ=[(3,.own 9 1 (((l.take j).map fun c=>bs (eq c)).map fun s=>[ak s])),(7,.d (.sl (l.map fun c=>[ak c.name,ak c.par,.sl (c.flds.map dfl),.sl (c.blks.map dbk)]))),(8,aK .i64 l.length),(9,aK .i64 j)]∧σ'=σ∧l.all cj=(l.drop j).all cj) l.length ⟨rfl,rfl,rfl⟩ ?_ _;rintro j ρ' σ' hj ⟨rfl,rfl,hI⟩;by_cases hlt:j<l.length
 ·have wj:=aJ hlt (show l.length≤9223372036854775807 by omega);have e1:(l.map fun c=>[ak c.name,ak c.par,.sl (c.flds.map dfl),.sl (c.blks.map dbk)])[j]? = some [ak l[j].name,ak l[j].par,.sl (l[j].flds.map dfl),.sl (l[j].blks.map dbk)]:=by rw[List.getElem?_map,List.getElem?_eq_getElem hlt];rfl
  obtain⟨h1,h2,h3⟩:=h _ (List.getElem_mem hlt);have hP:=fun σ=>jG l[j] h1 h2 h3 σ;rw[List.drop_eq_getElem_cons hlt,List.all_cons]at hI;simp -dsimp -implicitDefEqProofs only[aw,ah,V.copy,V.lend,V.lend1,V.cells,V.boxable,over,al,ae,ac,ai,V.plain,Nat.reduceLeDiff,cond_true,cond_false,implies_true,eq_self,ne_eq,reduceIte,reduceCtorEq,Nat.reduceBEq,Nat.reduceLT,Nat.reduceEqDiff,Nat.reduceAdd,Nat.reduceSub,Nat.reduceMul,Int.ofNat_lt,hlt,decide_true,e1];refine am (hP _) ?_;cases hp:cj l[j]with
  | false=>
   have e0:eU l[j]=[]:=by unfold eU;rw[hp,if_neg (by simp)]
   rw[hp,Bool.false_and]at hI;have hd:decide (bs ([]:Bs)=⟨#[]⟩)=true:=rfl;rw[e0,hI,if_neg (by simp)];simp -dsimp -implicitDefEqProofs only[aw,ah,V.copy,V.lend,V.lend1,V.cells,V.boxable,over,al,ae,ac,ai,V.plain,Nat.reduceLeDiff,cond_true,cond_false,implies_true,eq_self,ne_eq,reduceIte,reduceCtorEq,Nat.reduceBEq,Nat.reduceLT,Nat.reduceEqDiff,Nat.reduceAdd,Nat.reduceSub,Nat.reduceMul,hd];first|exact aj hb rfl rfl List.take_length ⟨rfl,rfl⟩|exact aj hb rfl rfl List.take_left ⟨rfl,rfl⟩|(trace_state;fail "fin")
  | true=>
   have e0:eU l[j]=eq l[j]:=by unfold eU;rw[hp,if_pos rfl]
   rw[hp,Bool.true_and]at hI;have hd:decide (bs (eq l[j])=⟨#[]⟩)=false:=decide_eq_false (by rw[tY];exact y5 _);rw[e0];simp -dsimp -implicitDefEqProofs only[aw,ah,V.copy,V.lend,V.lend1,V.cells,V.boxable,over,al,ae,ac,ai,V.plain,Nat.reduceLeDiff,cond_true,cond_false,implies_true,eq_self,ne_eq,reduceIte,reduceCtorEq,Nat.reduceBEq,Nat.reduceLT,Nat.reduceEqDiff,Nat.reduceAdd,Nat.reduceSub,Nat.reduceMul,hd];refine cU (by first|omega|(simp only[List.length_map,List.length_take];omega)) ?_;simp -dsimp -implicitDefEqProofs only[aw,ah,V.copy,V.lend,V.lend1,V.cells,V.boxable,over,al,ae,ac,ai,V.plain,Nat.reduceLeDiff,cond_true,cond_false,implies_true,eq_self,ne_eq,reduceIte,reduceCtorEq,Nat.reduceBEq,Nat.reduceLT,Nat.reduceEqDiff,Nat.reduceAdd,Nat.reduceSub,Nat.reduceMul,wj]
   exact⟨hlt,Nxt.drop (l:=[_]) (Nat.le_refl _) hb (by simp[au,V.under]) ⟨by rw[List.take_succ_eq_append_getElem hlt,List.map_append,List.map_append];rfl,rfl,hI⟩⟩
 ·rw[List.drop_eq_nil_of_le (by omega),List.all_nil]at hI;rw[hI,if_pos rfl];simp -dsimp -implicitDefEqProofs only[aw,ah,V.copy,V.lend,V.lend1,V.cells,V.boxable,over,al,ae,ac,ai,V.plain,Nat.reduceLeDiff,cond_true,cond_false,implies_true,eq_self,ne_eq,reduceIte,reduceCtorEq,Nat.reduceBEq,Nat.reduceLT,Nat.reduceEqDiff,Nat.reduceAdd,Nat.reduceSub,Nat.reduceMul,Int.ofNat_lt,hlt,decide_false];rw[List.take_of_length_le (by omega)]
  have hm:(l.map fun c=>bs (eq c)).map (·.data.toList)=l.map eq:=by
   rw[List.map_map];exact List.map_congr_left fun c _=>aY _
  have hsl:=gY [10] 1000000000 (l.map eq) fun a ha=>by
   obtain⟨c,hc,rfl⟩:=List.mem_map.1 ha;exact ku ((fT c).1 (List.all_eq_true.1 hI c hc)) (h c hc).1
  rw[List.length_map]at hsl
  have hj:=gM [10] (l.map fun c=>bs (eq c)) (by rw[List.length_map];omega) (by
   rw[e8,hm];refine Nat.le_trans hsl ?_;have:l.length*(1000000000+([10]:Bs).length)≤6*(1000000000+([10]:Bs).length):=Nat.mul_le_mul_right _ hl;exact Nat.le_trans this (by decide))
  rw[e8,hm]at hj;simp only[bX]at hj;refine am (hj _) ?_;simp -dsimp -implicitDefEqProofs only[aw,ah,V.copy,V.lend,V.lend1,V.cells,V.boxable,over,al,ae,ac,ai,V.plain,Nat.reduceLeDiff,cond_true,cond_false,implies_true,eq_self,ne_eq,reduceIte,reduceCtorEq,Nat.reduceBEq,Nat.reduceLT,Nat.reduceEqDiff,Nat.reduceAdd,Nat.reduceSub,Nat.reduceMul];first|exact aj hb rfl rfl List.take_length ⟨rfl,rfl⟩|exact aj hb rfl rfl List.take_left ⟨rfl,rfl⟩|(trace_state;fail "fin")
def exE:Ex:=.mk 17 0 ⟨#[]⟩ [.mk 2 0 ⟨#[107,105,110,100]⟩ [],.mk 1 3 ⟨#[]⟩ []]
def exI:It:=.mk 1 exE ⟨#[]⟩ ⟨#[]⟩ [] [] [] [] []
def exK:Kl:=⟨⟨#[112]⟩,⟨#[98,97,115,101]⟩,[⟨⟨#[107,105,110,100]⟩,2,0,1,0⟩],[(⟨#[108,101,103,97,108]⟩,[exI])]⟩
def exW:List Wt:=[⟨0,0,2,true⟩,⟨1,3,6,false⟩]
theorem A6:bs (iG exW)=⟨#[48,32,58,61,32,50,44,32,49,32,46,46,32,51,32,58,47,32,54]⟩:=by kernel_rfl
theorem vD:bs (eU exK)=⟨#[99,108,97,115,115,32,112,32,101,120,116,101,110,100,115,32,98,97,115,101,32,123,10,32,32,32,32,114,97,110,100,32,107,105,110,100,32,58,32,50,59,10,32,32,32,32,99,111,110,115,116,114,97,105,110,116,32,108,101,103,97,108,32,123,10,32,32,32,32,32,32,32,32,107,105,110,100,32,60,32,51,59,10,32,32,32,32,125,10,125,10]⟩:=by kernel_rfl
set_option maxHeartbeats 4000000 in
theorem mO(σ:List (List V)):Fun G 12 [] σ (aN (aB true) σ):=by
 have f1:=fun σ=>ir exW (fun w hw=>by
  rcases List.mem_cons.1 hw with rfl|hw
  ·exact⟨by decide,by decide,by decide,by decide,by decide,by decide⟩
  ·rw[List.mem_singleton.1 hw];exact⟨by decide,by decide,by decide,by decide,by decide,by decide⟩) (by decide) σ
 have f2:=fun σ=>jG exK (by decide) (by decide) (by decide) σ;rw[A6]at f1;rw[vD]at f2;refine aq Tryz.func12 k12 rfl fun hb hw=>?_;unfold c12;simp -dsimp -implicitDefEqProofs only[aw,ah,V.copy,V.lend,V.lend1,V.cells,V.boxable,over,al,ae,ac,ai,V.plain,Nat.reduceLeDiff,cond_true,cond_false,implies_true,eq_self,ne_eq,reduceIte,reduceCtorEq,Nat.reduceBEq,Nat.reduceLT,Nat.reduceEqDiff,Nat.reduceAdd,Nat.reduceSub,Nat.reduceMul];refine am (f1 _) ?_;simp -dsimp -implicitDefEqProofs only[aw,ah,V.copy,V.lend,V.lend1,V.cells,V.boxable,over,al,ae,ac,ai,V.plain,Nat.reduceLeDiff,cond_true,cond_false,implies_true,eq_self,ne_eq,reduceIte,reduceCtorEq,Nat.reduceBEq,Nat.reduceLT,Nat.reduceEqDiff,Nat.reduceAdd,Nat.reduceSub,Nat.reduceMul,decide_true];refine am (f2 _) ?_
 simp -dsimp -implicitDefEqProofs only[aw,ah,V.copy,V.lend,V.lend1,V.cells,V.boxable,over,al,ae,ac,ai,V.plain,Nat.reduceLeDiff,cond_true,cond_false,implies_true,eq_self,ne_eq,reduceIte,reduceCtorEq,Nat.reduceBEq,Nat.reduceLT,Nat.reduceEqDiff,Nat.reduceAdd,Nat.reduceSub,Nat.reduceMul,decide_true];first|exact aj hb rfl rfl List.take_length ⟨rfl,rfl⟩|exact aj hb rfl rfl List.take_left ⟨rfl,rfl⟩|(trace_state;fail "fin")
abbrev dkl(c:Kl):List D:=[ak c.name,ak c.par,.sl (c.flds.map dfl),.sl (c.blks.map dbk)]
theorem Bg(a b:Nat):mxV false (.d (.lit (.int .i64 (a:Int)))) (.d (.lit (.int .i64 (b:Int))))=some (aK .i64 ((min a b:Nat):Int)):=by
 have h:(if(b:Int)<(a:Int)then(b:Int)else(a:Int))=((min a b:Nat):Int):=by split<;>omega
 unfold mxV;simp only[if_true,Bool.false_eq_true,if_false,h]
theorem lf(k:Nat)(rows:List (List D))(m:Nat)(hm:m≤rows.length)(h:rows.all (fun r=>r.length==k)=true):kf false k (.d (.sl rows)) none (some (aK .i64 (m:Int)))=some (.d (.sl (rows.take m))):=by
 simp[kf,du,ae,aK,hm,h]
def zT(l:List Kl):Prop:=∀c,c∈l→fg c≤1100000∧c.flds.length≤1200000∧c.blks.length≤1200000
end Go.Proofs.YtcbahpllcfbkmaaGreatDoor
