import Derived.Test.YtcbahpllcfbkmaaGreatDoorCw7
set_option linter.unusedVariables false
set_option linter.unusedSimpArgs false
set_option linter.unusedSectionVars false
namespace Go.Proofs.YtcbahpllcfbkmaaGreatDoor
open Go.RowKit
def gy(l:List Fl):List Ln:=l.map fun f=>(0,ez f)
theorem oh(l:List Fl){j:Nat}(h:j<l.length):gy (l.take (j+1))=gy (l.take j)++[(0,ez l[j])]:=by
 unfold gy;rw[List.take_succ_eq_append_getElem h,List.map_append];rfl
theorem oD(l:List Bk){j:Nat}(h:j<l.length):(l.take (j+1)).flatMap di=(l.take j).flatMap di++di l[j]:=by
 rw[List.take_succ_eq_append_getElem h,List.flatMap_append];simp
theorem oT(k:Nat){A B C:List Ln}(h:A++B=C):(aX k A).length≤(aX k C).length:=by
 rw[←h,bK,List.length_append];omega
theorem Cw(k:Nat)(l:List Fl)(j:Nat):(aX k (gy (l.take j))).length≤(aX k (gy l)).length:=
 oT k (B:=gy (l.drop j)) (by unfold gy;rw[←List.map_append,List.take_append_drop])
theorem CE(k:Nat)(l:List Bk)(j:Nat):(aX k ((l.take j).flatMap di)).length≤(aX k (l.flatMap di)).length:=
 oT k (B:=(l.drop j).flatMap di) (by rw[←List.flatMap_append,List.take_append_drop])
def jQ(c:Kl):Nat:=(c.blks.map fun b=>bN b.2).sum
theorem kV{c:Kl}{b:Bk}(h:b∈c.blks):bN b.2≤jQ c:=by
 unfold jQ;generalize c.blks=l at h
 induction l with
 | nil=>cases h
 | cons a r ih=>
  rw[List.map_cons,List.sum_cons];rcases List.mem_cons.1 h with rfl|h
  ·omega
  ·have:=ih h;omega
structure KlV(c:Kl):Prop where
 cls:nT c=0
 its:∀b,b∈c.blks→eM b.2=0
def em(c:Kl):Bool:=c.blks.all (fun b=>decide (eM b.2=0))&&decide (nT c=0)
theorem jY(c:Kl):em c=true↔KlV c:=by
 unfold em;rw[Bool.and_eq_true,List.all_eq_true,decide_eq_true_eq];exact⟨fun h=>⟨h.2,fun b hb=>of_decide_eq_true (h.1 b hb)⟩,fun h=>⟨fun b hb=>decide_eq_true (h.its b hb),h.cls⟩⟩
theorem xe{l:List Fl}(h:fJ l=0):∀f,f∈l→la f=0:=by
 induction l with
 | nil=>intro f hf;cases hf
 | cons a r ih=>
  rw[fJ]at h;by_cases h0:la a=0
  ·rw[if_neg (by simp[h0])]at h;intro f hf;rcases List.mem_cons.1 hf with rfl|hf
   ·exact h0
   ·exact ih h f hf
  ·rw[if_pos h0]at h;exact absurd h h0
theorem uA:∀(l:List Bk) (k:Int),0≤k→¬0≤iv l k→∀b,b∈l→aD b.1=true
 | [],_,_,_,b,hb=>by cases hb
 | a::r,k,hk,h,b,hb=>by
  rw[iv]at h;cases hn:aD a.1 with
  | false=>rw[hn,if_pos rfl]at h;exact absurd hk h
  | true=>
   rw[hn,if_neg (by simp)]at h;rcases List.mem_cons.1 hb with rfl|hb
   ·exact hn
   ·exact uA r (k+1) (by omega) h b hb
structure KlN(c:Kl):Prop where
 nm:aD c.name=true
 par:c.par=⟨#[]⟩∨aD c.par=true
 fl:c.flds.length≤16
 bl:c.blks.length≤16
 fv:∀f,f∈c.flds→FlV f
 bn:∀b,b∈c.blks→aD b.1=true
theorem pH{c:Kl}(h:nT c=0):KlN c:=by
 unfold nT at h;by_cases h1:aD c.name=false∨(c.par≠⟨#[]⟩∧aD c.par=false)
 ·rw[if_pos h1]at h;omega
 rw[if_neg h1]at h;by_cases h2:16<c.flds.length∨16<c.blks.length
 ·rw[if_pos h2]at h;omega
 rw[if_neg h2]at h;by_cases h3:fJ c.flds=0;case neg=>rw[if_pos h3]at h;exact absurd h h3
 rw[if_neg (by simp[h3])]at h;by_cases h4:0≤iv c.blks 0
 ·rw[if_pos h4]at h;omega
 refine⟨?_,?_,by omega,by omega,fun f hf=>DH (xe h3 f hf),uA _ 0 (Int.le_refl _) h4⟩
 ·cases hn:aD c.name with
  | true=>rfl
  | false=>exact absurd (.inl hn) h1
 ·by_cases hp:c.par=⟨#[]⟩
  ·exact .inl hp
  ·refine .inr ?_;cases hn:aD c.par with
   | true=>rfl
   | false=>exact absurd (.inr ⟨hp,hn⟩) h1
theorem KlV.ok{c:Kl}(h:KlV c):KlOk c:=by
 have hn:=pH h.cls;exact⟨hn.nm,hn.par,fun f hf=>(hn.fv f hf).ok,hn.bn,fun b hb=>lg (h.its b hb)⟩
theorem rL(k:Nat):∀l:List Fl,(∀f,f∈l→FlV f)→(aX k (gy l)).length≤l.length*(4*k+61)
 | [],_=>by simp[gy,aX]
 | f::r,h=>by
  have h1:=Ab (h f (by simp));have h2:=rL k r fun g hg=>h g (by simp[hg]);have e:gy (f::r)=[(0,ez f)]++gy r:=rfl;rw[e,bK,List.length_append,bc,bE,List.append_nil,ec,List.length_cons,Nat.add_mul];simp only;omega
theorem qJ(k:Nat):∀l:List Bk,(∀b,b∈l→aD b.1=true∧rvl b.2 0=0)→(aX k (l.flatMap di)).length≤l.length*(8*k+40)+(l.map fun b=>bN b.2).sum*(12*(k+1)+172)
 | [],_=>by simp[aX]
 | b::r,h=>by
  obtain⟨n1,n2⟩:=h b (by simp);have h1:=cq n1;have h2:=B9 (k+1) b.2 0 n2;have h3:=qJ k r fun g hg=>h g (by simp[hg]);have e:(b::r).flatMap di=di b++r.flatMap di:=rfl;have hb:di b=(0,[99,111,110,115,116,114,97,105,110,116,32]++(aG b.1++[32,123]))::(upL (lns b.2)++[(0,[125])]):=rfl;rw[e,bK,hb];simp only[bc,bK,ga,bE,List.length_append,ec,List.length_cons,List.length_nil,List.map_cons,List.sum_cons,Nat.add_mul,aG,Nat.add_zero]at h2 ⊢;omega
theorem CA{c:Kl}(h:KlV c)(hk:jQ c≤1100000):(jZ c).length≤1000000000:=by
 have hn:=pH h.cls;have h1:=cq hn.nm
 have h2:(jD c.par).length≤30:=by
  unfold jD aG;split
  ·simp
  ·rename_i hne;have:=cq (hn.par.resolve_left hne);simp only[List.length_append,List.length_cons,List.length_nil];omega
 have h3:=rL 1 c.flds hn.fv;have h4:(aX 1 (c.blks.flatMap di)).length≤c.blks.length*(8*1+40)+jQ c*(12*(1+1)+172):=qJ 1 c.blks fun b hb=>⟨hn.bn b hb,lg (h.its b hb)⟩
 have h5:jQ c*(12*(1+1)+172)≤1100000*(12*(1+1)+172):=Nat.mul_le_mul_right _ hk;have h6:c.flds.length*(4*1+61)≤16*(4*1+61):=Nat.mul_le_mul_right _ hn.fl;have h7:c.blks.length*(8*1+40)≤16*(8*1+40):=Nat.mul_le_mul_right _ hn.bl;unfold gy at h3;unfold jZ Bg;simp only[Nat.zero_add,bc,bK,ga,bE,List.length_append,ec,List.length_cons,List.length_nil,aG];omega
theorem io(f:Fl):dfl f=[an f.name,az f.width,az f.size,az f.mode,az f.init]:=rfl
theorem fm(b:Bk):dbk b=[an b.1,fr b.2]:=rfl
theorem oa(c:Kl)(hk:jQ c≤1100000)(hf:c.flds.length≤1200000)(hbk:c.blks.length≤1200000)(σ:List (List V)):Fun G 27 [vkl c] σ (aZ (aA (em c)) σ):=by
 refine ay Tryz.func27 k27 rfl fun hb hw=>?_;unfold c27;simp -dsimp -implicitDefEqProofs only[aw,ah,V.copy,V.lend,V.lend1,V.cells,V.boxable,over,ak,ae,ac,ai,V.plain,Nat.reduceLeDiff,cond_true,cond_false,implies_true,eq_self,ne_eq,reduceIte,reduceCtorEq,Nat.reduceBEq,Nat.reduceLT,Nat.reduceEqDiff,Nat.reduceAdd,Nat.reduceSub,Nat.reduceMul,List.length_map]
 refine aS [1,6,7,8] (fun(j:Nat) ρ σ'=>ρ=[(1,.ptr σ.length 0),(6,.d (.sl (c.blks.map dbk))),(7,aI .i64 c.blks.length),(8,aI .i64 j)]∧σ'=σ++[[.d (an c.name),.d (an c.par),.d (.sl (c.flds.map dfl)),.d (.sl (c.blks.map dbk))]]∧
  em c=((c.blks.drop j).all (fun b=>decide (eM b.2=0))&&decide (nT c=0))) c.blks.length ⟨rfl,rfl,rfl⟩ ?_ _
 rintro j ρ' σ' hj ⟨rfl,rfl,hI⟩;by_cases hlt:j<c.blks.length
 ·have wj:=aJ hlt (show c.blks.length≤9223372036854775807 by omega);have e1:(c.blks.map dbk)[j]? = some (dbk c.blks[j]):=by rw[List.getElem?_map,List.getElem?_eq_getElem hlt];rfl
  have hm:=kV (List.getElem_mem hlt);rw[List.drop_eq_getElem_cons hlt,List.all_cons]at hI;simp -dsimp -implicitDefEqProofs only[aw,ah,V.copy,V.lend,V.lend1,V.cells,V.boxable,over,ak,ae,ac,ai,V.plain,Nat.reduceLeDiff,cond_true,cond_false,implies_true,eq_self,ne_eq,reduceIte,reduceCtorEq,Nat.reduceBEq,Nat.reduceLT,Nat.reduceEqDiff,Nat.reduceAdd,Nat.reduceSub,Nat.reduceMul,Int.ofNat_lt,hlt,decide_true,e1,fm c.blks[j],List.map_cons,List.map_nil];refine aq (sQ _ (by omega) _) ?_;by_cases h0:eM c.blks[j].2=0
  ·rw[decide_eq_true h0,Bool.true_and]at hI;simp -dsimp -implicitDefEqProofs only[aw,ah,V.copy,V.lend,V.lend1,V.cells,V.boxable,over,ak,ae,ac,ai,V.plain,Nat.reduceLeDiff,cond_true,cond_false,implies_true,eq_self,ne_eq,reduceIte,reduceCtorEq,Nat.reduceBEq,Nat.reduceLT,Nat.reduceEqDiff,Nat.reduceAdd,Nat.reduceSub,Nat.reduceMul,h0,decide_true,wj];exact⟨hlt,Nxt.drp1 (by simp) (aQ hb rfl) (by simp[ax,V.under]) ⟨rfl,rfl,hI⟩⟩
  ·rw[decide_eq_false h0,Bool.false_and,Bool.false_and]at hI;rw[hI];simp -dsimp -implicitDefEqProofs only[aw,ah,V.copy,V.lend,V.lend1,V.cells,V.boxable,over,ak,ae,ac,ai,V.plain,Nat.reduceLeDiff,cond_true,cond_false,implies_true,eq_self,ne_eq,reduceIte,reduceCtorEq,Nat.reduceBEq,Nat.reduceLT,Nat.reduceEqDiff,Nat.reduceAdd,Nat.reduceSub,Nat.reduceMul,decide_eq_false h0];first|exact aj hb rfl rfl List.take_length ⟨rfl,rfl⟩|exact aj hb rfl rfl List.take_left ⟨rfl,rfl⟩|(trace_state;fail "fin")
 ·rw[List.drop_eq_nil_of_le (by omega),List.all_nil,Bool.true_and]at hI;rw[hI];simp -dsimp -implicitDefEqProofs only[aw,ah,V.copy,V.lend,V.lend1,V.cells,V.boxable,over,ak,ae,ac,ai,V.plain,Nat.reduceLeDiff,cond_true,cond_false,implies_true,eq_self,ne_eq,reduceIte,reduceCtorEq,Nat.reduceBEq,Nat.reduceLT,Nat.reduceEqDiff,Nat.reduceAdd,Nat.reduceSub,Nat.reduceMul,Int.ofNat_lt,hlt,decide_false];refine aq (rv c hf hbk _) ?_;simp -dsimp -implicitDefEqProofs only[aw,ah,V.copy,V.lend,V.lend1,V.cells,V.boxable,over,ak,ae,ac,ai,V.plain,Nat.reduceLeDiff,cond_true,cond_false,implies_true,eq_self,ne_eq,reduceIte,reduceCtorEq,Nat.reduceBEq,Nat.reduceLT,Nat.reduceEqDiff,Nat.reduceAdd,Nat.reduceSub,Nat.reduceMul];first|exact aj hb rfl rfl List.take_length ⟨rfl,rfl⟩|exact aj hb rfl rfl List.take_left ⟨rfl,rfl⟩|(trace_state;fail "fin")
set_option maxHeartbeats 8000000 in
theorem Cy(a b i:Nat)(u:Bs)(k:Nat)(c:Kl)(σ:List (List V))(hv:KlV c)(hk:jQ c≤1100000)(hc:σ[a]? = some [.d (an c.name),.d (an c.par),.d (.sl (c.flds.map dfl)),.d (.sl (c.blks.map dbk))])(hb:σ[b]? = some [.ptr i 0])(hp:σ[i]? = some (pgc i (some u) k))(hk9:k≤99)
 (hl:u.length+(aX k (gy c.flds++c.blks.flatMap di)).length≤140737488355328):
 Fun G 30 [.ptr a 0,.ptr b 0] σ (fun o σ'=>o=.ret (.tup [])∧σ'=σ.set i (pgc i (some (u++aX k (gy c.flds++c.blks.flatMap di))) k)):=by
 have hn:=pH hv.cls;have hi:i<σ.length:=(List.getElem?_eq_some_iff.1 hp).1
 have hbi:b≠i:=fun e=>by
  rw[e,hp]at hb;simp[pgc,pgu]at hb
 have hai:a≠i:=fun e=>by
  rw[e,hp]at hc;simp[pgc,pgu]at hc
 have gb:∀X L,(σ.set i X++L)[b]? = some [.ptr i 0]:=fun X L=>by
  rw[List.getElem?_append_left (by rw[List.length_set];exact(List.getElem?_eq_some_iff.1 hb).1),List.getElem?_set_ne (Ne.symm hbi)];exact hb
 have gb0:∀X,(σ.set i X)[b]? = some [.ptr i 0]:=fun X=>by have:=gb X [];rwa[List.append_nil]at this
 have ga0:∀X,(σ.set i X)[a]? = some [.d (an c.name),.d (an c.par),.d (.sl (c.flds.map dfl)),.d (.sl (c.blks.map dbk))]:=fun X=>by
  rw[List.getElem?_set_ne (Ne.symm hai)];exact hc
 have bbt:∀t,aB σ.length σ=true→aB (σ.set i (pgc i t k)).length (σ.set i (pgc i t k))=true:=fun t hb=>by
  rw[List.length_set];exact d5 hb (bQ hi)
 rw[bK,List.length_append]at hl;rw[bK];have hf:=fun j=>Cw k c.flds j;have hB:=fun j=>CE k c.blks j;refine ay Tryz.func30 k30 rfl fun hb' hw=>?_;unfold c30;simp -dsimp -implicitDefEqProofs only[aw,ah,V.copy,V.lend,V.lend1,V.cells,V.boxable,over,ak,ae,ac,ai,V.plain,Nat.reduceLeDiff,cond_true,cond_false,implies_true,eq_self,ne_eq,reduceIte,reduceCtorEq,Nat.reduceBEq,Nat.reduceLT,Nat.reduceEqDiff,Nat.reduceAdd,Nat.reduceSub,Nat.reduceMul,hc,List.length_map];refine aS [0,1,7,8,9] (fun(j:Nat) ρ σ'=>ρ=[(0,.ptr a 0),(1,.ptr b 0),(7,.d (.sl (c.flds.map dfl))),(8,aI .i64 c.flds.length),(9,aI .i64 j)]∧σ'=σ.set i (pgc i (some (u++aX k (gy (c.flds.take j)))) k)) c.flds.length ⟨rfl,by rw[List.take_zero];show σ=σ.set i (pgc i (some (u++[])) k);rw[List.append_nil,zR hp]⟩ ?_ _;rintro j ρ' σ' hj ⟨rfl,rfl⟩;by_cases hlt:j<c.flds.length
 ·have wj:=aJ hlt (show c.flds.length≤9223372036854775807 by have:=hn.fl;omega);have e1:(c.flds.map dfl)[j]? = some (dfl c.flds[j]):=by rw[List.getElem?_map,List.getElem?_eq_getElem hlt];rfl
  have hfj:=hf (j+1);rw[oh c.flds hlt,bK,bc,bE,List.append_nil,List.length_append]at hfj;have hF:=fun S h=>tP i (some (u++aX k (gy (c.flds.take j)))) k c.flds[j] S ⟨h,by omega⟩ (hn.fv _ (List.getElem_mem hlt)) (by rw[Option.getD_some,List.length_append];omega);rw[oh c.flds hlt,bK,bc,bE,List.append_nil];simp only[io c.flds[j],List.map_cons,List.map_nil,gL]at hF;generalize aX k (gy (c.flds.take j))=Y at *;generalize lnT k (0,ez c.flds[j])=Z at *
  simp -dsimp -implicitDefEqProofs only[aw,ah,V.copy,V.lend,V.lend1,V.cells,V.boxable,over,ak,ae,ac,ai,V.plain,Nat.reduceLeDiff,cond_true,cond_false,implies_true,eq_self,ne_eq,reduceIte,reduceCtorEq,Nat.reduceBEq,Nat.reduceLT,Nat.reduceEqDiff,Nat.reduceAdd,Nat.reduceSub,Nat.reduceMul,Int.ofNat_lt,hlt,decide_true,e1,io c.flds[j],List.map_cons,List.map_nil,aT,ig,List.length_set,gb];refine bV (hF _ (bt σ _ i _ hi)) ?_;rw[aN _ _ _ _ _ hi];simp -dsimp -implicitDefEqProofs only[aw,ah,V.copy,V.lend,V.lend1,V.cells,V.boxable,over,ak,ae,ac,ai,V.plain,Nat.reduceLeDiff,cond_true,cond_false,implies_true,eq_self,ne_eq,reduceIte,reduceCtorEq,Nat.reduceBEq,Nat.reduceLT,Nat.reduceEqDiff,Nat.reduceAdd,Nat.reduceSub,Nat.reduceMul,wj]
  exact⟨hlt,Nxt.drop (l:=[_]) (by simp) (bbt _ hb') (by simp[ax,V.under];exact⟨(List.getElem?_eq_some_iff.1 hc).1,(List.getElem?_eq_some_iff.1 hb).1⟩) ⟨rfl,rfl⟩⟩
 ·rw[List.take_of_length_le (show c.flds.length≤j by omega)];generalize hA:u++aX k (gy c.flds)=A at *;have hAl:A.length=u.length+(aX k (gy c.flds)).length:=by rw[←hA,List.length_append]
  simp -dsimp -implicitDefEqProofs only[aw,ah,V.copy,V.lend,V.lend1,V.cells,V.boxable,over,ak,ae,ac,ai,V.plain,Nat.reduceLeDiff,cond_true,cond_false,implies_true,eq_self,ne_eq,reduceIte,reduceCtorEq,Nat.reduceBEq,Nat.reduceLT,Nat.reduceEqDiff,Nat.reduceAdd,Nat.reduceSub,Nat.reduceMul,Int.ofNat_lt,hlt,decide_false,ga0,List.length_map];refine aS [1,18,19,20] (fun(j:Nat) ρ σ'=>ρ=[(1,.ptr b 0),(18,.d (.sl (c.blks.map dbk))),(19,aI .i64 c.blks.length),(20,aI .i64 j)]∧σ'=σ.set i (pgc i (some (A++aX k ((c.blks.take j).flatMap di))) k)) c.blks.length ⟨rfl,by rw[List.take_zero];show _=σ.set i (pgc i (some (A++[])) k);rw[List.append_nil]⟩ ?_ _;rintro j ρ' σ' hj ⟨rfl,rfl⟩;by_cases hlt:j<c.blks.length
  ·have wj:=aJ hlt (show c.blks.length≤9223372036854775807 by have:=hn.bl;omega);have e1:(c.blks.map dbk)[j]? = some (dbk c.blks[j]):=by rw[List.getElem?_map,List.getElem?_eq_getElem hlt];rfl
   have hBj:=hB (j+1);have hm:=kV (List.getElem_mem hlt);rw[oD c.blks hlt,bK,List.length_append]at hBj;have hF:=fun S h=>sr i (some (A++aX k ((c.blks.take j).flatMap di))) k c.blks[j] S (by omega) ⟨h,by omega⟩ hk9 (lg (hv.its _ (List.getElem_mem hlt))) (by rw[Option.getD_some,List.length_append];omega);rw[oD c.blks hlt,bK];simp only[fm c.blks[j],List.map_cons,List.map_nil,gL]at hF;generalize aX k ((c.blks.take j).flatMap di)=Y at *;generalize aX k (di c.blks[j])=Z at *
   simp -dsimp -implicitDefEqProofs only[aw,ah,V.copy,V.lend,V.lend1,V.cells,V.boxable,over,ak,ae,ac,ai,V.plain,Nat.reduceLeDiff,cond_true,cond_false,implies_true,eq_self,ne_eq,reduceIte,reduceCtorEq,Nat.reduceBEq,Nat.reduceLT,Nat.reduceEqDiff,Nat.reduceAdd,Nat.reduceSub,Nat.reduceMul,Int.ofNat_lt,hlt,decide_true,e1,fm c.blks[j],List.map_cons,List.map_nil,aT,ig,List.length_set,gb];refine bV (hF _ (bt σ _ i _ hi)) ?_;rw[aN _ _ _ _ _ hi];simp -dsimp -implicitDefEqProofs only[aw,ah,V.copy,V.lend,V.lend1,V.cells,V.boxable,over,ak,ae,ac,ai,V.plain,Nat.reduceLeDiff,cond_true,cond_false,implies_true,eq_self,ne_eq,reduceIte,reduceCtorEq,Nat.reduceBEq,Nat.reduceLT,Nat.reduceEqDiff,Nat.reduceAdd,Nat.reduceSub,Nat.reduceMul,wj]
   exact⟨hlt,Nxt.drop (l:=[_]) (by simp) (bbt _ hb') (by simp[ax,V.under];exact(List.getElem?_eq_some_iff.1 hb).1) ⟨rfl,rfl⟩⟩
  ·simp -dsimp -implicitDefEqProofs only[aw,ah,V.copy,V.lend,V.lend1,V.cells,V.boxable,over,ak,ae,ac,ai,V.plain,Nat.reduceLeDiff,cond_true,cond_false,implies_true,eq_self,ne_eq,reduceIte,reduceCtorEq,Nat.reduceBEq,Nat.reduceLT,Nat.reduceEqDiff,Nat.reduceAdd,Nat.reduceSub,Nat.reduceMul,Int.ofNat_lt,hlt,decide_false];rw[List.take_of_length_le (show c.blks.length≤j by omega),←List.append_assoc,hA];exact dx (v:=.tup []) (k:=σ.length) (Nat.le_refl _) (List.take_of_length_le (by simp)) (d5 hb' (bQ hi)) rfl rfl ⟨rfl,rfl⟩
end Go.Proofs.YtcbahpllcfbkmaaGreatDoor
