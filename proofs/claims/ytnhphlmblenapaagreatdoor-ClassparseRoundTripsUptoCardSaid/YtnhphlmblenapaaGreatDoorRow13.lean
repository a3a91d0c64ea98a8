import Derived.Deep.DeepHandedRow
import Derived.Deep.DeepWitnessRowRef
import Derived.Test.YtnhphlmblenapaaGreatDoorCw7
set_option linter.unusedVariables false
set_option linter.unusedSimpArgs false
set_option linter.unusedSectionVars false
set_option maxRecDepth 100000
set_option maxHeartbeats 8000000
open Int renaming ofNat_lt->TU
open List renaming length_append->TV,map_cons->TW,map_nil->TX,append_nil->TY,length_cons->TZ,sum_cons->T0,getElem?_append_right->T3,getElem?_eq_getElem->T4,getElem_mem->T5,take_of_length_le->T6,length_set->T7,take_succ_eq_append_getElem->T8,getElem?_map->T9,length_nil->Ua,length_map->Ub,take_append_drop->Uc,set_append_right->Ud,getElem?_set_ne->Ue,flatMap_append->Uf,map_append->Ug,take_zero->Uh,take_left->Ui
open Nat renaming mul_le_mul_right->Uj,strongRecOn->Uk,add_mul->Ul
open Option renaming getD_some->Um
namespace Go.Proofs.YtnhphlmblenapaaGreatDoor
open Go.RowKit
open Nat renaming reduceLeDiff -> jA, reduceBEq -> jB, reduceLT -> jC, reduceEqDiff -> jD, reduceAdd -> jE, reduceSub -> jF, reduceMul -> jG
open V renaming copy -> jV, lend -> jW, lend1 -> jX, cells -> jY, boxable -> jZ
def kg(l:List Fl):List Ln:=l.map fun f=>(0,nw f)
theorem uh(l:List Fl){j:Nat}(h:j<l.length):kg (l.take (j+1))=kg (l.take j)++[(0,nw l[j])]:=by
 unfold kg;rw[T8 h,Ug];rfl
theorem ud(l:List Bk){j:Nat}(h:j<l.length):(l.take (j+1)).flatMap gw=(l.take j).flatMap gw++gw l[j]:=by
 rw[T8 h,Uf];simp
theorem ub(k:Nat){A B C:List Ln}(h:A++B=C):(aZ k A).length≤(aZ k C).length:=by
 rw[<-h,bj,TV];omega
theorem K2(k:Nat)(l:List Fl)(j:Nat):(aZ k (kg (l.take j))).length≤(aZ k (kg l)).length:=
 ub k (B:=kg (l.drop j)) (by unfold kg;rw[<-Ug,Uc])
theorem KI(k:Nat)(l:List Bk)(j:Nat):(aZ k ((l.take j).flatMap gw)).length≤(aZ k (l.flatMap gw)).length:=
 ub k (B:=(l.drop j).flatMap gw) (by rw[<-Uf,Uc])
def mR(c:Kl):Nat:=(c.blks.map fun b=>aF b.2).sum
theorem km{c:Kl}{b:Bk}(h:b∈c.blks):aF b.2≤mR c:=by
 unfold mR;generalize c.blks=l at h
 induction l with
 | nil=>cases h
 | cons a r ih=>
  rw[TW,T0];rcases List.mem_cons.1 h with rfl|h
  .omega
  .have:=ih h;omega
structure KlV(c:Kl):Prop where
 cls:pY c=0
 its:∀b,b∈c.blks->cN b.2=0
def ke(c:Kl):Bool:=c.blks.all (fun b=>decide (cN b.2=0))&&decide (pY c=0)
theorem nV(c:Kl):ke c=true↔KlV c:=by
 unfold ke;rw[Bool.and_eq_true,List.all_eq_true,decide_eq_true_eq];exact⟨fun h=>⟨h.2,fun b hb=>of_decide_eq_true (h.1 b hb)⟩,fun h=>⟨fun b hb=>decide_eq_true (h.its b hb),h.cls⟩⟩
theorem Dk{l:List Fl}(h:lM l=0):∀f,f∈l->rR f=0:=by
 induction l with
 | nil=>intro f hf;cases hf
 | cons a r ih=>
  rw[lM]at h;by_cases h0:rR a=0
  .rw[if_neg (by simp[h0])]at h;intro f hf;rcases List.mem_cons.1 hf with rfl|hf
   .exact h0
   .exact ih h f hf
  .rw[if_pos h0]at h;exact absurd h h0
theorem BX:∀(l:List Bk) (k:Int),0≤k->¬0≤rg l k->∀b,b∈l->aS b.1=true
 | [],_,_,_,b,hb=>by cases hb
 | a::r,k,hk,h,b,hb=>by
  rw[rg]at h;cases hn:aS a.1 with
  | false=>rw[hn,if_pos rfl]at h;exact absurd hk h
  | true=>
   rw[hn,if_neg (by simp)]at h;rcases List.mem_cons.1 hb with rfl|hb
   .exact hn
   .exact BX r (k+1) (by omega) h b hb
structure KlN(c:Kl):Prop where
 nm:aS c.name=true
 par:c.par=⟨#[]⟩\/aS c.par=true
 fl:c.flds.length≤16
 bl:c.blks.length≤16
 fv:∀f,f∈c.flds->FlV f
 bn:∀b,b∈c.blks->aS b.1=true
theorem wC{c:Kl}(h:pY c=0):KlN c:=by
 unfold pY at h;by_cases h1:aS c.name=false\/(c.par≠⟨#[]⟩/\aS c.par=false)
 .rw[if_pos h1]at h;omega
 rw[if_neg h1]at h;by_cases h2:16<c.flds.length\/16<c.blks.length
 .rw[if_pos h2]at h;omega
 rw[if_neg h2]at h;by_cases h3:lM c.flds=0;case neg=>rw[if_pos h3]at h;exact absurd h h3
 rw[if_neg (by simp[h3])]at h;by_cases h4:0≤rg c.blks 0
 .rw[if_pos h4]at h;omega
 refine⟨?_,?_,by omega,by omega,fun f hf=>MS (Dk h3 f hf),BX _ 0 (Int.le_refl _) h4⟩
 .cases hn:aS c.name with
  | true=>rfl
  | false=>exact absurd (.inl hn) h1
 .by_cases hp:c.par=⟨#[]⟩
  .exact .inl hp
  .refine .inr ?_;cases hn:aS c.par with
   | true=>rfl
   | false=>exact absurd (.inr ⟨hp,hn⟩) h1
theorem xA(k:Nat):∀l:List Fl,(∀f,f∈l->FlV f)->(aZ k (kg l)).length≤l.length*(4*k+61)
 | [],_=>by simp[kg,aZ]
 | f::r,h=>by
  have h1:=FP (h f (by simp));have h2:=xA k r fun g hg=>h g (by simp[hg]);have e:kg (f::r)=[(0,nw f)]++kg r:=rfl;rw[e,bj,TV,aM,cd,TY,eJ,TZ,Ul];simp only;omega
theorem xE(k:Nat):∀l:List Bk,(∀b,b∈l->aS b.1=true/\rvl b.2 0=0)->(aZ k (l.flatMap gw)).length≤l.length*(8*k+40)+(l.map fun b=>aF b.2).sum*(12*(k+1)+172)
 | [],_=>by simp[aZ]
 | b::r,h=>by
  obtain⟨n1,n2⟩:=h b (by simp);have h1:=dg n1;have h2:=A3 (k+1) b.2 0 n2;have h3:=xE k r fun g hg=>h g (by simp[hg]);have e:(b::r).flatMap gw=gw b++r.flatMap gw:=rfl;have hb:gw b=(0,[99,111,110,115,116,114,97,105,110,116,32]++(bw b.1++[32,123]))::(upL (lns b.2)++[(0,[125])]):=rfl;rw[e,bj,hb];simp only[aM,bj,ed,cd,TV,eJ,TZ,Ua,TW,T0,Ul,bw,Nat.add_zero]at h2 ⊢;omega
theorem KL{c:Kl}(h:KlV c)(hk:mR c≤1100000):(fY c).length≤1000000000:=by
 have hn:=wC h.cls;have h1:=dg hn.nm
 have h2:(tL c.par).length≤30:=by
  unfold tL bw;split
  .simp
  .rename_i hne;have:=dg (hn.par.resolve_left hne);simp only[TV,TZ,Ua];omega
 have h3:=xA 1 c.flds hn.fv;have h4:(aZ 1 (c.blks.flatMap gw)).length≤c.blks.length*(8*1+40)+mR c*(12*(1+1)+172):=xE 1 c.blks fun b hb=>⟨hn.bn b hb,kC (h.its b hb)⟩
 have h5:mR c*(12*(1+1)+172)≤1100000*(12*(1+1)+172):=Uj _ hk;have h6:c.flds.length*(4*1+61)≤16*(4*1+61):=Uj _ hn.fl;have h7:c.blks.length*(8*1+40)≤16*(8*1+40):=Uj _ hn.bl;unfold kg at h3;unfold fY Ez;simp only[Nat.zero_add,aM,bj,ed,cd,TV,eJ,TZ,Ua,bw];omega
theorem wo(f:Fl):dfl f=[ab f.name,ac f.width,ac f.size,ac f.mode,ac f.init]:=rfl
theorem oq(b:Bk):dbk b=[ab b.1,fF b.2]:=rfl
theorem tK(c:Kl)(hk:mR c≤1100000)(hf:c.flds.length≤1200000)(hbk:c.blks.length≤1200000)(σ:LLV):Fun G 50 [vkl c] σ (aP (ak (ke c)) σ):=by
 refine ai Tryz.func50 k50 rfl fun hb hw=>?_;unfold c50;simp -dsimp only[aw,jV,jW,jX,jY,jZ,jA,reduceIte,reduceCtorEq,jB,jC,jD,jE,jF,jG,Ub]
 refine aN [1,6,7,8] (fun(j:Nat) ρ σ'=>ρ=[(1,.ptr σ.length 0),(6,.d (.sl (c.blks.map dbk))),(7,aB .i64 c.blks.length),(8,aB .i64 j)]/\σ'=σ++[[.d (ab c.name),.d (ab c.par),.d (.sl (c.flds.map dfl)),.d (.sl (c.blks.map dbk))]]/\
  ke c=((c.blks.drop j).all (fun b=>decide (cN b.2=0))&&decide (pY c=0))) c.blks.length ⟨rfl,rfl,rfl⟩ ?_ _
 rintro j ρ' σ' hj ⟨rfl,rfl,hI⟩;by_cases hlt:j<c.blks.length
 .have wj:=aH hlt (show c.blks.length≤9223372036854775807 by omega);have e1:(c.blks.map dbk)[j]? = some (dbk c.blks[j]):=by rw[T9,T4 hlt];rfl
  have hm:=km (T5 hlt);rw[List.drop_eq_getElem_cons hlt,List.all_cons]at hI;simp -dsimp only[aw,jV,jW,jX,jY,jZ,jA,reduceIte,reduceCtorEq,jB,jC,jD,jE,jF,jG,TU,hlt,decide_true,e1,oq c.blks[j],TW,TX];refine ae (ji _ (by omega) _) ?_;by_cases h0:cN c.blks[j].2=0
  .rw[decide_eq_true h0,Bool.true_and]at hI;simp -dsimp only[aw,jV,jW,jX,jY,jZ,jA,reduceIte,reduceCtorEq,jB,jC,jD,jE,jF,jG,h0,decide_true,wj];exact⟨hlt,Nxt.drp1 (by simp) (ax hb rfl) (by simp[aq,V.under]) ⟨rfl,rfl,hI⟩⟩
  .rw[decide_eq_false h0,Bool.false_and,Bool.false_and]at hI;rw[hI];simp -dsimp only[aw,jV,jW,jX,jY,jZ,jA,reduceIte,reduceCtorEq,jB,jC,jD,jE,jF,jG,decide_eq_false h0];first|exact av hb rfl rfl|exact au hb rfl rfl
 .rw[List.drop_eq_nil_of_le (by omega),List.all_nil,Bool.true_and]at hI;rw[hI];simp -dsimp only[aw,jV,jW,jX,jY,jZ,jA,reduceIte,reduceCtorEq,jB,jC,jD,jE,jF,jG,TU,hlt,decide_false];refine ae (mC c hf hbk _) ?_;simp -dsimp only[aw,jV,jW,jX,jY,jZ,jA,reduceIte,reduceCtorEq,jB,jC,jD,jE,jF,jG];first|exact av hb rfl rfl|exact au hb rfl rfl
theorem J3(a b i:Nat)(u:Bs)(k:Nat)(c:Kl)(σ:LLV)(hv:KlV c)(hk:mR c≤1100000)(hc:σ[a]? = some [.d (ab c.name),.d (ab c.par),.d (.sl (c.flds.map dfl)),.d (.sl (c.blks.map dbk))])(hb:σ[b]? = some [.ptr i 0])(hp:σ[i]? = some (pgc i (some u) k))(hk9:k≤99)
 (hl:u.length+(aZ k (kg c.flds++c.blks.flatMap gw)).length≤140737488355328):
 Fun G 53 [.ptr a 0,.ptr b 0] σ (fun o σ'=>o=.ret (.tup [])/\σ'=σ.set i (pgc i (some (u++aZ k (kg c.flds++c.blks.flatMap gw))) k)):=by
 have hn:=wC hv.cls;have hi:i<σ.length:=(List.getElem?_eq_some_iff.1 hp).1
 have hbi:b≠i:=fun e=>by
  rw[e,hp]at hb;simp[pgc,pgu]at hb
 have hai:a≠i:=fun e=>by
  rw[e,hp]at hc;simp[pgc,pgu]at hc
 have gb:∀X L,(σ.set i X++L)[b]? = some [.ptr i 0]:=fun X L=>by
  rw[List.getElem?_append_left (by rw[T7];exact(List.getElem?_eq_some_iff.1 hb).1),Ue (Ne.symm hbi)];exact hb
 have gb0:∀X,(σ.set i X)[b]? = some [.ptr i 0]:=fun X=>by have:=gb X [];rwa[TY]at this
 have ga0:∀X,(σ.set i X)[a]? = some [.d (ab c.name),.d (ab c.par),.d (.sl (c.flds.map dfl)),.d (.sl (c.blks.map dbk))]:=fun X=>by
  rw[Ue (Ne.symm hai)];exact hc
 have bbt:∀t,aj σ.length σ=true->aj (σ.set i (pgc i t k)).length (σ.set i (pgc i t k))=true:=fun t hb=>by
  rw[T7];exact gm hb (cv hi)
 rw[bj,TV]at hl;rw[bj];have hf:=fun j=>K2 k c.flds j;have hB:=fun j=>KI k c.blks j;refine ai Tryz.func53 k53 rfl fun hb' hw=>?_;unfold c53;simp -dsimp only[aw,jV,jW,jX,jY,jZ,jA,reduceIte,reduceCtorEq,jB,jC,jD,jE,jF,jG,hc,Ub];refine aN [0,1,7,8,9] (fun(j:Nat) ρ σ'=>ρ=[(0,.ptr a 0),(1,.ptr b 0),(7,.d (.sl (c.flds.map dfl))),(8,aB .i64 c.flds.length),(9,aB .i64 j)]/\σ'=σ.set i (pgc i (some (u++aZ k (kg (c.flds.take j)))) k)) c.flds.length ⟨rfl,by rw[Uh];show σ=σ.set i (pgc i (some (u++[])) k);rw[TY,E8 hp]⟩ ?_ _;rintro j ρ' σ' hj ⟨rfl,rfl⟩;by_cases hlt:j<c.flds.length
 .have wj:=aH hlt (show c.flds.length≤9223372036854775807 by have:=hn.fl;omega);have e1:(c.flds.map dfl)[j]? = some (dfl c.flds[j]):=by rw[T9,T4 hlt];rfl
  have hfj:=hf (j+1);rw[uh c.flds hlt,bj,aM,cd,TY,TV]at hfj;have hF:=fun S h=>AG i (some (u++aZ k (kg (c.flds.take j)))) k c.flds[j] S ⟨h,by omega⟩ (hn.fv _ (T5 hlt)) (by rw[Um,TV];omega);rw[uh c.flds hlt,bj,aM,cd,TY];simp only[wo c.flds[j],TW,TX,kA]at hF;generalize aZ k (kg (c.flds.take j))=Y at *;generalize lnT k (0,nw c.flds[j])=Z at *;simp -dsimp only[aw,jV,jW,jX,jY,jZ,jA,reduceIte,reduceCtorEq,jB,jC,jD,jE,jF,jG,TU,hlt,decide_true,e1,wo c.flds[j],TW,TX,bi,kY,T7,gb];refine cj (hF _ (bU σ _ i _ hi)) ?_;rw[aT _ _ _ _ _ hi];simp -dsimp only[aw,jV,jW,jX,jY,jZ,jA,reduceIte,reduceCtorEq,jB,jC,jD,jE,jF,jG,wj]
  exact⟨hlt,Nxt.drop (l:=[_]) (by simp) (bbt _ hb') (by simp[aq,V.under];exact⟨(List.getElem?_eq_some_iff.1 hc).1,(List.getElem?_eq_some_iff.1 hb).1⟩) ⟨rfl,rfl⟩⟩
 .rw[T6 (show c.flds.length≤j by omega)];generalize hA:u++aZ k (kg c.flds)=A at *;have hAl:A.length=u.length+(aZ k (kg c.flds)).length:=by rw[<-hA,TV]
  simp -dsimp only[aw,jV,jW,jX,jY,jZ,jA,reduceIte,reduceCtorEq,jB,jC,jD,jE,jF,jG,TU,hlt,decide_false,ga0,Ub];refine aN [1,18,19,20] (fun(j:Nat) ρ σ'=>ρ=[(1,.ptr b 0),(18,.d (.sl (c.blks.map dbk))),(19,aB .i64 c.blks.length),(20,aB .i64 j)]/\σ'=σ.set i (pgc i (some (A++aZ k ((c.blks.take j).flatMap gw))) k)) c.blks.length ⟨rfl,by rw[Uh];show _=σ.set i (pgc i (some (A++[])) k);rw[TY]⟩ ?_ _;rintro j ρ' σ' hj ⟨rfl,rfl⟩;by_cases hlt:j<c.blks.length
  .have wj:=aH hlt (show c.blks.length≤9223372036854775807 by have:=hn.bl;omega);have e1:(c.blks.map dbk)[j]? = some (dbk c.blks[j]):=by rw[T9,T4 hlt];rfl
   have hBj:=hB (j+1);have hm:=km (T5 hlt);rw[ud c.blks hlt,bj,TV]at hBj;have hF:=fun S h=>Al i (some (A++aZ k ((c.blks.take j).flatMap gw))) k c.blks[j] S (by omega) ⟨h,by omega⟩ hk9 (kC (hv.its _ (T5 hlt))) (by rw[Um,TV];omega);rw[ud c.blks hlt,bj];simp only[oq c.blks[j],TW,TX,kA]at hF;generalize aZ k ((c.blks.take j).flatMap gw)=Y at *;generalize aZ k (gw c.blks[j])=Z at *;simp -dsimp only[aw,jV,jW,jX,jY,jZ,jA,reduceIte,reduceCtorEq,jB,jC,jD,jE,jF,jG,TU,hlt,decide_true,e1,oq c.blks[j],TW,TX,bi,kY,T7,gb];refine cj (hF _ (bU σ _ i _ hi)) ?_;rw[aT _ _ _ _ _ hi]
   simp -dsimp only[aw,jV,jW,jX,jY,jZ,jA,reduceIte,reduceCtorEq,jB,jC,jD,jE,jF,jG,wj];exact⟨hlt,Nxt.drop (l:=[_]) (by simp) (bbt _ hb') (by simp[aq,V.under];exact(List.getElem?_eq_some_iff.1 hb).1) ⟨rfl,rfl⟩⟩
  .simp -dsimp only[aw,jV,jW,jX,jY,jZ,jA,reduceIte,reduceCtorEq,jB,jC,jD,jE,jF,jG,TU,hlt,decide_false];rw[T6 (show c.blks.length≤j by omega),<-List.append_assoc,hA];exact eT (v:=.tup []) (k:=σ.length) (Nat.le_refl _) (T6 (by simp)) (gm hb' (cv hi)) rfl rfl ⟨rfl,rfl⟩
def lw(c:Kl):Bs:=if ke c=true then fY c else[]
theorem ug(c:Kl)(hk:mR c≤1100000)(hf:c.flds.length≤1200000)(hbk:c.blks.length≤1200000)(σ:LLV):Fun G 20 [vkl c] σ (aP (.d (ab (bs (lw c)))) σ):=by
 refine ai Tryz.func20 k20 rfl fun hb hw=>?_;unfold c20 lw;simp -dsimp only[aw,jV,jW,jX,jY,jZ,jA,reduceIte,reduceCtorEq,jB,jC,jD,jE,jF,jG];refine ae (tK c hk hf hbk _) ?_;cases hp:ke c with
 | false=>
  rw[if_neg (by simp)];simp -dsimp only[aw,jV,jW,jX,jY,jZ,jA,reduceIte,reduceCtorEq,jB,jC,jD,jE,jF,jG];first|exact av hb rfl rfl|exact au hb rfl rfl
 | true=>
 have hv:=(nV c).1 hp;have hn:=wC hv.cls;have hlen:=KL hv hk;rw[if_pos rfl]
 have hcl:fY c=lnT 0 (0,[99,108,97,115,115,32]++(bw c.name++(tL c.par++[32,123])))++(aZ 1 (kg c.flds++c.blks.flatMap gw)++lnT 0 (0,[125])):=by
  unfold fY Ez;rw[aM,bj,ed,aM,cd,TY];rfl
 obtain⟨S,hS⟩:∃S,S=tL c.par:=⟨_,rfl⟩
 rw[<-hS]at hcl;have fl:[bs [99,108,97,115,115,32],c.name,bs S,bs [32,123]].flatMap bw=[99,108,97,115,115,32]++(bw c.name++(S++[32,123])):=by simp[bw,bJ]
 rw[hcl]at hlen ⊢;simp only[TV]at hlen;have hL:=fun i S' h=>eP i none 0 [bs [99,108,97,115,115,32],c.name,bs S,bs [32,123]] (by omega) (by rw[fl];show 0+(lnT 0 (0,[99,108,97,115,115,32]++(bw c.name++(S++[32,123])))).length≤_;omega) (by simp) S' h;rw[fl]at hL;generalize hH:lnT 0 (0,[99,108,97,115,115,32]++(bw c.name++(S++[32,123])))=H at *;have hHne:H≠[]:=by rw[<-hH];exact Be _ _
 have hadd:dx none H=some H:=by rw[<-vV none hHne];rfl
 rw[hadd]at hL;have hB:=fun a b i S' h1 h2 h3=>J3 a b i H 1 c S' hv hk h1 h2 h3 (by omega) (by omega);generalize hX:aZ 1 (kg c.flds++c.blks.flatMap gw)=X at *;have hE:=fun i S' h=>eP i (some (H++X)) 0 [bs [125]] (by omega) (by rw[f125,Um,TV];omega) (by simp) S' h;rw[f125,kA]at hE;generalize hY:lnT 0 (0,[125])=Y at *;have hT:=fun i S' h=>yO i (some (H++(X++Y))) ((0:Nat):Int) (by simp;intro h;exact absurd h hHne) (by rw[Um];simp only[TV];omega) S' h;rw[Um]at hT
 have seg:∀A B E Z:List V,(σ++[A,B,E]).set (σ.length+1) Z=σ++[A,Z,E]:=fun A B E Z=>by
  rw[Ud _ _ (by omega),show σ.length+1-σ.length=1 by omega];rfl
 have at1:∀A B E:List V,(σ++[A,B,E])[σ.length+1]? = some B:=fun A B E=>by
  rw[T3 (by omega),show σ.length+1-σ.length=1 by omega];rfl
 have at2:∀A B E:List V,(σ++[A,B,E])[σ.length+1+1]? = some E:=fun A B E=>by
  rw[T3 (by omega),show σ.length+1+1-σ.length=2 by omega];rfl
 have seg2:∀A B E Z:List V,(σ++[A,B,E]).set (σ.length+1+1) Z=σ++[A,B,Z]:=fun A B E Z=>by
  rw[Ud _ _ (by omega),show σ.length+1+1-σ.length=2 by omega];rfl
 have at0:∀A B E:List V,(σ++[A,B,E])[σ.length]? = some A:=fun A B E=>by
  rw[T3 (by omega),Nat.sub_self];rfl
 by_cases he:c.par=⟨#[]⟩
 .have hS0:S=[]:=by rw[hS];unfold tL;rw[if_pos he]
  subst hS0;simp -dsimp only[aw,jV,jW,jX,jY,jZ,jA,reduceIte,reduceCtorEq,jB,jC,jD,jE,jF,jG,seg2,at0,at1,at2,decide_eq_true he];refine cj (hL _ _ (at1 _ _ _)) ?_;rw[seg];simp -dsimp only[aw,jV,jW,jX,jY,jZ,jA,reduceIte,reduceCtorEq,jB,jC,jD,jE,jF,jG,seg2,at0,at1,at2];refine cj (fp (σ.length+1) H (H++X) 0 (by omega) _ _ _ (at1 _ _ _) ?_) ?_
  .rw[seg,seg];have:=hB σ.length (σ.length+1+1) (σ.length+1) (σ++[[.d (ab c.name),.d (ab c.par),.d (.sl (c.flds.map dfl)),.d (.sl (c.blks.map dbk))],pgc (σ.length+1) (some H) ((0+1:Nat):Int),[.ptr (σ.length+1) 0]]) (at0 _ _ _) (at2 _ _ _) (at1 _ _ _);rw[seg]at this;exact this
  rw[seg];simp -dsimp only[aw,jV,jW,jX,jY,jZ,jA,reduceIte,reduceCtorEq,jB,jC,jD,jE,jF,jG,seg2,at0,at1,at2];refine cj (hE _ _ (at1 _ _ _)) ?_;rw[seg];simp -dsimp only[aw,jV,jW,jX,jY,jZ,jA,reduceIte,reduceCtorEq,jB,jC,jD,jE,jF,jG,seg2,at0,at1,at2];refine cj (hT _ _ (at1 _ _ _)) ?_;rw[seg];simp -dsimp only[aw,jV,jW,jX,jY,jZ,jA,reduceIte,reduceCtorEq,jB,jC,jD,jE,jF,jG];exact aO hb rfl rfl Ui ⟨rfl,rfl⟩
 .have hS0:S=[32,101,120,116,101,110,100,115,32]++bw c.par:=by rw[hS];unfold tL;rw[if_neg he]
  have hpl:=dg (hn.par.resolve_left he);have hps:c.par.size=c.par.data.toList.length:=rfl
  have hs:bE .add (V.d (ab ⟨#[32,101,120,116,101,110,100,115,32]⟩)) (V.d (ab c.par))=some (V.d (ab (bs S))):=by
   have:=bK [32,101,120,116,101,110,100,115,32] (bw c.par) (by simp[bw];omega);rw[<-hS0]at this;unfold bw at this;rw[ec]at this;exact this
  simp -dsimp only[aw,jV,jW,jX,jY,jZ,jA,reduceIte,reduceCtorEq,jB,jC,jD,jE,jF,jG,seg2,at0,at1,at2,decide_eq_false he,hs];refine cj (hL _ _ (at1 _ _ _)) ?_;rw[seg];simp -dsimp only[aw,jV,jW,jX,jY,jZ,jA,reduceIte,reduceCtorEq,jB,jC,jD,jE,jF,jG,seg2,at0,at1,at2];refine cj (fp (σ.length+1) H (H++X) 0 (by omega) _ _ _ (at1 _ _ _) ?_) ?_
  .rw[seg,seg];have:=hB σ.length (σ.length+1+1) (σ.length+1) (σ++[[.d (ab c.name),.d (ab c.par),.d (.sl (c.flds.map dfl)),.d (.sl (c.blks.map dbk))],pgc (σ.length+1) (some H) ((0+1:Nat):Int),[.ptr (σ.length+1) 0]]) (at0 _ _ _) (at2 _ _ _) (at1 _ _ _);rw[seg]at this;exact this
  rw[seg];simp -dsimp only[aw,jV,jW,jX,jY,jZ,jA,reduceIte,reduceCtorEq,jB,jC,jD,jE,jF,jG,seg2,at0,at1,at2];refine cj (hE _ _ (at1 _ _ _)) ?_;rw[seg];simp -dsimp only[aw,jV,jW,jX,jY,jZ,jA,reduceIte,reduceCtorEq,jB,jC,jD,jE,jF,jG,seg2,at0,at1,at2];refine cj (hT _ _ (at1 _ _ _)) ?_;rw[seg];simp -dsimp only[aw,jV,jW,jX,jY,jZ,jA,reduceIte,reduceCtorEq,jB,jC,jD,jE,jF,jG];exact aO hb rfl rfl Ui ⟨rfl,rfl⟩
abbrev dkl(c:Kl):List D:=[ab c.name,ab c.par,.sl (c.flds.map dfl),.sl (c.blks.map dbk)]
end Go.Proofs.YtnhphlmblenapaaGreatDoor
namespace Go.Proofs.YtnhphlmblenapaaGreatDoor
open Go.ChangeShapes Go.WideShapes Go.ChangeAt Go.RowKit
instance inh13Ex:Inhabited Ex:=⟨.mk 0 0 ⟨#[]⟩ []⟩
instance inh13Wt:Inhabited Wt:=⟨⟨0,0,0,false⟩⟩
instance inh13It:Inhabited It:=⟨.mk 0 (.mk 0 0 ⟨#[]⟩ []) ⟨#[]⟩ ⟨#[]⟩ [] [] [] [] []⟩
instance inh13Fl:Inhabited Fl:=⟨⟨⟨#[]⟩,0,0,0,0⟩⟩
instance inh13Kl:Inhabited Kl:=⟨⟨⟨#[]⟩,⟨#[]⟩,[],[]⟩⟩
theorem ip{H:Type}(d:DataW H):1≤Rows.uptoBulk d:=by
 cases d with
 | lit l=>cases l<;>simp[Rows.uptoBulk]
 | nil=>simp[Rows.uptoBulk]
 | ptr d=>simp[Rows.uptoBulk]
 | slice elems spare=>simp[Rows.uptoBulk]
 | agg parts=>simp[Rows.uptoBulk]
 | iface t d=>simp[Rows.uptoBulk]
 | map entries=>simp[Rows.uptoBulk]
 | held h=>simp[Rows.uptoBulk]
theorem yQ{H:Type}{α:Type}(g:α->Nat):∀(l:List α) (es:List (DataW H)),es.length=l.length->(∀i (h:i<l.length) (h':i<es.length),g l[i]≤Rows.uptoBulk es[i])->(l.map g).sum≤Rows.uptoBulkAll es
 | [],es,_,_=>by simp
 | a::r,e::es,hl,h=>by
  have h1:=h 0 (by simp) (by simp);have h2:=yQ g r es (by simpa using hl) (fun i g1 g2=>h (i+1) (by simpa using g1) (by simpa using g2));simp only[List.getElem_cons_zero]at h1;simp only[TW,T0,Rows.uptoBulkAll];omega
theorem eZ{H:Type}{α:Type}(g:α->Nat){l:List α}{d:DataW H}(h:(d=.nil/\l=[])\/∃elems rest:List (DataW H),d=.slice elems rest/\elems.length=l.length/\∀i (h:i<l.length) (h':i<elems.length),g l[i]≤Rows.uptoBulk elems[i]):(l.map g).sum+1≤Rows.uptoBulk d:=by
 rcases h with⟨rfl,rfl⟩|⟨es,rest,rfl,h1,h2⟩
 .simp[Rows.uptoBulk]
 .have:=yQ g l es h1 h2;simp only[Rows.uptoBulk];omega
theorem z6(l:List Ex):5*bo l=(l.map fun e=>5*aX e).sum:=by
 induction l with
 | nil=>rfl
 | cons a r ih=>simp only[bo,TW,T0,<-ih];omega
theorem vd(l:List It):aF l=(l.map fg).sum:=by
 induction l with
 | nil=>rfl
 | cons a r ih=>simp only[aF,ih,TW,T0]
theorem sm{α:Type}(l:List α):l.length=(l.map fun _=>1).sum:=by
 induction l with
 | nil=>rfl
 | cons a r ih=>simp only[TZ,TW,T0,<-ih];omega
section
variable {H : Type} {enc : TypeId × Value -> H} {w : World} {v : Value} {d : DataW H} {p : List MemPlace} {base : Nat} {spare : Nat -> Bool} {held : Bool}
theorem HJ:∀(n:Nat) {cs:List Value} {y:DataW H×List MemPlace},DataW.trod enc Tryz.prog w base spare held n 50 cs=some y->∃e:Ex,gD (mem w) (dex e) cs/\5*aX e≤Rows.uptoBulk y.1:=by
 intro n
 induction n using Uk with
 | _ n ih=>
 intro cs y h;obtain⟨xs,m,rfl,rfl,hlen,hxs,hf⟩:=DataW.trod_struct Tryz.underlying50 h;rw[show Tryz.prog.cellsOf 50=4 by kernel_rfl]at hlen
 match cs,hlen with
 | [a,b,c,e],_=>
  have hx2:xs.length=4:=hxs
  match xs,hx2 with
  | [x0,x1,x2,x3],_=>
  have f0:DataW.trod enc Tryz.prog w base spare held m 3 [a]=some x0:=hf 0 _ rfl;have f1:DataW.trod enc Tryz.prog w base spare held m 3 [b]=some x1:=hf 1 _ rfl;have f2:DataW.trod enc Tryz.prog w base spare held m 9 [c]=some x2:=hf 2 _ rfl;have f3:DataW.trod enc Tryz.prog w base spare held m 48 [e]=some x3:=hf 3 _ rfl;obtain⟨o,g0,k0⟩:=eF Tryz.underlying3 f0;obtain⟨q,g1,k1⟩:=eF Tryz.underlying3 f1;obtain⟨s,g2,k2⟩:=gh Tryz.underlying9 f2;obtain⟨l,v',g3,k3,hb⟩:=dJ (k:=4) Tryz.underlying48 (by kernel_rfl) (by decide) dex (fun a=>by rw[bC];rfl) (fun e d=>5*aX e≤Rows.uptoBulk d) f3 (fun n' hn cs' y hy=>ih n' (by omega) hy);cases g0;cases g1;cases g2;cases g3;refine⟨.mk o q s l,by rw[bC];exact .cons (.lit _ k0) (.cons (.lit _ k1) (.cons (.lit _ k2) (.cons k3 .nil))),?_⟩;have hb':=eZ (fun e=>5*aX e) hb;rw[<-z6]at hb'
  have b0:=ip x0.1;have b1:=ip x1.1;have b2:=ip x2.1;simp only[aX,TW,TX,Rows.uptoBulk,Rows.uptoBulkAll];omega
theorem Ff(n:Nat){cs:List Value}{y:DataW H×List MemPlace}(h:DataW.trod enc Tryz.prog w base spare held n 56 cs=some y):∃e:Wt,gD (mem w) (dwt e) cs:=by
 obtain⟨xs,m,rfl,rfl,hlen,hxs,hf⟩:=DataW.trod_struct Tryz.underlying56 h;rw[show Tryz.prog.cellsOf 56=4 by kernel_rfl]at hlen
 match cs,hlen with
 | [a,b,c,e],_=>
  have hx2:xs.length=4:=hxs
  match xs,hx2 with
  | [x0,x1,x2,x3],_=>
  have f0:DataW.trod enc Tryz.prog w base spare held m 3 [a]=some x0:=hf 0 _ rfl;have f1:DataW.trod enc Tryz.prog w base spare held m 3 [b]=some x1:=hf 1 _ rfl;have f2:DataW.trod enc Tryz.prog w base spare held m 3 [c]=some x2:=hf 2 _ rfl;have f3:DataW.trod enc Tryz.prog w base spare held m 4 [e]=some x3:=hf 3 _ rfl;obtain⟨o,g0,k0⟩:=eF Tryz.underlying3 f0;obtain⟨q,g1,k1⟩:=eF Tryz.underlying3 f1;obtain⟨r,g2,k2⟩:=eF Tryz.underlying3 f2;obtain⟨b,g3⟩:=Ar Tryz.underlying4 f3;cases g0;cases g1;cases g2;cases g3;exact⟨⟨o,q,r,b⟩,.cons (.lit _ k0) (.cons (.lit _ k1) (.cons (.lit _ k2) (.cons (.lit _ trivial) .nil)))⟩
theorem sF(n:Nat){cs:List Value}{y:DataW H×List MemPlace}(h:DataW.trod enc Tryz.prog w base spare held n 52 cs=some y):∃(l:List ByteArray) (v:Value),cs=[v]/\DRep (mem w) (dy l) v/\l.length+1≤Rows.uptoBulk y.1:=by
 obtain⟨l,v',g3,k3,hb⟩:=dJ (k:=1) Tryz.underlying52 (by kernel_rfl) (by decide) (fun s:ByteArray=>[ab s]) (fun a=>rfl) (fun _ d=>1≤Rows.uptoBulk d) h (fun n' hn cs' y hy=>by
  obtain⟨s,rfl,k⟩:=gh Tryz.underlying9 hy;exact⟨s,.cons (.lit _ k) .nil,ip _⟩)
 have hb':=eZ (fun _:ByteArray=>1) hb;rw[<-sm]at hb';exact⟨l,v',g3,k3,hb'⟩
theorem G9:∀(n:Nat) {cs:List Value} {y:DataW H×List MemPlace},DataW.trod enc Tryz.prog w base spare held n 54 cs=some y->∃s:It,gD (mem w) (dit s) cs/\fg s≤Rows.uptoBulk y.1:=by
 intro n
 induction n using Uk with
 | _ n ih=>
 intro cs y h;obtain⟨xs,m,rfl,rfl,hlen,hxs,hf⟩:=DataW.trod_struct Tryz.underlying54 h;rw[show Tryz.prog.cellsOf 54=12 by kernel_rfl]at hlen
 match cs,hlen with
 | [a,e0,e1,e2,e3,nm,ix,ws,it,el,bf,af],_=>
  have hx2:xs.length=9:=hxs
  match xs,hx2 with
  | [x0,x1,x2,x3,x4,x5,x6,x7,x8],_=>
  have f0:DataW.trod enc Tryz.prog w base spare held m 3 [a]=some x0:=hf 0 _ rfl
  have f1:DataW.trod enc Tryz.prog w base spare held m 50 [e0,e1,e2,e3]=some x1:=by
   have:=hf 1 _ rfl;change DataW.trod enc Tryz.prog w base spare held m 50 (([a,e0,e1,e2,e3,nm,ix,ws,it,el,bf,af].drop 1).take (Tryz.prog.cellsOf 50))=some x1 at this;rw[show Tryz.prog.cellsOf 50=4 by kernel_rfl]at this;exact this
  have f2:DataW.trod enc Tryz.prog w base spare held m 9 [nm]=some x2:=hf 2 _ rfl;have f3:DataW.trod enc Tryz.prog w base spare held m 9 [ix]=some x3:=hf 3 _ rfl;have f4:DataW.trod enc Tryz.prog w base spare held m 51 [ws]=some x4:=hf 4 _ rfl;have f5:DataW.trod enc Tryz.prog w base spare held m 23 [it]=some x5:=hf 5 _ rfl;have f6:DataW.trod enc Tryz.prog w base spare held m 23 [el]=some x6:=hf 6 _ rfl;have f7:DataW.trod enc Tryz.prog w base spare held m 52 [bf]=some x7:=hf 7 _ rfl;have f8:DataW.trod enc Tryz.prog w base spare held m 52 [af]=some x8:=hf 8 _ rfl;obtain⟨o,g0,k0⟩:=eF Tryz.underlying3 f0;obtain⟨e,k1,h1⟩:=HJ m f1;obtain⟨s2,g2,k2⟩:=gh Tryz.underlying9 f2;obtain⟨s3,g3,k3⟩:=gh Tryz.underlying9 f3
  obtain⟨l4,v4,g4,k4,hb4⟩:=dJ (k:=4) Tryz.underlying51 (by kernel_rfl) (by decide) dwt (fun a=>rfl) (fun _ d=>1≤Rows.uptoBulk d) f4 (fun n' hn cs' y hy=>by
   obtain⟨q,hq⟩:=Ff n' hy;exact⟨q,hq,ip _⟩)
  obtain⟨l5,v5,g5,k5,hb5⟩:=dJ (k:=12) Tryz.underlying23 (by kernel_rfl) (by decide) dit vz (fun e d=>fg e≤Rows.uptoBulk d) f5 (fun n' hn cs' y hy=>ih n' (by omega) hy);obtain⟨l6,v6,g6,k6,hb6⟩:=dJ (k:=12) Tryz.underlying23 (by kernel_rfl) (by decide) dit vz (fun e d=>fg e≤Rows.uptoBulk d) f6 (fun n' hn cs' y hy=>ih n' (by omega) hy);obtain⟨l7,v7,g7,k7,h7⟩:=sF m f7;obtain⟨l8,v8,g8,k8,h8⟩:=sF m f8;cases g0;cases g2;cases g3;cases g4;cases g5;cases g6;cases g7;cases g8;refine⟨.mk o e s2 s3 l4 l5 l6 l7 l8,?_,?_⟩
  .rw[ea];rw[bC]at k1;exact .cons (.lit _ k0) (k1.append (.cons (.lit _ k2) (.cons (.lit _ k3) (.cons k4 (.cons k5 (.cons k6 (.cons k7 (.cons k8 .nil))))))))
  .have b4:=eZ (fun _:Wt=>1) hb4;rw[<-sm]at b4;have b5:=eZ fg hb5;have b6:=eZ fg hb6;rw[<-vd]at b5 b6;have b0:=ip x0.1;have b2:=ip x2.1;rw[dI];simp only[sJ,sP,n9,og,e8,lr,TW,TX,Rows.uptoBulk,Rows.uptoBulkAll];omega
theorem Dx(n:Nat){cs:List Value}{y:DataW H×List MemPlace}(h:DataW.trod enc Tryz.prog w base spare held n 23 cs=some y):∃(l:List It) (v:Value),cs=[v]/\DRep (mem w) (fF l) v/\aF l+1≤Rows.uptoBulk y.1:=by
 obtain⟨l,v',g3,k3,hb⟩:=dJ (k:=12) Tryz.underlying23 (by kernel_rfl) (by decide) dit vz (fun e d=>fg e≤Rows.uptoBulk d) h (fun n' hn cs' y hy=>G9 n' hy);have hb':=eZ fg hb;rw[<-vd]at hb';exact⟨l,v',g3,k3,hb'⟩
theorem Fc(n:Nat){cs:List Value}{y:DataW H×List MemPlace}(h:DataW.trod enc Tryz.prog w base spare held n 74 cs=some y):∃e:Fl,gD (mem w) (dfl e) cs:=by
 obtain⟨xs,m,rfl,rfl,hlen,hxs,hf⟩:=DataW.trod_struct Tryz.underlying74 h;rw[show Tryz.prog.cellsOf 74=5 by kernel_rfl]at hlen
 match cs,hlen with
 | [a,b,c,e,f],_=>
  have hx2:xs.length=5:=hxs
  match xs,hx2 with
  | [x0,x1,x2,x3,x4],_=>
  have f0:DataW.trod enc Tryz.prog w base spare held m 9 [a]=some x0:=hf 0 _ rfl;have f1:DataW.trod enc Tryz.prog w base spare held m 3 [b]=some x1:=hf 1 _ rfl;have f2:DataW.trod enc Tryz.prog w base spare held m 3 [c]=some x2:=hf 2 _ rfl;have f3:DataW.trod enc Tryz.prog w base spare held m 3 [e]=some x3:=hf 3 _ rfl;have f4:DataW.trod enc Tryz.prog w base spare held m 3 [f]=some x4:=hf 4 _ rfl;obtain⟨s,g0,k0⟩:=gh Tryz.underlying9 f0;obtain⟨o,g1,k1⟩:=eF Tryz.underlying3 f1;obtain⟨q,g2,k2⟩:=eF Tryz.underlying3 f2;obtain⟨r,g3,k3⟩:=eF Tryz.underlying3 f3;obtain⟨t,g4,k4⟩:=eF Tryz.underlying3 f4;cases g0;cases g1;cases g2;cases g3;cases g4;exact⟨⟨s,o,q,r,t⟩,.cons (.lit _ k0) (.cons (.lit _ k1) (.cons (.lit _ k2) (.cons (.lit _ k3) (.cons (.lit _ k4) .nil))))⟩
theorem IA(n:Nat){cs:List Value}{y:DataW H×List MemPlace}(h:DataW.trod enc Tryz.prog w base spare held n 46 cs=some y):∃e:Bk,gD (mem w) (dbk e) cs/\aF e.2+1≤Rows.uptoBulk y.1:=by
 obtain⟨xs,m,rfl,rfl,hlen,hxs,hf⟩:=DataW.trod_struct Tryz.underlying46 h;rw[show Tryz.prog.cellsOf 46=2 by kernel_rfl]at hlen
 match cs,hlen with
 | [a,b],_=>
  have hx2:xs.length=2:=hxs
  match xs,hx2 with
  | [x0,x1],_=>
  have f0:DataW.trod enc Tryz.prog w base spare held m 9 [a]=some x0:=hf 0 _ rfl;have f1:DataW.trod enc Tryz.prog w base spare held m 23 [b]=some x1:=hf 1 _ rfl;obtain⟨s,g0,k0⟩:=gh Tryz.underlying9 f0;obtain⟨l,v',g1,k1,hb⟩:=Dx m f1;cases g0;cases g1;refine⟨(s,l),.cons (.lit _ k0) (.cons k1 .nil),?_⟩;simp only[TW,TX,Rows.uptoBulk,Rows.uptoBulkAll];omega
theorem Iu(l:List Bk):(l.map fun b=>aF b.2+1).sum=(l.map fun b=>aF b.2).sum+l.length:=by
 induction l with
 | nil=>rfl
 | cons a r ih=>simp only[TW,T0,TZ,ih];omega
theorem FT(n:Nat){cs:List Value}{y:DataW H×List MemPlace}(h:DataW.trod enc Tryz.prog w base spare held n 32 cs=some y):∃c:Kl,gD (mem w) (dkl c) cs/\mR c+c.flds.length+c.blks.length≤Rows.uptoBulk y.1:=by
 obtain⟨xs,m,rfl,rfl,hlen,hxs,hf⟩:=DataW.trod_struct Tryz.underlying32 h;rw[show Tryz.prog.cellsOf 32=4 by kernel_rfl]at hlen
 match cs,hlen with
 | [a,b,c,e],_=>
  have hx2:xs.length=4:=hxs
  match xs,hx2 with
  | [x0,x1,x2,x3],_=>
  have f0:DataW.trod enc Tryz.prog w base spare held m 9 [a]=some x0:=hf 0 _ rfl;have f1:DataW.trod enc Tryz.prog w base spare held m 9 [b]=some x1:=hf 1 _ rfl;have f2:DataW.trod enc Tryz.prog w base spare held m 29 [c]=some x2:=hf 2 _ rfl;have f3:DataW.trod enc Tryz.prog w base spare held m 30 [e]=some x3:=hf 3 _ rfl;obtain⟨s0,g0,k0⟩:=gh Tryz.underlying9 f0;obtain⟨s1,g1,k1⟩:=gh Tryz.underlying9 f1
  obtain⟨l2,v2,g2,k2,hb2⟩:=dJ (k:=5) Tryz.underlying29 (by kernel_rfl) (by decide) dfl (fun a=>rfl) (fun _ d=>1≤Rows.uptoBulk d) f2 (fun n' hn cs' y hy=>by
   obtain⟨q,hq⟩:=Fc n' hy;exact⟨q,hq,ip _⟩)
  obtain⟨l3,v3,g3,k3,hb3⟩:=dJ (k:=2) Tryz.underlying30 (by kernel_rfl) (by decide) dbk (fun a=>rfl) (fun e d=>aF e.2+1≤Rows.uptoBulk d) f3 (fun n' hn cs' y hy=>IA n' hy);cases g0;cases g1;cases g2;cases g3;refine⟨⟨s0,s1,l2,l3⟩,.cons (.lit _ k0) (.cons (.lit _ k1) (.cons k2 (.cons k3 .nil))),?_⟩;have b2:=eZ (fun _:Fl=>1) hb2;rw[<-sm]at b2;have b3:=eZ (fun e:Bk=>aF e.2+1) hb3;rw[Iu]at b3;have hk:mR ⟨s0,s1,l2,l3⟩=(l3.map fun b=>aF b.2).sum:=rfl;rw[hk];simp only[TW,TX,Rows.uptoBulk,Rows.uptoBulkAll];omega
theorem Kf(h:DataW.Trod enc Tryz.prog w base spare held 32 v d p)(hv:Value.okWide Tryz.prog w .any base 32 v):∃c:Kl,Rep (mem w) [] (vkl c) v/\mR c+c.flds.length+c.blks.length≤Rows.uptoBulk d:=by
 obtain⟨fuel,hf⟩:=h;obtain⟨s,h1,h2⟩:=FT fuel hf;obtain⟨cs,rfl,-⟩:=okWide_struct Tryz.underlying32 hv;have h3:=h1.rep (bm:=[]);exact⟨s,by simpa[Value.cells]using h3,h2⟩
end
end Go.Proofs.YtnhphlmblenapaaGreatDoor
