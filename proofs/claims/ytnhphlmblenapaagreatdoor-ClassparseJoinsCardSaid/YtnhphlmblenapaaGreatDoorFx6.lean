import Derived.Test.YtnhphlmblenapaaGreatDoorFx3
import Derived.Test.YtnhphlmblenapaaGreatDoorDn2
set_option linter.unusedVariables false
set_option linter.unusedSimpArgs false
set_option linter.unusedSectionVars false
set_option maxHeartbeats 4000000
open Int renaming ofNat_lt->Pa
open List renaming getElem?_eq_getElem->Pb,getElem?_append_left->Pd,getElem?_set_ne->Pe,getElem?_map->Pf,length_append->Pg,length_map->Ph,getElem?_set_self->Pi,map_cons->Pj,length_set->Pk,map_nil->Pl,getElem?_append_right->Pm,length_cons->Pn,drop_eq_getElem_cons->Po,drop_eq_nil_of_le->Pp,length_nil->Pq,getElem_mem->Pr,take_left->Ps,foldl_append->Pt,take_of_length_le->Pu,getElem?_eq_none->Pv,mem_of_getElem?->Pw,take_add_one->Px,append_assoc->Py,take_length->Pz,map_append->PA
open Nat renaming le_refl->PB,zero_le->PC,zero_add->PD,reduceAdd->PE
namespace Go.Proofs.YtnhphlmblenapaaGreatDoor
open Go.RowKit Go.Shelf
theorem BN(fs:List Fl)(c:Bool){l:List Fl}{j:Nat}(h:j<l.length):clF fs c (l.take (j+1))=(clF fs c (l.take j)||fs.any (isF l[j].name)):=by
 have ht:l.take (j+1)=l.take j++[l[j]]:=by rw[Px,Pb h];rfl
 unfold clF;rw[ht,Pt];rfl
def ExQ(σ:LLV)(k i:Nat)(s:Ft):Out->LLV->Prop:=fun o σ'=>(∃v,o=.ret v)/\FtV σ' k i s/\kf σ'/\σ.length≤σ'.length/\∀q,q<k->σ'[q]? = σ[q]?
theorem uJ.mono{σ σ':LLV}{k i:Nat}{X:V}{l:List Bk}(h:uJ σ k i X l)(hσ:∀q,q<σ.length->q≠i->σ'[q]? = σ[q]?):uJ σ' k i X l:=by
 rcases h with h|⟨j,c,rest,h1,h2,h3,h4⟩
 .exact .inl h
 .exact .inr ⟨j,c,rest,h1,h2,by rw[hσ j (List.getElem?_eq_some_iff.1 h3).1 h2.2.1];exact h3,h4⟩
theorem vw{k i:Nat}{σ:LLV}(s:Ft)(c:Kl)(hk:k≤i)(hV:FtV σ k i s)(hS:kf σ)(hsz:s.flds.length+c.flds.length≤1200000)(hsb:s.blks.length+c.blks.length≤1200000)(hib:∀b,b∈c.blks->bi b.2≤1200000):
 Fun G 108 [.ptr i 0,vkl c] σ (ExQ σ k i (exT s c)):=by
 obtain⟨X,hX,hB⟩:=hV;have hi:=(List.getElem?_eq_some_iff.1 hX).1;unfold ftc at hX;refine al Tryz.func108 Ou rfl fun hb hw=>?_;unfold LK;have g1:∀(Y:List V) (l:LLV),(σ.set i Y++l)[i]? = some Y:=fun Y l=>by rw[Pd (by simpa using hi)];exact Pi hi
 have g2:∀(Y Z:List V) (l:LLV),(σ.set i Y++l).set i Z=σ.set i Z++l:=fun Y Z l=>by rw[List.set_append_left _ _ (by simpa using hi),List.set_set]
 have g3:∀(Y:List V) (l:LLV) (j:Nat),(σ.set i Y++l)[σ.length+j]? = l[j]? := fun Y l j=>by rw[Pm (by simp)];simp
 have g30:∀(Y:List V) (l:LLV),(σ.set i Y++l)[σ.length]? = l[0]? := fun Y l=>g3 Y l 0;have g4:∀(Y:List V) (l:LLV) (j:Nat) (Z:List V),(σ.set i Y++l).set (σ.length+j) Z=σ.set i Y++l.set j Z:=fun Y l j Z=>by rw[List.set_append_right _ _ (by simp)];simp
 have g5:∀(l:LLV),(σ++l)[i]? = some [.d (ae s.name),.d (ae ⟨#[]⟩),.own 74 5 (s.flds.map dfl),X,ak s.clash]:=fun l=>am hX l;have g6:∀(l:LLV) (Z:List V),(σ++l).set i Z=σ.set i Z++l:=fun l Z=>bj hX l Z
 have hXu:V.under σ.length X=true:=by
  have h1:=List.all_eq_true.1 hS.2 _ (Pw hX);simp only[V.unders,Bool.and_eq_true]at h1;exact h1.2.2.2.1
 have hSa:∀(nm:ByteArray) (fl:LLD) (cl:Bool),kf (σ.set i [.d (ae nm),.d (ae ⟨#[]⟩),.own 74 5 fl,X,ak cl]++[[.d (ae c.name),.d (ae c.par),.d (.sl (c.flds.map dfl)),.d (.sl (c.blks.map dbk))]]):=fun nm fl cl=>
  (hS.set rfl (by simp[V.unders,V.under,hXu])).app rfl (by simp[V.unders,V.under])
 simp -dsimp only[aw,seval,g5,g6,g30,Pk];refine aI [0,3,16,17,18] (fun(j:Nat) ρ σ'=>ρ=[(0,.ptr i 0),(3,.ptr σ.length 0),(16,.d (.sl (c.flds.map dfl))),(17,aC .i64 c.flds.length),(18,aC .i64 j)]/\σ'=σ.set i [.d (ae c.name),.d (ae ⟨#[]⟩),.own 74 5 (s.flds.map dfl),X,ak (clF s.flds s.clash (c.flds.take j))]++[[.d (ae c.name),.d (ae c.par),.d (.sl (c.flds.map dfl)),.d (.sl (c.blks.map dbk))]]) c.flds.length ⟨rfl,rfl⟩ ?_ _;rintro j ρ' σ' hj ⟨rfl,rfl⟩;by_cases hlt:j<c.flds.length
 .have wj:=aJ hlt (show c.flds.length≤9223372036854775807 by omega);have e1:(c.flds.map dfl)[j]? = some (dfl c.flds[j]):=by rw[Pf,Pb hlt];rfl
  have d1:∀f:Fl,dfl f=[ae f.name,aa f.width,aa f.size,aa f.mode,aa f.init]:=fun _=>rfl;have hcl:=BN s.flds s.clash hlt;simp -dsimp only[aw,seval,Pa,hlt,e1,d1,Pj,Pl,g1,g2,g3,g30,g4,Pk];cases hc:clF s.flds s.clash (c.flds.take j)with
  | true=>
   rw[hc,Bool.true_or]at hcl;simp -dsimp only[aw,seval,g1,g2,g3,g30,g4,Pk,wj];refine⟨hlt,Nxt.to (σ.set i [.d (ae c.name),.d (ae ⟨#[]⟩),.own 74 5 (s.flds.map dfl),X,ak true]++[[.d (ae c.name),.d (ae c.par),.d (.sl (c.flds.map dfl)),.d (.sl (c.blks.map dbk))]]) [(dfl c.flds[j]).map V.d] (by simp[dfl]) (by simp) (hSa _ _ _).2 (by simp[an,V.under];omega) ⟨rfl,by rw[hcl]⟩⟩
  | false=>
   rw[hc,Bool.false_or]at hcl;simp -dsimp only[aw,seval,g1,g2,g3,g30,g4,Pk];refine aj (C8 s.flds (by omega) c.flds[j].name _ _ _ _ (σ.length+1) _ (by rw[g3];rfl)) ?_;simp -dsimp only[aw,seval,g1,g2,g3,g30,g4,Pk,wj];refine⟨hlt,Nxt.to (σ.set i [.d (ae c.name),.d (ae ⟨#[]⟩),.own 74 5 (s.flds.map dfl),X,ak (s.flds.any (isF c.flds[j].name))]++[[.d (ae c.name),.d (ae c.par),.d (.sl (c.flds.map dfl)),.d (.sl (c.blks.map dbk))]]) [(dfl c.flds[j]).map V.d] (by simp[dfl]) (by simp) (hSa _ _ _).2 (by simp[an,V.under];omega) ⟨rfl,by rw[hcl]⟩⟩
 rw[Pu (by omega)];simp -dsimp only[aw,seval,Pa,hlt,g1,g2,g3,g30,g4,Pk];refine I0 (cs:=[.d (ae c.name),.d (ae ⟨#[]⟩),.own 74 5 (s.flds.map dfl),X,ak (clF s.flds s.clash c.flds)]) ⟨i,2,74,5,s.flds.map dfl⟩ (g1 _ _) rfl ?_;simp -dsimp only[aw,seval,g1,g2,g3,g30,g4,Pk];refine aU (by simp[dfl];omega) ?_;simp -dsimp only[aw,seval,g1,g2,g3,g30,g4,Pk]
 refine aI [0,52,53,54] (fun(j:Nat) ρ σ'=>ρ=[(0,.ptr i 0),(52,.d (.sl (c.blks.map dbk))),(53,aC .i64 c.blks.length),(54,aC .i64 j)]/\FtV σ' k i ⟨c.name,s.flds++c.flds,(c.blks.take j).foldl kG s.blks,clF s.flds s.clash c.flds⟩/\kf σ'/\σ.length≤σ'.length/\(∀q,q<k->σ'[q]? = σ[q]?)/\((c.blks.take j).foldl kG s.blks).length≤s.blks.length+j) c.blks.length ⟨rfl,⟨X,by rw[g1,<-PA];rfl,hB.mono fun q hq hne=>?_⟩,(hSa _ _ _),by simp,fun q hq=>?_,by simp⟩ ?_ _
 .rw[Pd (by simpa using hq),Pe (Ne.symm hne)]
 .rw[Pd (by simp;omega),Pe (by omega)]
 clear g1 g2 g3 g30 g4 g5 g6 hSa;rintro j ρ' σ' hj ⟨rfl,⟨X',hX',hB'⟩,hS',hle',hq',hbl⟩;by_cases hlt:j<c.blks.length
 .have wj:=aJ hlt (show c.blks.length≤9223372036854775807 by omega)
  have ht:(c.blks.take (j+1)).foldl kG s.blks=kG ((c.blks.take j).foldl kG s.blks) c.blks[j]:=by
   rw[show c.blks.take (j+1)=c.blks.take j++[c.blks[j]]by rw[Px,Pb hlt];rfl,Pt];rfl
  rw[ht];have hbi:=hib _ (Pr hlt);have e1:(c.blks.map dbk)[j]? = some (dbk c.blks[j]):=by rw[Pf,Pb hlt];rfl
  generalize c.blks[j]=b at hbi e1 ⊢;generalize (c.blks.take j).foldl kG s.blks=bl at hX' hB' hbl ⊢;have d1:∀b:Bk,dbk b=[ae b.1,cT b.2]:=fun _=>rfl;unfold ftc at hX';have hi':=(List.getElem?_eq_some_iff.1 hX').1;have g5:∀(l:LLV),(σ'++l)[i]? = _:=fun l=>am hX' l;have g6:∀(l:LLV) (Z:List V),(σ'++l).set i Z=σ'.set i Z++l:=fun l Z=>bj hX' l Z;simp only at g5;simp -dsimp only[aw,seval,Pa,hlt,e1,d1];refine aj (uV b.2 hbi _) ?_;have hB':uJ σ' k i X' bl:=hB';rcases hB' with⟨rfl,rfl⟩|⟨j0,cc,rest,rfl,⟨b1,b2,b3⟩,b4,b5,b6⟩
  .simp -dsimp only[aw,seval,g5,g6];refine aj (tf (k:=k) (i:=i) (X:=.nil) (l:=[]) (.inl ⟨rfl,rfl⟩) (by simp) b.1 (.d (cT b.2)) σ'.length (by rw[ko];rfl)) ?_;rw[show p6 b.1 [] 0 = -1 from rfl];have hn1:decide ((0:Int) ≤ -1)=false:=by decide
   simp -dsimp only[aw,seval,hn1,g5,g6];intro c1 hc1;rw[wj,show kG [] b=[b]from rfl]
   have hT:kf (σ'.set i [.d (ae c.name),.d (ae ⟨#[]⟩),.own 74 5 ((s.flds++c.flds).map dfl),.bsc (σ'.length+1) 1 c1,ak (clF s.flds s.clash c.flds)]++[[.d (ae b.1),.d (cT b.2)],.d (ae b.1)::.d (cT b.2)::cC [.d (ae ⟨#[]⟩),.nil] (c1-1)]):=by
    rw[<-g6];have h1:=(hS'.app (cs:=[.d (ae b.1),.d (cT b.2)]) rfl rfl).app (cs:=.d (ae b.1)::.d (cT b.2)::cC [.d (ae ⟨#[]⟩),.nil] (c1-1)) rfl (by simp[V.unders,V.under,lH]);rw[Py]at h1;exact h1.set rfl (by simp[V.unders,V.under])
   refine⟨hlt,Nxt.same (by simp;omega) hT.2 (by simp[an,V.under];omega) ⟨rfl,⟨.bsc (σ'.length+1) 1 c1,?_,.inr ⟨σ'.length+1,c1,cC [.d (ae ⟨#[]⟩),.nil] (c1-1),rfl,⟨by omega,by omega,hc1⟩,?_,?_,rfl⟩⟩,hT,by simp;omega,fun q hq=>?_,by simp;omega⟩⟩
   .rw[Pd (by simpa using hi'),Pi hi'];rfl
   .rw[Pm (by simp)];simp[bcl]
   .rw[Pg,hZ,gW];simp;omega
   .rw[Pd (by simp;omega),Pe (by omega)];exact hq' q hq
  .have hru:V.unders σ'.length rest=true:=by
    have h1:=List.all_eq_true.1 hS'.2 _ (Pw b4);rw[iN,Bool.and_eq_true]at h1;exact h1.2
   have hjl:=(List.getElem?_eq_some_iff.1 b4).1;have hSb:kf (σ'++[[.d (ae b.1),.d (cT b.2)]]):=hS'.app rfl rfl;have b7:(bcl bl).length+rest.length=cc*2:=by rw[<-Pg];exact b5
   rw[hZ]at b7;simp -dsimp only[aw,seval,g5,g6];have hBb:uJ (σ'++[[.d (ae b.1),.d (cT b.2)]]) k i (.bsc j0 bl.length cc) bl:=.inr ⟨j0,cc,rest,rfl,⟨b1,b2,b3⟩,am b4 _,b5,b6⟩;refine aj (tf hBb (by omega) b.1 (.d (cT b.2)) σ'.length (by rw[ko];rfl)) ?_;rcases qF b.1 bl 0 with⟨f1,f2⟩|⟨at0,f1,f2,f3⟩
   .have hn1:decide ((0:Int) ≤ -1)=false:=by decide
    rw[f2];simp -dsimp only[aw,seval,hn1,g5,g6];have hput:kG bl b=bl++[b]:=by unfold kG;rw[f1]
    rw[hput];refine Gz (am b4 _) ⟨by simpa using b5,b6,by omega⟩ (fun hroom=>?_) (fun hfull c2 hc2=>?_)
    .have g7:∀(l:LLV) (Z:List V),((σ'++l).set j0 Z)[i]? = some _:=fun l Z=>by rw[Pe b2];exact g5 l
     simp only[Pn,Pq,PD,PE,DG];simp -dsimp only[aw,seval,g7,wj];have hT:=(hSb.set (i:=j0) (cs:=bcl (bl++[b])++rest.drop 2) (ir (by simp) _) (by rw[iN,lA,qQ (by simp) (sQ hru 2)];rfl)).set (i:=i) (cs:=[.d (ae c.name),.d (ae ⟨#[]⟩),.own 74 5 ((s.flds++c.flds).map dfl),.bsc j0 (bl.length+1) cc,ak (clF s.flds s.clash c.flds)]) rfl (by simp[V.unders,V.under];omega);refine⟨hlt,Nxt.same (by simp;omega) hT.2 (by simp[an,V.under];omega) ⟨rfl,⟨.bsc j0 (bl.length+1) cc,?_,.inr ⟨j0,cc,rest.drop 2,by simp,⟨b1,b2,by simp;omega⟩,?_,?_,ir (by simp) _⟩⟩,hT,by simp;omega,fun q hq=>?_,by simp;omega⟩⟩
     .rw[Pi (by simp;omega)];rfl
     .rw[Pe (Ne.symm b2),Pi (by simp;omega)]
     .rw[Pg,hZ];simp;omega
     .rw[Pe (by omega),Pe (by omega),Pd (by omega)];exact hq' q hq
    .simp only[Pn,Pq,PD,PE,Eg];simp -dsimp only[aw,seval,g5,g6,wj]
     have hT:kf (σ'.set i [.d (ae c.name),.d (ae ⟨#[]⟩),.own 74 5 ((s.flds++c.flds).map dfl),.bsc (σ'.length+1) (bl.length+1) c2,ak (clF s.flds s.clash c.flds)]++[[.d (ae b.1),.d (cT b.2)],bcl bl++.d (ae b.1)::.d (cT b.2)::cC [.d (ae ⟨#[]⟩),.nil] (c2-(bl.length+1))]):=by
      rw[<-g6];have h1:=hSb.app (cs:=bcl bl++.d (ae b.1)::.d (cT b.2)::cC [.d (ae ⟨#[]⟩),.nil] (c2-(bl.length+1))) (rG _ _ _) (by rw[iN,lA];simp[V.unders,V.under,lH]);rw[Py]at h1;exact h1.set rfl (by simp[V.unders,V.under])
     have e4:bcl bl++.d (ae b.1)::.d (cT b.2)::cC [.d (ae ⟨#[]⟩),.nil] (c2-(bl.length+1))=bcl (bl++[b])++cC [.d (ae ⟨#[]⟩),.nil] (c2-(bl.length+1)):=by rw[sI];simp[bcl]
     refine⟨hlt,Nxt.same (by simp;omega) hT.2 (by simp[an,V.under];omega) ⟨rfl,⟨.bsc (σ'.length+1) (bl.length+1) c2,?_,.inr ⟨σ'.length+1,c2,cC [.d (ae ⟨#[]⟩),.nil] (c2-(bl.length+1)),by simp,⟨by omega,by omega,by simp;omega⟩,?_,?_,ir (by simp) _⟩⟩,hT,by simp;omega,fun q hq=>?_,by simp;omega⟩⟩
     .rw[Pd (by simpa using hi'),Pi hi'];rfl
     .rw[<-e4,Pm (by simp)];simp
     .rw[Pg,hZ,gW];simp;omega
     .rw[Pd (by simp;omega),Pe (by omega)];exact hq' q hq
   .rw[f3,Int.zero_add];have hn1:decide ((0:Int)≤(at0:Int))=true:=decide_eq_true (by omega);have hput:kG bl b=bl.set at0 b:=by unfold kG;rw[f1]
    rw[hput];simp -dsimp only[aw,seval,hn1,g5,g6,f2];have b40:(σ'++[[.d (ae b.1),.d (cT b.2)]])[j0]? = some (bcl bl++rest):=am b4 _;have e2:at0*2+2≤(bcl bl).length+rest.length:=by rw[<-Pg,b5];omega
    have e5:List.take (at0*2) (bcl bl++rest)++.d (ae b.1)::.d (cT b.2)::List.drop (at0*2+2) (bcl bl++rest)=bcl (bl.set at0 b)++rest:=by rw[<-Fb f2 rest b];simp[over]
    have hne:bl.set at0 b≠[]:=fun e=>by have:=congrArg List.length e;simp at this;subst this;simp at f2
    simp -dsimp only[aw,seval,b40,e2,b6,wj];rw[e5];have hT:=hSb.set (i:=j0) (cs:=bcl (bl.set at0 b)++rest) (ir hne _) (by rw[iN,lA,qQ (by simp) hru];rfl);refine⟨hlt,Nxt.same (by simp;omega) hT.2 (by simp[an,V.under];omega) ⟨rfl,⟨.bsc j0 bl.length cc,?_,.inr ⟨j0,cc,rest,by simp,⟨b1,b2,by simpa using b3⟩,?_,?_,ir hne _⟩⟩,hT,by simp;omega,fun q hq=>?_,by simp;omega⟩⟩
    .rw[Pe b2];exact g5 _
    .rw[Pi (by simp;omega)]
    .rw[Pg,hZ];simp;omega
    .rw[Pe (by omega),Pd (by omega)];exact hq' q hq
 rw[Pu (by omega)]at hX' hB';simp -dsimp only[aw,seval,Pa,hlt];exact⟨_,_,.refl _ _ _,.tup [],rfl,σ'.length,hle',by rw[Pz];exact hS'.2,rfl,by rw[Pz];exact⟨⟨_,rfl⟩,⟨X',hX',hB'⟩,hS',hle',hq'⟩⟩
def kz:Kl:=⟨⟨#[]⟩,⟨#[]⟩,[],[]⟩
def ft0:Ft:=⟨⟨#[]⟩,[],[],false⟩
def uT(l:List Kl):Ft:=((down l.length l.length).map fun x=>l[x]?.getD kz).foldl exT ft0
def KlS(c:Kl):Prop:=c.flds.length≤16/\c.blks.length≤16/\∀b,b∈c.blks->(bi b.2≤1200000)
theorem KlS.z:KlS kz:=⟨PC _,PC _,fun b hb=>by cases hb⟩
theorem zn(l:List Bk):∀bl:List Bk,(l.foldl kG bl).length≤bl.length+l.length:=by
 induction l with
 | nil=>intro bl;exact PB _
 | cons b r ih=>intro bl;have h1:=ih (kG bl b);have h2:=C1 bl b;rw[List.foldl_cons,Pn];omega
theorem tZ(l:List Kl)(h0:0<l.length)(hl:l.length≤40)(hS:∀c,c∈l->KlS c)(σ:LLV)(hσ:kf σ):Fun G 48 [.d (.sl (l.map dkk))] σ (fun o σ'=>o=.ret (.ptr σ.length 0)/\FtV σ' σ.length σ.length (uT l)/\kf σ'/\σ.length≤σ'.length/\∀q,q<σ.length->σ'[q]? = σ[q]?):=by
 have hlm:(l.map dkk).length=l.length:=Ph _
 have h:=ue σ (l.map dkk) (by omega) (fun r hr=>by obtain⟨c,-,rfl⟩:=List.mem_map.1 hr;rfl) (by omega)
  (fun pre σ'=>FtV σ' σ.length σ.length ((pre.map fun x=>l[x]?.getD kz).foldl exT ft0)/\kf σ'/\σ.length≤σ'.length/\(∀q,q<σ.length->σ'[q]? = σ[q]?)/\((pre.map fun x=>l[x]?.getD kz).foldl exT ft0).flds.length≤16*pre.length/\((pre.map fun x=>l[x]?.getD kz).foldl exT ft0).blks.length≤16*pre.length)
  (fun pre σ' h=>h.2.1.1) ⟨⟨.nil,by rw[Pm (PB _)];simp[ftc,ft0],.inl ⟨rfl,rfl⟩⟩,hσ.app rfl rfl,by simp,fun q hq=>Pd hq,PC _,PC _⟩
  (fun pre x σ' ⟨h1,h2,h3,h4,h5,h6⟩ hp hx=>by
    rw[hlm]at hp hx;have hm:=Pr hx;obtain⟨k1,k2,k3⟩:=hS _ hm;have e:(l.map dkk)[x]'(by rw[hlm];exact hx)=dkk l[x]:=List.getElem_map _;rw[e];refine(vw (k:=σ.length) (i:=σ.length) _ l[x] (PB _) h1 h2 (by omega) (by omega) k3).mono fun o σ2 ⟨q1,q2,q3,q4,q5⟩=>?_
    have e2:((pre++[x]).map fun x=>l[x]?.getD kz).foldl exT ft0=exT ((pre.map fun x=>l[x]?.getD kz).foldl exT ft0) l[x]:=by
     rw[PA,Pt,Pj,Pl,Pb hx];rfl
    rw[e2];refine⟨q1,q2,q3,by omega,fun q hq=>(q5 q hq).trans (h4 q hq),?_,?_⟩
    .simp only[exT,Pg,Pn,Pq];omega
    .have:=zn l[x].blks ((pre.map fun x=>l[x]?.getD kz).foldl exT ft0).blks;simp only[exT,Pg,Pn,Pq];omega)
 rw[hlm]at h;exact h.mono fun o σ' ⟨h1,h2,h3,h4,h5,_,_⟩=>⟨h1,h2,h3,h4,h5⟩
theorem rr(c:Kl)(σ:LLV):Fun G 105 [.agg ((dkk c).map V.d)] σ (aO (.d (ae c.name)) σ):=by
 refine al Tryz.func105 Om rfl fun hb hw=>?_;unfold Mf;simp -dsimp only[aw,seval,dkk,Pj,Pl];exact av hb rfl rfl
theorem Gn(l:List Kl)(hl:l.length≤1200000)(σ:LLV):Fun G 104 [.d (.sl (l.map dkk)),.fn 105 []] σ (aO (ak (decide (¬(l.map Kl.name).Nodup))) σ):=by
 refine al Tryz.func104 NW rfl fun hb hw=>?_;unfold J3;simp -dsimp only[aw,seval,Ph];refine aI [0,1,8,9] (fun(j:Nat) ρ σ'=>ρ=[(0,.d (.sl (l.map dkk))),(1,.fn 105 []),(8,aC .i64 l.length),(9,aC .i64 j)]/\σ'=σ/\∀a b,a<b->b<j->(l.map Kl.name)[a]? ≠ (l.map Kl.name)[b]?) l.length ⟨rfl,rfl,fun a b _ h=>by omega⟩ ?_ _;rintro j ρ' σ' hj ⟨rfl,rfl,hN⟩;by_cases hlt:j<l.length
 .have wj:=aJ hlt (show l.length≤9223372036854775807 by omega);simp -dsimp only[aw,seval,Pa,hlt];refine aI [0,1,5,8,9,12,13] (fun(m:Nat) ρ σ2=>ρ=[(0,.d (.sl (l.map dkk))),(1,.fn 105 []),(5,aC .i64 j),(8,aC .i64 l.length),(9,aC .i64 j),(12,aC .i64 j),(13,aC .i64 m)]/\σ2=σ'/\∀a,a<m->(l.map Kl.name)[a]? ≠ (l.map Kl.name)[j]?) j ⟨rfl,rfl,fun a h=>by omega⟩ ?_ _;rintro m ρ' σ2 hm ⟨rfl,rfl,hM⟩;by_cases hlm:m<j
  .have wm:=aJ hlm (show j≤9223372036854775807 by omega);have hml:m<l.length:=by omega
   have e1:(l.map dkk)[j]? = some (dkk l[j]):=by rw[Pf,Pb hlt];rfl
   have e2:(l.map dkk)[m]? = some (dkk l[m]):=by rw[Pf,Pb hml];rfl
   have n1:(l.map Kl.name)[j]? = some l[j].name:=by rw[Pf,Pb hlt];rfl
   have n2:(l.map Kl.name)[m]? = some l[m].name:=by rw[Pf,Pb hml];rfl
   have d1:∀c:Kl,dkk c=[ae c.name,ae c.par,.sl (c.flds.map dfl),.sl (c.blks.map dbk)]:=fun _=>rfl;have f1:=rr l[j];have f2:=rr l[m];simp only[d1,Pj,Pl]at f1 f2;simp -dsimp only[aw,seval,Pa,hlm,e1,e2,d1,Pj,Pl];refine bp (f1 _) ?_;simp -dsimp only[aw,seval,e1,e2,d1,Pj,Pl];refine bp (f2 _) ?_;by_cases hq:l[j].name=l[m].name
   .have hd:decide (¬(l.map Kl.name).Nodup)=true:=decide_eq_true (rZ hlm (by rw[Ph];exact hlt) (by rw[n1,n2,hq]));rw[hd];simp -dsimp only[aw,seval,hq];exact av hb rfl rfl
   .simp -dsimp only[aw,seval,decide_eq_false hq,wm]
    exact⟨hlm,Nxt.same (PB _) hb (by simp[an,V.under,V.unders]) ⟨rfl,rfl,fun a ha=>by
     by_cases e:a=m
     .subst e;rw[n1,n2];exact fun h=>hq (Option.some.inj h).symm
     .exact hM a (by omega)⟩⟩
  .simp -dsimp only[aw,seval,Pa,hlm,wj]
   exact⟨hlt,Nxt.same (PB _) hb (by simp[an,V.under,V.unders]) ⟨rfl,rfl,fun a b hab hbj=>by
    by_cases e:b=j
    .subst e;exact hM a (by omega)
    .exact hN a b hab (by omega)⟩⟩
 .have hd:decide (¬(l.map Kl.name).Nodup)=false:=decide_eq_false (fun h=>h (vC fun a b hab hbl=>hN a b hab (by rw[Ph]at hbl;omega)));rw[hd];simp -dsimp only[aw,seval,Pa,hlt];exact av hb rfl rfl
def iE(src:List Kl)(n:ByteArray):Option Kl:=src.find? fun c=>decide (c.name=n)
theorem tY(src:List Kl)(hl:src.length≤1200000)(n:ByteArray)(σ:LLV):Fun G 106 [.d (.sl (src.map dkk)),.d (ae n)] σ (aO (.tup [.agg ((dkk ((iE src n).getD kz)).map V.d),ak (iE src n).isSome]) σ):=by
 refine al Tryz.func106 OE rfl fun hb hw=>?_;unfold LJ;simp -dsimp only[aw,seval,Ph];refine aI [1,4,8,9,10] (fun(j:Nat) ρ σ'=>ρ=[(1,.d (ae n)),(4,.ptr σ.length 0),(8,.d (.sl (src.map dkk))),(9,aC .i64 src.length),(10,aC .i64 j)]/\σ'=σ++[[.d (ae ⟨#[]⟩),.d (ae ⟨#[]⟩),.nil,.nil]]/\iE src n=iE (src.drop j) n) src.length ⟨rfl,rfl,rfl⟩ ?_ _;rintro j ρ' σ' hj ⟨rfl,rfl,hI⟩;by_cases hlt:j<src.length
 .have wj:=aJ hlt (show src.length≤9223372036854775807 by omega);have e1:(src.map dkk)[j]? = some (dkk src[j]):=by rw[Pf,Pb hlt];rfl
  have d1:∀c:Kl,dkk c=[ae c.name,ae c.par,.sl (c.flds.map dfl),.sl (c.blks.map dbk)]:=fun _=>rfl;rw[Po hlt]at hI;unfold iE at hI;rw[List.find?_cons]at hI;simp -dsimp only[aw,seval,Pa,hlt,e1,d1];by_cases hq:src[j].name=n
  .rw[decide_eq_true hq]at hI;simp only at hI;unfold iE;rw[hI];simp -dsimp only[aw,seval,hq];exact aF (v:=.tup [.agg ((dkk src[j]).map V.d),ak true]) hb (by simp[Dg,aL,cv,bc,dkk,hq,aw,seval]) rfl Ps ⟨rfl,rfl⟩
  .rw[decide_eq_false hq]at hI;simp only at hI;simp -dsimp only[aw,seval,decide_eq_false hq,wj];exact⟨hlt,Nxt.to (σ++[[.d (ae ⟨#[]⟩),.d (ae ⟨#[]⟩),.nil,.nil]]) [(dkk src[j]).map V.d] (by simp[dkk]) (by simp) (aq hb rfl) (by simp[an,V.under]) ⟨rfl,rfl,hI⟩⟩
 .rw[Pp (by omega)]at hI;rw[hI];simp -dsimp only[aw,seval,Pa,hlt];exact aF (v:=.tup [.agg ((dkk kz).map V.d),ak false]) hb (by simp[Dg,aL,cv,bc,dkk,kz,aw,seval]) rfl Ps ⟨rfl,rfl⟩
def yu(src:List Kl):Nat->Kl->List Kl->Option (List Kl)
 | 0,_,_=>none
 | f+1,c,out=>if c.par=⟨#[]⟩then some out else if src.length<out.length then none else yu src f ((iE src c.par).getD kz) (out++[(iE src c.par).getD kz])
def Gc(src:List Kl)(c:Kl):Option (List Kl):=yu src (src.length+2) c [c]
theorem uQ{P:Kl->Prop}{src:List Kl}(hz:P kz)(hs:∀c,c∈src->P c):∀(f:Nat) (c:Kl) (out l:List Kl),(∀x,x∈out->P x)->0<out.length->out.length≤src.length+1->yu src f c out=some l->(∀x,x∈l->P x)/\0<l.length/\l.length≤src.length+1
 | 0,_,_,_,_,_,_,h=>by cases h
 | f+1,c,out,l,ho,h0,h1,h=>by
  rw[yu]at h;split at h
  .cases h;exact⟨ho,h0,h1⟩
  .split at h
   .cases h
   .refine uQ hz hs f _ _ l (fun x hx=>?_) (by simp) (by simp;omega) h;rcases List.mem_append.1 hx with hx|hx
    .exact ho x hx
    .simp at hx;subst hx;unfold iE;cases e:src.find? fun c'=>decide (c'.name=c.par)with
     | none=>exact hz
     | some y=>exact hs y (List.mem_of_find?_eq_some e)
def I5:Option (List Kl)->V
 | some l=>.tup [.d (.sl (l.map dkk)),ak true]
 | none=>.tup [.d (.sl []),ak false]
theorem FF(src:List Kl)(hl:src.length≤1000)(c:Kl)(σ:LLV):Fun G 47 [.d (.sl (src.map dkk)),.agg ((dkk c).map V.d)] σ (aO (I5 (Gc src c)) σ):=by
 refine al Tryz.func47 k47 rfl fun hb hw=>?_;unfold c47;have d1:∀c:Kl,dkk c=[ae c.name,ae c.par,.sl (c.flds.map dfl),.sl (c.blks.map dbk)]:=fun _=>rfl;simp -dsimp only[aw,seval,d1,Pj,Pl];refine aI [0,3,6] (fun(j:Nat) ρ σ'=>∃(x:Kl) (out:List Kl),ρ=[(0,.d (.sl (src.map dkk))),(3,.ptr σ.length 0),(6,.own 32 4 (out.map dkk))]/\σ'=σ++[[.d (ae x.name),.d (ae x.par),.d (.sl (x.flds.map dfl)),.d (.sl (x.blks.map dbk))]]/\out.length=j+1/\Gc src c=yu src (src.length+2-j) x out) (src.length+1) ⟨c,[c],rfl,rfl,rfl,rfl⟩ ?_ _;rintro j ρ' σ' hj ⟨x,out,rfl,rfl,ho,hI⟩;rw[show src.length+2-j=(src.length+1-j)+1 by omega,yu]at hI;by_cases hp:x.par=⟨#[]⟩
 .rw[if_pos hp]at hI;rw[hI];simp -dsimp only[aw,seval,hp];exact aF (v:=.tup [.d (.sl (out.map dkk)),ak true]) hb (by simp[G9,aL,cv,bc,aw,seval]) rfl Ps ⟨rfl,rfl⟩
 .rw[if_neg hp]at hI;simp -dsimp only[aw,seval,decide_eq_false hp,decide_eq_true hp];by_cases hq:src.length<out.length
  .rw[if_pos hq]at hI;rw[hI];simp -dsimp only[aw,seval,hq,Pa];exact aF (v:=.tup [.d (.sl []),ak false]) hb (by simp[G9,aL,cv,bc,aw,seval]) rfl Ps ⟨rfl,rfl⟩
  .rw[if_neg hq]at hI;simp -dsimp only[aw,seval,hq,Pa];refine aj (tY src (by omega) x.par _) ?_;generalize (iE src x.par).getD kz=y at hI ⊢;simp -dsimp only[aw,seval,d1,Pj,Pl];refine aU (by omega) ?_;simp -dsimp only[aw,seval];exact⟨by omega,Nxt.same (by simp) (aq hb rfl) (by simp[an,V.under]) ⟨y,out++[y],by simp[d1],rfl,by simp;omega,by rw[hI,show src.length+2-(j+1)=src.length+1-j by omega]⟩⟩
def qz(src:List Kl):List Kl->Int
 | []=>0
 | c::r=>if c.par≠⟨#[]⟩/\iE src c.par=none then 7 else qz src r
def pI(src:List Kl):Int:=if ¬(src.map Kl.name).Nodup then 8 else qz src src
theorem AZ(src:List Kl)(hl:src.length≤1000)(σ:LLV):Fun G 46 [.d (.sl (src.map dkk))] σ (aO (.d (aa (pI src))) σ):=by
 refine al Tryz.func46 k46 rfl fun hb hw=>?_;unfold c46 pI;have d1:∀c:Kl,dkk c=[ae c.name,ae c.par,.sl (c.flds.map dfl),.sl (c.blks.map dbk)]:=fun _=>rfl;simp -dsimp only[aw,seval];refine aj (Gn src (by omega) _) ?_;by_cases hn:(src.map Kl.name).Nodup
 .rw[if_neg (show ¬ ¬_ from fun h=>h hn)];simp -dsimp only[aw,seval,decide_eq_false (show ¬ ¬(src.map Kl.name).Nodup from fun h=>h hn),Ph];refine aI [0,9,10,11] (fun(j:Nat) ρ σ'=>ρ=[(0,.d (.sl (src.map dkk))),(9,.d (.sl (src.map dkk))),(10,aC .i64 src.length),(11,aC .i64 j)]/\σ'=σ/\qz src src=qz src (src.drop j)) src.length ⟨rfl,rfl,rfl⟩ ?_ _;rintro j ρ' σ' hj ⟨rfl,rfl,hI⟩;by_cases hlt:j<src.length
  .have wj:=aJ hlt (show src.length≤9223372036854775807 by omega);have e1:(src.map dkk)[j]? = some (dkk src[j]):=by rw[Pf,Pb hlt];rfl
   rw[Po hlt,qz]at hI;generalize src[j]=x at hI e1;simp -dsimp only[aw,seval,Pa,hlt,e1,d1];refine aj (tY src (by omega) x.par _) ?_;generalize hy:(iE src x.par).getD kz=y;simp -dsimp only[aw,seval,d1,Pj,Pl];by_cases hp:x.par=⟨#[]⟩
   .rw[if_neg (fun h=>h.1 hp)]at hI;simp -dsimp only[aw,seval,decide_eq_true hp,wj];exact⟨hlt,Nxt.to σ' [(dkk x).map V.d,(dkk y).map V.d] (by simp[dkk]) (PB _) hb (by simp[an,V.under]) ⟨rfl,rfl,hI⟩⟩
   .cases hf:iE src x.par with
    | none=>
     rw[if_pos ⟨hp,hf⟩]at hI;rw[hI];simp -dsimp only[aw,seval,decide_eq_false hp,wj,Option.isSome_none];exact av hb rfl rfl
    | some z=>
     rw[if_neg (fun h=>by rw[hf]at h;cases h.2)]at hI;simp -dsimp only[aw,seval,decide_eq_false hp,wj,Option.isSome_some];exact⟨hlt,Nxt.to σ' [(dkk x).map V.d,(dkk y).map V.d] (by simp[dkk]) (PB _) hb (by simp[an,V.under]) ⟨rfl,rfl,hI⟩⟩
  .rw[Pp (by omega),qz]at hI;rw[hI];simp -dsimp only[aw,seval,Pa,hlt];exact av hb rfl rfl
 .rw[if_pos hn];simp -dsimp only[aw,seval,decide_eq_true hn];exact av hb rfl rfl
def wD:List Kl->Int
 | []=>0
 | c::r=>if qn c≠0 then qn c else wD r
def ckL(src:List Kl):List Kl->Bool->Bool->Option (Bool×Bool)
 | [],a,b=>some (a,b)
 | c::r,a,b=>match Gc src c with
  | none=>none
  | some l=>ckL src r (a||(uT l).clash) ((b||decide (16<(uT l).flds.length))||decide (16<(uT l).blks.length))
def qv(src:List Kl):Int:=if 32<src.length then 2 else if wD src≠0 then wD src else if pI src≠0 then pI src else match ckL src src false false with
 | none=>10
 | some (a,b)=>if a=true then 8 else if b=true then 2 else 0
theorem KO{σ:LLV}{k i:Nat}{X:V}{l:List Bk}(h:uJ σ k i X l):lj false X.copy=some (aC .i64 l.length):=by
 rcases h with⟨rfl,rfl⟩|⟨j,c,rest,rfl,-⟩<;>rfl
theorem EV(src:List Kl)(hS:∀c,c∈src->KlS c)(σ:LLV)(hσ:kf σ)(hl:src.length≤1200000):Fun G 18 [.d (.sl (src.map dkk))] σ (aO (.d (aa (qv src))) σ):=by
 refine al Tryz.func18 k18 rfl fun hb hw=>?_;unfold c18 qv;have d1:∀c:Kl,dkk c=[ae c.name,ae c.par,.sl (c.flds.map dfl),.sl (c.blks.map dbk)]:=fun _=>rfl;by_cases h32:32<src.length
 .rw[if_pos h32];simp -dsimp only[aw,seval,Ph,decide_eq_true (show(32:Int)<(src.length:Int)by omega)];exact av hb rfl rfl
 rw[if_neg h32];simp -dsimp only[aw,seval,Ph,decide_eq_false (show ¬(32:Int)<(src.length:Int)by omega)];refine aI [0,17,18,19] (fun(j:Nat) ρ σ'=>ρ=[(0,.d (.sl (src.map dkk))),(17,.d (.sl (src.map dkk))),(18,aC .i64 src.length),(19,aC .i64 j)]/\σ'=σ/\wD src=wD (src.drop j)) src.length ⟨rfl,rfl,rfl⟩ ?_ _;rintro j ρ' σ' hj ⟨rfl,rfl,hI⟩;by_cases hlt:j<src.length
 .have wj:=aJ hlt (show src.length≤9223372036854775807 by omega);have e1:(src.map dkk)[j]? = some (dkk src[j]):=by rw[Pf,Pb hlt];rfl
  rw[Po hlt,wD]at hI;obtain⟨k1,k2,-⟩:=hS _ (Pr hlt);generalize src[j]=x at hI e1 k1 k2;simp -dsimp only[aw,seval,Pa,hlt,e1,d1];refine aj (nL x (by omega) (by omega) _) ?_;by_cases hq:qn x=0
  .rw[if_neg (fun h=>h hq)]at hI;simp -dsimp only[aw,seval,hq,wj];exact⟨hlt,Nxt.to σ' [(dkk x).map V.d] (by simp[dkk]) (PB _) hb (by simp[an,V.under]) ⟨rfl,rfl,hI⟩⟩
  .rw[if_pos hq]at hI;rw[if_pos (by rw[hI];exact hq),hI];simp -dsimp only[aw,seval,decide_eq_false hq];exact av hb rfl rfl
 rw[Pp (by omega),wD]at hI;rw[if_neg (fun h=>h hI)];simp -dsimp only[aw,seval,Pa,hlt];refine aj (AZ src (by omega) _) ?_;by_cases hq:pI src=0
 case neg=>
  rw[if_pos hq];simp -dsimp only[aw,seval,decide_eq_false hq];exact av hb rfl rfl
 rw[if_neg (fun h=>h hq)];simp -dsimp only[aw,seval,hq,Ph];refine aI [0,7,8,34,35,36] (fun(j:Nat) ρ σ2=>∃a b:Bool,ρ=[(0,.d (.sl (src.map dkk))),(7,ak a),(8,ak b),(34,.d (.sl (src.map dkk))),(35,aC .i64 src.length),(36,aC .i64 j)]/\σ2=σ'/\ckL src src false false=ckL src (src.drop j) a b) src.length ⟨false,false,rfl,rfl,rfl⟩ ?_ _;rintro j ρ' σ2 hj ⟨a,b,rfl,rfl,hI⟩;by_cases hlt:j<src.length
 .have wj:=aJ hlt (show src.length≤9223372036854775807 by omega);have e1:(src.map dkk)[j]? = some (dkk src[j]):=by rw[Pf,Pb hlt];rfl
  rw[Po hlt,ckL]at hI;have hx:=hS _ (Pr hlt);generalize src[j]=x at hI e1 hx;simp -dsimp only[aw,seval,Pa,hlt,e1,d1];have hanc:=FF src (by omega) x;simp only[d1,Pj,Pl]at hanc;refine aj (hanc _) ?_;cases hA:Gc src x with
  | none=>
   rw[hA]at hI;simp only at hI;rw[hI];simp -dsimp only[aw,seval,I5];exact av hb rfl rfl
  | some l=>
   rw[hA]at hI;simp only at hI;obtain⟨m1,m2,m3⟩:=uQ (P:=KlS) KlS.z hS _ _ _ _ (fun y hy=>by simp at hy;subst hy;exact hx) (by simp) (by simp) hA;simp -dsimp only[aw,seval,I5];refine aE (tZ l m2 (by omega) m1 _ (hσ.app rfl rfl)) fun o σ3 ⟨h1,⟨X,h2,h3⟩,h4,h5,h6⟩=>?_;subst h1;rw[aZ];have hlx:=KO h3;unfold ftc at h2;rw[Pg,Pn,Pq,PD]at h2 h5 h6
   have htk:σ3.take σ2.length=σ2:=by
    apply List.ext_getElem?;intro q;by_cases hq:q<σ2.length
    .rw[List.getElem?_take_of_lt hq,h6 q (by omega),Pd hq]
    .rw[Pv (by simp;omega),Pv (by omega)]
   generalize uT l=s at hI h2 h3 hlx;cases a with
   | true=>
    simp -dsimp only[aw,seval,h2,hlx];cases b with
    | true=>
     simp -dsimp only[aw,seval,h2,hlx,wj];exact⟨hlt,σ2.length,PB _,by rw[htk];exact hb,by simp[an,V.under],by rw[htk];exact⟨true,true,rfl,rfl,by rw[hI];simp⟩⟩
    | false=>
     by_cases f1:16<s.flds.length
     .simp -dsimp only[aw,seval,h2,hlx,wj,decide_eq_true (show(16:Int)<(s.flds.length:Int)by omega)];exact⟨hlt,σ2.length,PB _,by rw[htk];exact hb,by simp[an,V.under],by rw[htk];exact⟨true,true,rfl,rfl,by rw[hI,decide_eq_true f1];simp⟩⟩
     .simp -dsimp only[aw,seval,h2,hlx,wj,decide_eq_false (show ¬(16:Int)<(s.flds.length:Int)by omega)];by_cases f2:16<s.blks.length
      .rw[decide_eq_true (show(16:Int)<(s.blks.length:Int)by omega)];exact⟨hlt,σ2.length,PB _,by rw[htk];exact hb,by simp[an,V.under],by rw[htk];exact⟨true,true,rfl,rfl,by rw[hI,decide_eq_true f2];simp⟩⟩
      .rw[decide_eq_false (show ¬(16:Int)<(s.blks.length:Int)by omega)];exact⟨hlt,σ2.length,PB _,by rw[htk];exact hb,by simp[an,V.under],by rw[htk];exact⟨true,false,rfl,rfl,by rw[hI,decide_eq_false f1,decide_eq_false f2];simp⟩⟩
   | false=>
    simp -dsimp only[aw,seval,h2,hlx];cases b with
    | true=>
     simp -dsimp only[aw,seval,h2,hlx,wj];exact⟨hlt,σ2.length,PB _,by rw[htk];exact hb,by simp[an,V.under],by rw[htk];exact⟨s.clash,true,rfl,rfl,by rw[hI];simp⟩⟩
    | false=>
     by_cases f1:16<s.flds.length
     .simp -dsimp only[aw,seval,h2,hlx,wj,decide_eq_true (show(16:Int)<(s.flds.length:Int)by omega)];exact⟨hlt,σ2.length,PB _,by rw[htk];exact hb,by simp[an,V.under],by rw[htk];exact⟨s.clash,true,rfl,rfl,by rw[hI,decide_eq_true f1];simp⟩⟩
     .simp -dsimp only[aw,seval,h2,hlx,wj,decide_eq_false (show ¬(16:Int)<(s.flds.length:Int)by omega)];by_cases f2:16<s.blks.length
      .rw[decide_eq_true (show(16:Int)<(s.blks.length:Int)by omega)];exact⟨hlt,σ2.length,PB _,by rw[htk];exact hb,by simp[an,V.under],by rw[htk];exact⟨s.clash,true,rfl,rfl,by rw[hI,decide_eq_true f2];simp⟩⟩
      .rw[decide_eq_false (show ¬(16:Int)<(s.blks.length:Int)by omega)];exact⟨hlt,σ2.length,PB _,by rw[htk];exact hb,by simp[an,V.under],by rw[htk];exact⟨s.clash,false,rfl,rfl,by rw[hI,decide_eq_false f1,decide_eq_false f2];simp⟩⟩
 rw[Pp (by omega),ckL]at hI;rw[hI];simp -dsimp only[aw,seval,Pa,hlt];cases a with
 | true=>
  simp -dsimp only[aw,seval];exact av hb rfl rfl
 | false=>
  simp -dsimp only[aw,seval];cases b with
  | true=>
   simp -dsimp only[aw,seval];exact av hb rfl rfl
  | false=>
   simp -dsimp only[aw,seval];exact av hb rfl rfl
end Go.Proofs.YtnhphlmblenapaaGreatDoor
