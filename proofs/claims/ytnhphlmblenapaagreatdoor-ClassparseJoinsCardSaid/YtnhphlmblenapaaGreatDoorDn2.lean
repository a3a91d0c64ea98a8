import Derived.Test.YtnhphlmblenapaaGreatDoorDm9
set_option linter.unusedVariables false
set_option linter.unusedSimpArgs false
set_option linter.unusedSectionVars false
set_option maxHeartbeats 8000000
open Bool renaming and_eq_true->Pa,and_true->Pb
open Int renaming ofNat_lt->Pd,reduceEq->Pe
open List renaming take_length->Pf,take_left->Pg,length_map->Ph,drop_zero->Pi,length_append->Pj,map_cons->Pk,length_cons->Pl,take_of_length_le->Pm,drop_eq_nil_of_le->Pn,take_append->Po,length_nil->Pp,all_append->Pq,drop_eq_getElem_cons->Pr,getElem?_eq_getElem->Ps,all_cons->Pt,map_nil->Pu,all_nil->Pv,getElem?_map->Pw,sum_cons->Px
open Nat renaming le_refl->Py,zero_le->Pz,add_sub_cancel_left->PA,reduceAdd->PB
open Option renaming getD_some->PC,getD_none->PD
namespace Go.Proofs.YtnhphlmblenapaaGreatDoor
open Go.RowKit
theorem vo{l:Bs}{ts:List Tok}(h:dj l=.ok ts)(hl:l.length≤16384):TsV ts:=⟨GD h hl,fun t ht=>((fK h).1 t ht).1⟩
def pL{α:Type}(z:α):CP α->α×Int×Int
 | .out=>(z,0,1)
 | .bad e n=>(z,n,e)
 | .ok v _=>(v,0,0)
def dk{α:Type}(z:α)(F:List Tok->CP α)(l:Bs):α×Int×Int:=if 16384<l.length then(z,0,2)else match dj l with
 | .err n e=>(z,n,e)
 | .ok ts=>pL z (F ts)
def dp{α:Type}(mk:α->V)(r:α×Int×Int):V:=.tup [mk r.1,.d (aa r.2.1),.d (aa r.2.2)]
def kZ:Kl:=⟨⟨#[]⟩,⟨#[]⟩,[],[]⟩
def kL(l:List It):V:=.d (.sl (l.map dit))
def jz(l:List Kl):V:=.d (.sl (l.map dkk))
theorem EP(σ:LLV)(i j k:Nat):ed G 59 [.ptr i 0,.ptr j 0,.ptr k 0] σ none (fun σ'=>σ'=σ):=by
 refine cV Tryz.func59 k59 rfl (fun v h=>by cases h) fun hb=>?_;unfold c59;simp -dsimp only[aw,seval,nD,nQ,PD];exact⟨σ.length,Py _,by rw[Pf];exact hb,Pf⟩
theorem E3(τ:LLV)(e n:Int)(x:List V):ed G 59 [.ptr τ.length 0,.ptr (τ.length+1) 0,.ptr (τ.length+2) 0] (τ++[[.nil],[.d (aa 0)],[.d (aa 0)],x]) (some (dg e n))
 (fun σ'=>σ'=τ++[[.nil],[.d (aa n)],[.d (aa e)],x]):=by
 refine cV Tryz.func59 k59 rfl (fun v h=>by cases h;rfl) fun hb=>?_;unfold c59 dg;simp -dsimp only[aw,seval,nD,nQ,PC]
 have hT:∀y:LLV,(τ++[.nil]::[.d (aa n)]::[.d (aa e)]::x::y).take (τ.length+4)=τ++[[.nil],[V.d (aa n)],[V.d (aa e)],x]:=fun y=>by
  rw[Po,Pm (by omega),PA];rfl
 refine⟨τ.length+4,by simp,?_,?_⟩
 .rw[hT];simp only[Pj,Pl,Pp,PB]at hb;unfold ai at hb ⊢;rw[Pq,Pa]at hb ⊢;refine⟨hb.1,?_⟩;have:=hb.2;simp only[Pt,Pv,Pb,Pa]at this ⊢;exact⟨rfl,rfl,rfl,this.2.2.2⟩
 .rw[hT]
theorem DQ(F:List Tok->CP (List It))(hF:∀ts,F ts≠.out)(g:FuncId)(l:Bs)(hc:∀ts,TsV ts->ts.length≤16384->∀(i:Nat) (τ:LLV),τ[i]? = some (pb ts 0)->Fun G g [.ptr i 0] τ (CQ kL ts i τ (F ts)))(σ:LLV):
 Fun G 23 [.d (ae (bs l)),.fn g []] σ (aO (dp kL (dk [] F l)) σ):=by
 refine iV Tryz.func23 k23 rfl fun hb hw=>?_;unfold c23
 have fin:∀(r:(List It)×Int×Int) (x:LLV) ρ,dk [] F l=r->aL (σ++x) ρ sd=some (dp kL r)->fin σ.length sd (aO (dp kL (dk [] F l)) σ) .ret ρ (σ++x):=fun r x ρ hp h=>by
  rw[hp];exact aF hb h rfl Pg ⟨rfl,rfl⟩
 have finl:∀(r:(List It)×Int×Int) (x:LLV) ρ,dk [] F l=r->aL (σ++x) ρ sd=some (dp kL r)->wK σ.length sd (aO (dp kL (dk [] F l)) σ) ρ (σ++x):=fun r x ρ hp h=>by
  rw[hp];exact⟨_,h,σ.length,Py _,by rw[Pg];exact hb,rfl,by rw[Pg];exact⟨rfl,rfl⟩⟩
 by_cases hbig:16384<l.length
 .have hP:dk [] F l=([],0,2):=by unfold dk;rw[if_pos hbig]
  simp -dsimp only[aw,seval,fj];refine aj (ju l hbig _) ?_;simp -dsimp only[aw,seval,fj];refine fin _ _ _ hP ?_;simp[dp,kL,sd,aL,cv,bc,aw,seval]
 have ht:=lz l (by omega);have hR:nY l=lX (dj l):=by unfold nY;rw[if_neg hbig]
 rw[hR]at ht;cases hx:dj l with
 | err n e=>
  have hP:dk [] F l=([],n,e):=by unfold dk;rw[if_neg hbig,hx]
  have de:=decide_eq_false (kw hx);rw[hx]at ht;unfold lX at ht;simp -dsimp only[aw,seval,fj];refine aj (ht _) ?_;simp -dsimp only[aw,seval,fj,de];refine fin _ _ _ hP ?_;simp[dp,kL,sd,aL,cv,bc,aw,seval]
 | ok ts=>
  have H:=vo hx (by omega);have hl16:=(fK hx).2;have hP:dk [] F l=pL [] (F ts):=by unfold dk;rw[if_neg hbig,hx]
  rw[hx]at ht;unfold lX at ht;have hC:=hc ts H (by omega) (σ.length+3);simp -dsimp only[aw,seval,fj];refine aj (ht _) ?_;simp -dsimp only[aw,seval,fj,xJ];refine aE (hC _ (by rw[mW];rfl)) fun out σ' hq=>?_;cases hy:F ts with
  | out=>exact absurd hy (hF ts)
  | bad e n=>
   rw[hy]at hq hP;obtain⟨rfl,b,rfl⟩:=hq;rw[ik];simp -dsimp only[aw,seval,aS];refine(E3 σ e n (pb ts b)).mono fun σ' h=>?_;subst h;have:=finl _ [[.nil],[.d (aa n)],[.d (aa e)],pb ts b] [(4,.ptr σ.length 0),(5,.ptr (σ.length+1) 0),(6,.ptr (σ.length+2) 0)] hP (by simp[dp,pL,kL,sd,aL,cv,bc,aw,seval]);exact this
  | ok v r=>
   rw[hy]at hq hP;obtain⟨rfl,rfl⟩:=hq;rw[ik];simp -dsimp only[aw,seval,aZ,pb,kL];refine(EP _ _ _ _).mono fun σ' h=>?_;subst h;have:=finl _ [[kL v],[.d (aa 0)],[.d (aa 0)],pb ts (ts.length-r.length)] [(4,.ptr σ.length 0),(5,.ptr (σ.length+1) 0),(6,.ptr (σ.length+2) 0)] hP (by simp[dp,pL,kL,sd,aL,cv,bc,aw,seval]);exact this
theorem Gp(σ:LLV)(i j k:Nat):ed G 81 [.ptr i 0,.ptr j 0,.ptr k 0] σ none (fun σ'=>σ'=σ):=by
 refine cV Tryz.func81 k81 rfl (fun v h=>by cases h) fun hb=>?_;unfold c81;simp -dsimp only[aw,seval,nD,nQ,PD];exact⟨σ.length,Py _,by rw[Pf];exact hb,Pf⟩
theorem Gj(τ:LLV)(e n:Int)(x:List V):ed G 81 [.ptr τ.length 0,.ptr (τ.length+1) 0,.ptr (τ.length+2) 0] (τ++[[.d (ae ⟨#[]⟩),.d (ae ⟨#[]⟩),.nil,.nil],[.d (aa 0)],[.d (aa 0)],x]) (some (dg e n))
 (fun σ'=>σ'=τ++[[.d (ae ⟨#[]⟩),.d (ae ⟨#[]⟩),.nil,.nil],[.d (aa n)],[.d (aa e)],x]):=by
 refine cV Tryz.func81 k81 rfl (fun v h=>by cases h;rfl) fun hb=>?_;unfold c81 dg;simp -dsimp only[aw,seval,nD,nQ,PC]
 have hT:∀y:LLV,(τ++[.d (ae ⟨#[]⟩),.d (ae ⟨#[]⟩),.nil,.nil]::[.d (aa n)]::[.d (aa e)]::x::y).take (τ.length+4)=τ++[[.d (ae ⟨#[]⟩),.d (ae ⟨#[]⟩),.nil,.nil],[V.d (aa n)],[V.d (aa e)],x]:=fun y=>by
  rw[Po,Pm (by omega),PA];rfl
 refine⟨τ.length+4,by simp,?_,?_⟩
 .rw[hT];simp only[Pj,Pl,Pp,PB]at hb;unfold ai at hb ⊢;rw[Pq,Pa]at hb ⊢;refine⟨hb.1,?_⟩;have:=hb.2;simp only[Pt,Pv,Pb,Pa]at this ⊢;exact⟨rfl,rfl,rfl,this.2.2.2⟩
 .rw[hT]
theorem Bw(F:List Tok->CP Kl)(hF:∀ts,F ts≠.out)(g:FuncId)(l:Bs)(hc:∀ts,TsV ts->ts.length≤16384->∀(i:Nat) (τ:LLV),τ[i]? = some (pb ts 0)->Fun G g [.ptr i 0] τ (CQ vkl ts i τ (F ts)))(σ:LLV):
 Fun G 32 [.d (ae (bs l)),.fn g []] σ (aO (dp vkl (dk kZ F l)) σ):=by
 refine iV Tryz.func32 k32 rfl fun hb hw=>?_;unfold c32
 have fin:∀(r:Kl×Int×Int) (x:LLV) ρ,dk kZ F l=r->aL (σ++x) ρ rV=some (dp vkl r)->fin σ.length rV (aO (dp vkl (dk kZ F l)) σ) .ret ρ (σ++x):=fun r x ρ hp h=>by
  rw[hp];exact aF hb h rfl Pg ⟨rfl,rfl⟩
 have finl:∀(r:Kl×Int×Int) (x:LLV) ρ,dk kZ F l=r->aL (σ++x) ρ rV=some (dp vkl r)->wK σ.length rV (aO (dp vkl (dk kZ F l)) σ) ρ (σ++x):=fun r x ρ hp h=>by
  rw[hp];exact⟨_,h,σ.length,Py _,by rw[Pg];exact hb,rfl,by rw[Pg];exact⟨rfl,rfl⟩⟩
 by_cases hbig:16384<l.length
 .have hP:dk kZ F l=(kZ,0,2):=by unfold dk;rw[if_pos hbig]
  simp -dsimp only[aw,seval,fj];refine aj (ju l hbig _) ?_;simp -dsimp only[aw,seval,fj];refine fin _ _ _ hP ?_;simp[dp,kZ,rV,aL,cv,bc,aw,seval]
 have ht:=lz l (by omega);have hR:nY l=lX (dj l):=by unfold nY;rw[if_neg hbig]
 rw[hR]at ht;cases hx:dj l with
 | err n e=>
  have hP:dk kZ F l=(kZ,n,e):=by unfold dk;rw[if_neg hbig,hx]
  have de:=decide_eq_false (kw hx);rw[hx]at ht;unfold lX at ht;simp -dsimp only[aw,seval,fj];refine aj (ht _) ?_;simp -dsimp only[aw,seval,fj,de];refine fin _ _ _ hP ?_;simp[dp,kZ,rV,aL,cv,bc,aw,seval]
 | ok ts=>
  have H:=vo hx (by omega);have hl16:=(fK hx).2;have hP:dk kZ F l=pL kZ (F ts):=by unfold dk;rw[if_neg hbig,hx]
  rw[hx]at ht;unfold lX at ht;have hC:=hc ts H (by omega) (σ.length+3);simp -dsimp only[aw,seval,fj];refine aj (ht _) ?_;simp -dsimp only[aw,seval,fj,xJ];refine aE (hC _ (by rw[mW];rfl)) fun out σ' hq=>?_;cases hy:F ts with
  | out=>exact absurd hy (hF ts)
  | bad e n=>
   rw[hy]at hq hP;obtain⟨rfl,b,rfl⟩:=hq;rw[ik];simp -dsimp only[aw,seval,aS];refine(Gj σ e n (pb ts b)).mono fun σ' h=>?_;subst h;have:=finl _ [[.d (ae ⟨#[]⟩),.d (ae ⟨#[]⟩),.nil,.nil],[.d (aa n)],[.d (aa e)],pb ts b] [(4,.ptr σ.length 0),(5,.ptr (σ.length+1) 0),(6,.ptr (σ.length+2) 0)] hP (by simp[dp,pL,kZ,rV,aL,cv,bc,aw,seval]);exact this
  | ok v r=>
   rw[hy]at hq hP;obtain⟨rfl,rfl⟩:=hq;rw[ik];simp -dsimp only[aw,seval,aZ,pb,kZ];refine(Gp _ _ _ _).mono fun σ' h=>?_;subst h;have:=finl _ [[.d (ae v.name),.d (ae v.par),.d (.sl (v.flds.map dfl)),.d (.sl (v.blks.map dbk))],[.d (aa 0)],[.d (aa 0)],pb ts (ts.length-r.length)] [(4,.ptr σ.length 0),(5,.ptr (σ.length+1) 0),(6,.ptr (σ.length+2) 0)] hP (by simp[dp,pL,kZ,rV,aL,cv,bc,aw,seval]);exact this
theorem Ge(σ:LLV)(i j k:Nat):ed G 91 [.ptr i 0,.ptr j 0,.ptr k 0] σ none (fun σ'=>σ'=σ):=by
 refine cV Tryz.func91 k91 rfl (fun v h=>by cases h) fun hb=>?_;unfold c91;simp -dsimp only[aw,seval,nD,nQ,PD];exact⟨σ.length,Py _,by rw[Pf];exact hb,Pf⟩
theorem Fi(τ:LLV)(e n:Int)(x:List V):ed G 91 [.ptr τ.length 0,.ptr (τ.length+1) 0,.ptr (τ.length+2) 0] (τ++[[.nil],[.d (aa 0)],[.d (aa 0)],x]) (some (dg e n))
 (fun σ'=>σ'=τ++[[.nil],[.d (aa n)],[.d (aa e)],x]):=by
 refine cV Tryz.func91 k91 rfl (fun v h=>by cases h;rfl) fun hb=>?_;unfold c91 dg;simp -dsimp only[aw,seval,nD,nQ,PC]
 have hT:∀y:LLV,(τ++[.nil]::[.d (aa n)]::[.d (aa e)]::x::y).take (τ.length+4)=τ++[[.nil],[V.d (aa n)],[V.d (aa e)],x]:=fun y=>by
  rw[Po,Pm (by omega),PA];rfl
 refine⟨τ.length+4,by simp,?_,?_⟩
 .rw[hT];simp only[Pj,Pl,Pp,PB]at hb;unfold ai at hb ⊢;rw[Pq,Pa]at hb ⊢;refine⟨hb.1,?_⟩;have:=hb.2;simp only[Pt,Pv,Pb,Pa]at this ⊢;exact⟨rfl,rfl,rfl,this.2.2.2⟩
 .rw[hT]
theorem C6(F:List Tok->CP (List Kl))(hF:∀ts,F ts≠.out)(g:FuncId)(l:Bs)(hc:∀ts,TsV ts->ts.length≤16384->∀(i:Nat) (τ:LLV),τ[i]? = some (pb ts 0)->Fun G g [.ptr i 0] τ (CQ jz ts i τ (F ts)))(σ:LLV):
 Fun G 41 [.d (ae (bs l)),.fn g []] σ (aO (dp jz (dk [] F l)) σ):=by
 refine iV Tryz.func41 k41 rfl fun hb hw=>?_;unfold c41
 have fin:∀(r:(List Kl)×Int×Int) (x:LLV) ρ,dk [] F l=r->aL (σ++x) ρ sx=some (dp jz r)->fin σ.length sx (aO (dp jz (dk [] F l)) σ) .ret ρ (σ++x):=fun r x ρ hp h=>by
  rw[hp];exact aF hb h rfl Pg ⟨rfl,rfl⟩
 have finl:∀(r:(List Kl)×Int×Int) (x:LLV) ρ,dk [] F l=r->aL (σ++x) ρ sx=some (dp jz r)->wK σ.length sx (aO (dp jz (dk [] F l)) σ) ρ (σ++x):=fun r x ρ hp h=>by
  rw[hp];exact⟨_,h,σ.length,Py _,by rw[Pg];exact hb,rfl,by rw[Pg];exact⟨rfl,rfl⟩⟩
 by_cases hbig:16384<l.length
 .have hP:dk [] F l=([],0,2):=by unfold dk;rw[if_pos hbig]
  simp -dsimp only[aw,seval,fj];refine aj (ju l hbig _) ?_;simp -dsimp only[aw,seval,fj];refine fin _ _ _ hP ?_;simp[dp,jz,sx,aL,cv,bc,aw,seval]
 have ht:=lz l (by omega);have hR:nY l=lX (dj l):=by unfold nY;rw[if_neg hbig]
 rw[hR]at ht;cases hx:dj l with
 | err n e=>
  have hP:dk [] F l=([],n,e):=by unfold dk;rw[if_neg hbig,hx]
  have de:=decide_eq_false (kw hx);rw[hx]at ht;unfold lX at ht;simp -dsimp only[aw,seval,fj];refine aj (ht _) ?_;simp -dsimp only[aw,seval,fj,de];refine fin _ _ _ hP ?_;simp[dp,jz,sx,aL,cv,bc,aw,seval]
 | ok ts=>
  have H:=vo hx (by omega);have hl16:=(fK hx).2;have hP:dk [] F l=pL [] (F ts):=by unfold dk;rw[if_neg hbig,hx]
  rw[hx]at ht;unfold lX at ht;have hC:=hc ts H (by omega) (σ.length+3);simp -dsimp only[aw,seval,fj];refine aj (ht _) ?_;simp -dsimp only[aw,seval,fj,xJ];refine aE (hC _ (by rw[mW];rfl)) fun out σ' hq=>?_;cases hy:F ts with
  | out=>exact absurd hy (hF ts)
  | bad e n=>
   rw[hy]at hq hP;obtain⟨rfl,b,rfl⟩:=hq;rw[ik];simp -dsimp only[aw,seval,aS];refine(Fi σ e n (pb ts b)).mono fun σ' h=>?_;subst h;have:=finl _ [[.nil],[.d (aa n)],[.d (aa e)],pb ts b] [(4,.ptr σ.length 0),(5,.ptr (σ.length+1) 0),(6,.ptr (σ.length+2) 0)] hP (by simp[dp,pL,jz,sx,aL,cv,bc,aw,seval]);exact this
  | ok v r=>
   rw[hy]at hq hP;obtain⟨rfl,rfl⟩:=hq;rw[ik];simp -dsimp only[aw,seval,aZ,pb,jz];refine(Ge _ _ _ _).mono fun σ' h=>?_;subst h;have:=finl _ [[jz v],[.d (aa 0)],[.d (aa 0)],pb ts (ts.length-r.length)] [(4,.ptr σ.length 0),(5,.ptr (σ.length+1) 0),(6,.ptr (σ.length+2) 0)] hP (by simp[dp,pL,jz,sx,aL,cv,bc,aw,seval]);exact this
theorem Nxt.drp1{n0:Nat}{R:ac->LLV->Prop}{ρ:ac}{σ:LLV}{a b:List V}(hn:n0≤σ.length)(hb:ai (σ++[a]).length (σ++[a])=true)(hs:an (σ++[a]).length ρ=true)(hR:R ρ (σ++[a])):Nxt n0 R ρ (σ++[a,b]) .mk:=by
 have e:σ++[a,b]=(σ++[a])++[b]:=by simp
 rw[e];exact Nxt.drop (by rw[Pj];omega) hb hs hR
theorem yE(l:List Fl){j:Nat}(h:j<l.length):mc (l.drop j)=if wF l[j]≠0 then wF l[j]else mc (l.drop (j+1)):=by rw[Pr h,mc]
theorem nL(c:Kl)(hf:c.flds.length≤1200000)(hbk:c.blks.length≤1200000)(σ:LLV):Fun G 45 [vkl c] σ (aO (.d (aa (qn c))) σ):=by
 refine al Tryz.func45 k45 rfl fun hb hw=>?_;unfold c45 qn;obtain⟨nm,pr,fs,bl⟩:=c;simp only at hf hbk ⊢;simp -dsimp only[aw,seval];refine aj (ey nm _) ?_;cases hn:cX nm with
 | false=>
  rw[if_pos (.inl rfl)];simp -dsimp only[aw,seval];exact av hb rfl rfl
 | true=>
 by_cases hbad:pr≠⟨#[]⟩/\cX pr=false
 .rw[if_pos (.inr hbad)];simp -dsimp only[aw,seval,decide_eq_false hbad.1];refine aj (ey pr _) ?_;rw[hbad.2];simp -dsimp only[aw,seval];exact av hb rfl rfl
 rw[if_neg (fun h=>h.elim (fun h=>by cases h) hbad)]
 have hpar:∀{K:Prop},(pr=⟨#[]⟩->K)->(pr≠⟨#[]⟩->cX pr=true->K)->K:=fun h1 h2=>by
  by_cases hp:pr=⟨#[]⟩
  .exact h1 hp
  .refine h2 hp ?_;cases hq:cX pr with
   | true=>rfl
   | false=>exact absurd ⟨hp,hq⟩ hbad
 by_cases l1:16<fs.length
 .have d1:decide ((16:Int)<(fs.length:Nat))=true:=decide_eq_true (by omega);rw[if_pos (.inl l1)];refine hpar (fun hp=>?_) fun hp hq=>?_
  .simp -dsimp only[aw,seval,decide_eq_true hp,d1,Ph];exact av hb rfl rfl
  .simp -dsimp only[aw,seval,decide_eq_false hp];refine aj (ey pr _) ?_;rw[hq];simp -dsimp only[aw,seval,d1,Ph];exact av hb rfl rfl
 have d1:decide ((16:Int)<(fs.length:Nat))=false:=decide_eq_false (by omega);by_cases l2:16<bl.length
 .have d2:decide ((16:Int)<(bl.length:Nat))=true:=decide_eq_true (by omega);rw[if_pos (.inr l2)];refine hpar (fun hp=>?_) fun hp hq=>?_
  .simp -dsimp only[aw,seval,decide_eq_true hp,d1,d2,Ph];exact av hb rfl rfl
  .simp -dsimp only[aw,seval,decide_eq_false hp];refine aj (ey pr _) ?_;rw[hq];simp -dsimp only[aw,seval,d1,d2,Ph];exact av hb rfl rfl
 have d2:decide ((16:Int)<(bl.length:Nat))=false:=decide_eq_false (by omega);rw[if_neg (show ¬(16<fs.length\/16<bl.length)by omega)];refine hpar (fun hp=>?_) fun hp hq=>?_;simp -dsimp only[aw,seval,decide_eq_true hp,d1,d2,Ph]
 rotate_left
 simp -dsimp only[aw,seval,decide_eq_false hp];refine aj (ey pr _) ?_;rw[hq];simp -dsimp only[aw,seval,d1,d2,Ph]
 all_goals
  refine aI [1,34,35,36] (fun(j:Nat) ρ σ'=>ρ=[(1,.ptr σ.length 0),(34,.d (.sl (fs.map dfl))),(35,aC .i64 fs.length),(36,aC .i64 j)]/\σ'=σ++[[.d (ae nm),.d (ae pr),.d (.sl (fs.map dfl)),.d (.sl (bl.map dbk))]]/\mc fs=mc (fs.drop j)) fs.length ⟨rfl,rfl,rfl⟩ ?_ _;rintro j ρ' σ' hj ⟨rfl,rfl,hI⟩;by_cases hlt:j<fs.length
  .have wj:=aJ hlt (show fs.length≤9223372036854775807 by omega);have e1:(fs.map dfl)[j]? = some (dfl fs[j]):=by rw[Pw,Ps hlt];rfl
   have dd:∀f:Fl,dfl f=[ae f.name,aa f.width,aa f.size,aa f.mode,aa f.init]:=fun _=>rfl;have f1:=vW fs[j];simp only[dd,Pk,Pu]at f1;rw[yE fs hlt]at hI;simp -dsimp only[aw,seval,Pd,hlt,e1,dd,Pk,Pu];refine aj (f1 _) ?_;by_cases h0:wF fs[j]=0
   .rw[if_neg (by simp[h0])]at hI;simp -dsimp only[aw,seval,h0,wj];exact⟨hlt,Nxt.drp1 (by simp) (aq hb rfl) (by simp[an,V.under]) ⟨rfl,rfl,hI⟩⟩
   .rw[if_pos h0]at hI;rw[hI,if_pos h0];simp -dsimp only[aw,seval,decide_eq_false h0];exact av hb rfl rfl
  .rw[Pn (by omega),mc]at hI;rw[hI,if_neg (by simp)];simp -dsimp only[aw,seval,Pd,hlt];refine aj (Dj bl hbk _) ?_;by_cases hi0:0≤sB bl 0
   .rw[if_pos hi0];simp -dsimp only[aw,seval,decide_eq_true hi0];exact av hb rfl rfl
   .rw[if_neg hi0];simp -dsimp only[aw,seval,decide_eq_false hi0];refine aj (Bz fs hf _) ?_;by_cases n1:¬(fs.map Fl.name).Nodup
    .rw[if_pos (.inl n1)];simp -dsimp only[aw,seval,decide_eq_true n1];exact av hb rfl rfl
    .simp -dsimp only[aw,seval,decide_eq_false n1];refine aj (CL bl hbk _) ?_;by_cases n2:¬(bl.map Prod.fst).Nodup
     .rw[if_pos (.inr n2)];simp -dsimp only[aw,seval,decide_eq_true n2];exact av hb rfl rfl
     .rw[if_neg (fun h=>h.elim n1 n2)];simp -dsimp only[aw,seval,decide_eq_false n2];exact av hb rfl rfl
def wM:List Bk->Int
 | []=>0
 | b::r=>if iM b.2=0 then wM r else iM b.2
def lh(c:Kl):Int:=if qn c=0 then wM c.blks else qn c
theorem xZ{l:List Bk}{b:Bk}(h:b∈l):bi b.2≤bsz l:=by
 induction l with
 | nil=>cases h
 | cons a r ih=>
  unfold bsz at *;rw[Pk,Px];rcases List.mem_cons.1 h with rfl|h
  .omega
  .have:=ih h;omega
theorem xq(l:List Bk):l.length≤bsz l:=by
 induction l with
 | nil=>exact Py _
 | cons a r ih=>unfold bsz at *;rw[Pk,Px,Pl];omega
theorem pw(c:Kl)(hk:ksz c≤1100000)(σ:LLV):Fun G 37 [vkl c] σ (aO (.d (aa (lh c))) σ):=by
 have hk2:c.flds.length≤1100000/\bsz c.blks≤1100000:=by unfold ksz at hk;omega
 have hbl:=xq c.blks;refine al Tryz.func37 k37 rfl fun hb hw=>?_;unfold c37;simp -dsimp only[aw,seval];refine aj (nL c (by omega) (by omega) _) ?_;by_cases h0:qn c=0
 .have hv:lh c=wM c.blks:=by unfold lh;rw[if_pos h0]
  rw[hv];simp -dsimp only[aw,seval,decide_eq_true h0,Ph];refine aI [13,14,15] (fun(j:Nat) ρ σ'=>ρ=[(13,.d (.sl (c.blks.map dbk))),(14,aC .i64 c.blks.length),(15,aC .i64 j)]/\σ'=σ++[[.d (ae c.name),.d (ae c.par),.d (.sl (c.flds.map dfl)),.d (.sl (c.blks.map dbk))]]/\wM c.blks=wM (c.blks.drop j)) c.blks.length ⟨rfl,rfl,rfl⟩ ?_ _;rintro j ρ' σ' hj ⟨rfl,rfl,hI⟩;by_cases hlt:j<c.blks.length
  .have wj:=aJ hlt (show c.blks.length≤9223372036854775807 by omega);have e1:(c.blks.map dbk)[j]? = some (dbk c.blks[j]):=by rw[Pw,Ps hlt];rfl
   have hm:=xZ (List.getElem_mem hlt);rw[Pr hlt,wM]at hI;have hd:dbk c.blks[j]=[ae c.blks[j].1,cT c.blks[j].2]:=rfl;simp -dsimp only[aw,seval,Pd,hlt,e1,hd,Pk,Pu];refine aj (oR _ (by omega) _) ?_;by_cases h0:iM c.blks[j].2=0
   .rw[if_pos h0]at hI;simp -dsimp only[aw,seval,h0,wj];exact⟨hlt,Nxt.drp1 (by simp) (aq hb rfl) (by simp[an,V.under]) ⟨rfl,rfl,hI⟩⟩
   .rw[if_neg h0]at hI;rw[hI];simp -dsimp only[aw,seval,decide_eq_false h0];exact av hb rfl rfl
  .rw[Pn (by omega),wM]at hI;rw[hI];simp -dsimp only[aw,seval,Pd,hlt];exact av hb rfl rfl
 .have hv:lh c=qn c:=by unfold lh;rw[if_neg h0]
  rw[hv];simp -dsimp only[aw,seval,decide_eq_false h0];exact av hb rfl rfl
theorem si{α:Type}{sz:α->Nat}{z:α}{F:List Tok->CP α}(hF:∀ts,Tk sz ts.length ts (F ts))(hz:sz z≤16384)(l:Bs):sz (dk z F l).1≤16384:=by
 unfold dk;split
 .exact hz
 .rename_i hl;cases ht:dj l with
  | err n' e'=>exact hz
  | ok ts=>
   have hl16:=(fK ht).2;have h:=hF ts;simp only;cases hf:F ts with
   | out=>exact hz
   | bad e' n'=>exact hz
   | ok w r=>rw[hf]at h;have:=h.2;simp only[pL];omega
def od(l:Bs):List It×Int×Int:=
 let r:=dk [] (fun ts=>kP (zLs ts) ts) l
 if r.2.2=0 then(if iM r.1=0 then(r.1,0,0)else([],0,iM r.1))else([],r.2.1,r.2.2)
def sg(l:Bs):Kl×Int×Int:=
 let r:=dk kZ (fun ts=>u2 (zLs ts) ts) l
 if r.2.2=0 then(if lh r.1=0 then(r.1,0,0)else(kZ,0,lh r.1))else(kZ,r.2.1,r.2.2)
theorem Fr(ts:List Tok)(H:TsV ts)(i:Nat)(τ:LLV)(hi:τ[i]? = some (pb ts 0)):Fun G 24 [.ptr i 0] τ (CQ kL ts i τ (kP (zLs ts) ts)):=by
 refine al Tryz.func24 k24 rfl fun hb hw=>?_;have S:=St.init hi hb;obtain⟨x,hx⟩:∃x,x=kP (zLs ts) ts:=⟨_,rfl⟩
 rw[<-hx];rw[eZ (kP _ _)]at hx;have h:=u4 (a:=0) H (Pz _) (τ++[]) (am hi []);rw[Pi]at h;unfold c24;simp -dsimp only[aw,seval];refine f7 (aK S (Pz _) (by rw[Pi];exact p4 _ _) hx h (fun v a2 hx h1 h2 h3 hy σ1 S1 hl1=>?_) (fun e n b hx σ1 S1 hl1=>?_))
 case refine_2=>
  rw[<-hl1];simp -dsimp only[aw,seval];exact aH S1 hx
 rw[<-hl1];simp -dsimp only[aw,seval];exact cx S1 h2 hx rfl rfl
theorem FN(ts:List Tok)(H:TsV ts)(i:Nat)(τ:LLV)(hi:τ[i]? = some (pb ts 0)):Fun G 42 [.ptr i 0] τ (CQ jz ts i τ (fB (zLs ts) ts)):=by
 refine al Tryz.func42 k42 rfl fun hb hw=>?_;have S:=St.init hi hb;obtain⟨x,hx⟩:∃x,x=fB (zLs ts) ts:=⟨_,rfl⟩
 rw[<-hx];rw[eZ (fB _ _)]at hx;have h:=wb (a:=0) H (Pz _) (τ++[]) (am hi []);rw[Pi]at h;unfold c42;simp -dsimp only[aw,seval];refine f7 (aK S (Pz _) (by rw[Pi];exact ma _ _) hx h (fun v a2 hx h1 h2 h3 hy σ1 S1 hl1=>?_) (fun e n b hx σ1 S1 hl1=>?_))
 case refine_2=>
  rw[<-hl1];simp -dsimp only[aw,seval];exact aH S1 hx
 rw[<-hl1];simp -dsimp only[aw,seval];exact cx S1 h2 hx rfl rfl
theorem Gu(ts:List Tok)(H:TsV ts)(i:Nat)(τ:LLV)(hi:τ[i]? = some (pb ts 0)):Fun G 33 [.ptr i 0] τ (CQ vkl ts i τ (u2 (zLs ts) ts)):=by
 refine al Tryz.func33 k33 rfl fun hb hw=>?_;have S:=St.init hi hb;obtain⟨x,hx⟩:∃x,x=u2 (zLs ts) ts:=⟨_,rfl⟩
 rw[<-hx];unfold u2 at hx;have h:=fun l=>oX (a:=0) H (Pz _) (τ++l) (am hi l);rw[Pi]at h;unfold c33;simp -dsimp only[aw,seval];refine aK S (Pz _) (by rw[Pi];exact gb _ _) hx (h _) (fun v a2 hx h1 h2 h3 hy σ1 S1 hl1=>?_) (fun e n b hx σ1 S1 hl1=>?_)
 case refine_2=>
  rw[<-hl1];simp -dsimp only[aw,seval];exact aH S1 hx
 rw[<-hl1];simp -dsimp only[aw,seval];refine aj (gH ts a2 i _ (am S1.at_ _)) ?_;by_cases hlt:a2<ts.length
 .simp only[isE hlt,Bool.false_eq_true,if_false]at hx;simp -dsimp only[aw,seval,decide_eq_true hlt];refine aE (jd ts a2 i H h2 _ (am S1.at_ _)) fun o σ' ⟨e1,e2⟩=>?_;subst e1;subst e2;simp -dsimp only[aw,seval,aS];exact mn S1 hx
 .have hd:ts.drop a2=[]:=Pn (by omega);rw[hd]at hx;simp only[List.isEmpty_nil,if_true]at hx;simp -dsimp only[aw,seval,decide_eq_false hlt];exact cx S1 h2 (by rw[hx,hd]) rfl (by simp[Mk,aL,bc,aw,seval])
theorem qg(l:Bs)(σ:LLV):Fun G 9 [.d (ae (bs l))] σ (aO (dp kL (od l)) σ):=by
 refine al Tryz.func9 k9 rfl fun hb hw=>?_;have hP:=DQ (fun ts=>kP (zLs ts) ts) (fun ts=>(p4 _ _).ne) 24 l (fun ts H _ i τ hi=>Fr ts H i τ hi) σ;have hsz:=si (z:=[]) (fun ts=>p4 (zLs ts) ts) (by decide) l;unfold c9 od;generalize dk [] (fun ts=>kP (zLs ts) ts) l=r at *;obtain⟨v,n,e⟩:=r;unfold dp kL at *;simp only at hsz hP ⊢;simp -dsimp only[aw,seval];refine aj hP ?_;by_cases he:e=0
 .have hv:=oR v (by omega);rw[if_pos he];simp -dsimp only[aw,seval,decide_eq_true he];refine aj (by simpa only[cT]using hv _) ?_;by_cases h0:iM v=0
  .rw[if_pos h0];simp -dsimp only[aw,seval,decide_eq_true h0];exact aF hb (v:=.tup [.d (.sl (v.map dit)),.d (aa 0),.d (aa 0)]) (by simp[rs9,aL,cv,bc,aw,seval]) rfl Pf ⟨rfl,rfl⟩
  .rw[if_neg h0];simp -dsimp only[aw,seval,decide_eq_false h0];exact aF hb (v:=.tup [.d (.sl []),.d (aa 0),.d (aa (iM v))]) (by simp[rs9,aL,cv,bc,aw,seval]) rfl Pf ⟨rfl,rfl⟩
 .rw[if_neg he];simp -dsimp only[aw,seval,decide_eq_false he];exact aF hb (v:=.tup [.d (.sl []),.d (aa n),.d (aa e)]) (by simp[rs9,aL,cv,bc,aw,seval]) rfl Pf ⟨rfl,rfl⟩
theorem vn(l:Bs)(σ:LLV):Fun G 12 [.d (ae (bs l))] σ (aO (dp vkl (sg l)) σ):=by
 refine al Tryz.func12 k12 rfl fun hb hw=>?_;have hP:=fun σ=>Bw (fun ts=>u2 (zLs ts) ts) (fun ts=>(xb _ _).ne) 33 l (fun ts H _ i τ hi=>Gu ts H i τ hi) σ;have hsz:=si (z:=kZ) (fun ts=>xb (zLs ts) ts) (by decide) l;unfold c12 sg;generalize dk kZ (fun ts=>u2 (zLs ts) ts) l=r at *;obtain⟨v,n,e⟩:=r;unfold dp at *;simp only at hsz hP ⊢;simp -dsimp only[aw,seval];refine aj (hP _) ?_;have fin:∀(k:Kl) (n e:Int) (x:LLV) ρ,aL (σ++x) ρ Aa=some (dp vkl (k,n,e))->fin σ.length Aa (aO (dp vkl (k,n,e)) σ) .ret ρ (σ++x):=fun k n e x ρ h=>aF hb h rfl Pg ⟨rfl,rfl⟩;by_cases he:e=0
 .have hv:=pw v (by omega);generalize lh v=y at *;rw[if_pos he];simp -dsimp only[aw,seval,decide_eq_true he];refine aj (hv _) ?_;by_cases h0:y=0
  .rw[if_pos h0];simp -dsimp only[aw,seval,decide_eq_true h0];exact fin v 0 0 _ _ (by simp[dp,Aa,aL,cv,bc,aw,seval])
  .rw[if_neg h0];simp -dsimp only[aw,seval,decide_eq_false h0];exact fin kZ 0 y _ _ (by simp[dp,kZ,Aa,aL,cv,bc,aw,seval])
 .rw[if_neg he];simp -dsimp only[aw,seval,decide_eq_false he];exact fin kZ n e _ _ (by simp[dp,kZ,Aa,aL,cv,bc,aw,seval])
end Go.Proofs.YtnhphlmblenapaaGreatDoor
