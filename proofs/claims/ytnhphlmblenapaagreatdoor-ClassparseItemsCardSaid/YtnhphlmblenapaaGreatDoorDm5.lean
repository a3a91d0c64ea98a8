import Derived.Test.YtnhphlmblenapaaGreatDoorPm11
set_option linter.unusedVariables false
set_option linter.unusedSimpArgs false
set_option linter.unusedSectionVars false
set_option maxHeartbeats 4000000
open Bool renaming false_eq_true->Sq,and_eq_true->Ss
open ByteArray renaming size_append->Su,append_assoc->Sv
open List renaming getElem?_eq_getElem->Sw,length_set->Sx,take_left->Sy,length_drop->SA,getElem?_append_right->SB,set_append_right->SC,append_nil->SD,suffix_refl->SE,drop_eq_nil_of_le->SF,getElem?_eq_none->SG,drop_eq_getElem_cons->SH,map_cons->SI,getElem?_set_self->SJ,getElem?_set_ne->SK,getElem_mem->SL,set_comm->SM
open Nat renaming add_sub_cancel_left->SN,le_refl->SO,sub_self->SP
open Option renaming map_some->SQ,map_none->SR
namespace Go.Proofs.YtnhphlmblenapaaGreatDoor
open Go.RowKit
theorem wY(e:Ex):gq e=0\/gq e=1\/gq e=7:=by
 induction e using Ex.ind with
 | h o n s l ih=>
 have hl:∀l:List Ex,(∀a,a∈l->gq a=0\/gq a=1\/gq a=7)->jP l=0\/jP l=1\/jP l=7:=by
  intro l
  induction l with
  | nil=>intro _;exact .inl rfl
  | cons a r ihr=>
   intro h;simp only[jP];split
   .exact ihr fun b hb=>h b (by simp[hb])
   .exact h a (by simp)
 have hn:aL o n s l.length=0\/aL o n s l.length=1\/aL o n s l.length=7:=by
  unfold aL;repeat' split
  all_goals simp
 simp only[gq];split
 .exact hl l ih
 .exact hn
theorem m4(e:Ex):bz e=0\/bz e=1\/bz e=2\/bz e=7:=by
 have:=wY e;unfold bz;split<;>omega
theorem mc(σ:LLV)(i k:Nat)(X:List V)(l:LLV):(σ.set i X++l)[σ.length+k]? = l[k]? := by
 rw[SB (by rw[Sx];omega),Sx,SN]
theorem me(σ:LLV)(i k:Nat)(X Z:List V)(l:LLV):(σ.set i X++l).set (σ.length+k) Z=σ.set i X++l.set k Z:=by
 rw[SC _ _ (by rw[Sx];omega),Sx,SN]
theorem eo(σ:LLV)(i:Nat)(X Y:List V)(l:LLV):(σ.set i X++Y::l)[σ.length]? = some Y:=by
 rw[SB (by rw[Sx];exact SO _),Sx,SP];rfl
theorem gN(σ:LLV)(i:Nat)(X Y Z:List V)(l:LLV):(σ.set i X++Y::l).set σ.length Z=σ.set i X++Z::l:=by
 rw[SC _ _ (by rw[Sx];exact SO _),Sx,SP];rfl
section
variable {ts : List Tok} {a : Nat} (H : TsV ts)
include H
theorem i8:(∀t,ts[a]? = some t->t.kind=3->cH (ts.drop a)=some (t.num,ts.drop (a+1)))/\((∀t,ts[a]? = some t->t.kind≠3)->cH (ts.drop a)=none):=by
 by_cases h:a<ts.length
 .rw[Sw h,SH h];refine⟨fun t e hk=>?_,fun hn=>?_⟩
  .cases e;simp only[cH];rw[if_pos ⟨H.v _ (SL h),hk⟩]
  .simp only[cH];rw[if_neg fun hc=>hn _ rfl hc.2]
 .rw[SG (by omega),SF (by omega)];exact⟨fun t e=>(by cases e),fun _=>rfl⟩
theorem ic:(∀t,ts[a]? = some t->t.kind=1->bT (ts.drop a)=some (t.text,ts.drop (a+1)))/\((∀t,ts[a]? = some t->t.kind≠1)->bT (ts.drop a)=none):=by
 by_cases h:a<ts.length
 .rw[Sw h,SH h];refine⟨fun t e hk=>?_,fun hn=>?_⟩
  .cases e;simp only[bT];rw[if_pos ⟨H.v _ (SL h),hk⟩]
  .simp only[bT];rw[if_neg fun hc=>hn _ rfl hc.2]
 .rw[SG (by omega),SF (by omega)];exact⟨fun t e=>(by cases e),fun _=>rfl⟩
end
def CF(ts:List Tok)(a i:Nat)(k:Int)(σ:LLV):Out->LLV->Prop:=fun o σ'=>
 (∃t,ts[a]? = some t/\t.kind=k/\o=.ret (dZ t)/\σ'=σ.set i (pb ts (a+1)))\/((∀t,ts[a]? = some t->t.kind≠k)/\o=.panic (dN (bV ts a) (lnA ts a))/\σ'=σ)
theorem sL(ts:List Tok)(a i:Nat)(k:Int)(H:TsV ts)(ha:a≤ts.length)(σ:LLV)(hi:σ[i]? = some (pb ts a)):
 Fun G 139 [.ptr i 0,.d (ab k)] σ (CF ts a i k σ):=by
 refine ae Tryz.func139 PI rfl fun hb hw=>?_;unfold KJ;have hM:=fun l=>iU ts a i (σ++l) (ah hi l);have hF:=fun l=>jj ts a i H ha (σ++l) (ah hi l);have hl:=H.ok.len;have hil:=(List.getElem?_eq_some_iff.1 hi).1;have hio:=fun l=>ah hi l;have hso:=fun X l=>bc hi X l;unfold pb at hi hio
 have panic:∀(l:LLV),(∀t,ts[a]? = some t->t.kind≠k)->∀(rs:List RV) (ρ:ai),fin σ.length rs (CF ts a i k σ) (.panic (dN (bV ts a) (lnA ts a))) ρ (σ++l):=fun l hk rs ρ=>
  ⟨σ.length,SO _,by rw[Sy];exact hb,rfl,.inr ⟨hk,rfl,Sy⟩⟩
 simp -dsimp only[aw,seval];refine bA (hM _) ?_;by_cases hlt:a<ts.length
 .by_cases hk:ts[a].kind=k
  .have hw1:IntKind.i64.wrap (((a:Nat):Int)+1)=((a+1:Nat):Int):=by rw[aA (by omega) (by omega)];omega
   have hw2:IntKind.i64.wrap (((a+1:Nat):Int)-1)=((a:Nat):Int):=by rw[aA (by omega) (by omega)];omega
   have hs1:=fun l=>ah (SJ (a:=pb ts (a+1)) hil) l;unfold pb at hs1;simp -dsimp only[aw,seval,hio,decide_eq_true hlt,Sw hlt,bM,dA,hk,hw1,hw2,decide_true,hso,hs1,eo,gN];refine bp (σ:=σ) (Q:=CF ts a i k σ) (τ:=σ.set i (pb ts (a+1))) (v:=dZ ts[a]) (bt hb rfl) ?_ rfl ?_ (.inl ⟨ts[a],Sw hlt,hk,rfl,rfl⟩)
   .simp[Ie,aC,aO,dZ,hk,aw,seval]
   .simp[pb]
  .simp -dsimp only[aw,seval,hio,decide_eq_true hlt,Sw hlt,bM,dA,decide_eq_false hk];refine aB (hF _) fun o σ' ⟨e1,e2⟩=>?_;subst e1;subst e2;simp -dsimp only[aw,seval,bg];exact panic _ (fun t ht=>by rw[Sw hlt]at ht;cases ht;exact hk) _ _
 .simp -dsimp only[aw,seval,hio,decide_eq_false hlt];refine aB (hF _) fun o σ' ⟨e1,e2⟩=>?_;subst e1;subst e2;simp -dsimp only[aw,seval,bg];exact panic _ (fun t ht=>by rw[SG (by omega)]at ht;cases ht) _ _
theorem pB{σ σ' τ:LLV}{ρ:ai}{rs:List RV}{Q:Out->LLV->Prop}(hb:ak σ.length τ=true){v:V}(h:aC σ' ρ rs=some v)(hv:V.under σ.length v=true)(hσ:σ'.take σ.length=τ)(hq:Q (.ret v) τ):fin σ.length rs Q .normal ρ σ':=
 ⟨ρ,σ',.refl _ _ _,v,h,σ.length,SO _,by rw[hσ];exact hb,hv,by rw[hσ];exact hq⟩
def CQ{α:Type}(mk:α->V)(ts:List Tok)(i:Nat)(σ:LLV)(y:CP α):Out->LLV->Prop:=fun o σ'=>match y with
 | .out=>False
 | .bad e n=>o=.panic (dN e n)/\∃b,σ'=σ.set i (pb ts b)
 | .ok v r=>o=.ret (mk v)/\σ'=σ.set i (pb ts (ts.length-r.length))
section
variable {α : Type} {mk : α -> V} {σ0 σ : LLV} {i : Nat} {ts : List Tok} {a : Nat} {l : LLV} {K P : V -> LLV -> Prop} {s : Tag K} {t : Tag P} {f : FuncId} {args : List V} {y : CP α}
theorem kK{ts r:List Tok}{a:Nat}(ha:a≤ts.length)(h:r <:+ ts.drop a):r=ts.drop (ts.length-r.length)/\a≤ts.length-r.length/\ts.length-r.length≤ts.length:=by
 have h1:=h.length_le;rw[SA]at h1;exact⟨ww (h.trans (List.drop_suffix a ts)),by omega,by omega⟩
theorem Jx{sz:α->Nat}{c:Nat}(S:St σ0 i ts a σ)(ha:a≤ts.length)(hT:Tk sz c (ts.drop a) y)(h:Fun G f args (σ++l) (CQ mk ts i (σ++l) y))(ht:∀v a2,y=.ok v (ts.drop a2)->a≤a2->a2≤ts.length->sz v+(ts.length-a2)≤c->∀σ',St σ0 i ts a2 σ'->σ'.length=σ.length->K (mk v) (σ'++l))(hf:∀e n b,y=.bad e n->∀σ',St σ0 i ts b σ'->σ'.length=σ.length->P (dN e n) (σ'++l)):
 e8 G f args (σ++l) K P s t:=by
 refine aB h fun o σ' hq=>?_;cases y with
 | out=>exact hT.elim
 | bad e n=>
  obtain⟨rfl,b,rfl⟩:=hq;rw[bc S.at_,bg];exact hf e n b rfl _ (S.step _) (S.slen _)
 | ok v r=>
  obtain⟨rfl,rfl⟩:=hq;obtain⟨h1,h2,h3⟩:=kK ha hT.1;rw[bc S.at_,aP];exact ht v _ (by rw[<-h1]) h2 h3 (by have:=hT.2;rw[h1,SA]at this;omega) _ (S.step _) (S.slen _)
theorem cC{rs:List RV}{ρ:ai}{v:α}(S:St σ0 i ts a σ)(ha:a≤ts.length)(hy:y=.ok v (ts.drop a))(hu:V.under σ.length (mk v)=true)(h:aC (σ++l) ρ rs=some (mk v)):fin σ.length rs (CQ mk ts i σ0 y) .ret ρ (σ++l):=by
 subst hy;exact bp (τ:=σ) S.bb h hu Sy ⟨rfl,by rw[gX ts a ha];exact S.eq⟩
theorem aQ{rs:List RV}{ρ:ai}{e n:Int}(S:St σ0 i ts a σ)(hy:y=.bad e n):fin σ.length rs (CQ mk ts i σ0 y) (.panic (dN e n)) ρ (σ++l):=by
 subst hy;exact⟨σ.length,SO _,by rw[Sy];exact S.bb,rfl,by rw[Sy];exact⟨rfl,a,S.eq⟩⟩
theorem mq{rs:List RV}{ρ:ai}{b:Nat}(S:St σ0 i ts a σ)(hy:y=iR (zLs ts) (ts.drop b)):fin σ.length rs (CQ mk ts i σ0 y) (.panic (dN (bV ts b) (lnA ts b))) ρ (σ++l):=aQ S (by rw[hy,vP])
end
section
variable {σ0 σ : LLV} {i : Nat} {ts : List Tok} {a : Nat} (H : TsV ts) {l : LLV} {K P : V -> LLV -> Prop} {s : Tag K} {t : Tag P}
include H
theorem IE{f:FuncId}{m:ByteArray}(S:St σ0 i ts a σ)(h:Fun G f [.ptr i 0,.d (aj m)] (σ++l) fun o σ'=>o=.ret (an (ax m ts a))/\σ'=if ax m ts a=true then(σ++l).set i (pb ts (a+1))else σ++l)
 (ht:acc m (ts.drop a)=some (ts.drop (a+1))->a<ts.length->∀σ',St σ0 i ts (a+1) σ'->σ'.length=σ.length->K (an true) (σ'++l))(hf:acc m (ts.drop a)=none->K (an false) (σ++l)):e8 G f [.ptr i 0,.d (aj m)] (σ++l) K P s t:=by
 refine aB h fun o σ' ⟨e1,e2⟩=>?_;subst e1;rw[aP];cases hs:ax m ts a with
 | true=>
  rw[hs,if_pos rfl,bc S.at_]at e2;subst e2;exact ht (by rw[aR,hs,if_pos rfl]) (bw hs) _ (S.step _) (S.slen _)
 | false=>
  rw[hs,if_neg (by decide)]at e2;subst e2;exact hf (by rw[aR,hs,if_neg (by decide)])
theorem j0{m:ByteArray}(hm:bO (tw m)=false)(S:St σ0 i ts a σ)(ha:a≤ts.length)(ht:acc m (ts.drop a)=some (ts.drop (a+1))->a<ts.length->∀σ',St σ0 i ts (a+1) σ'->σ'.length=σ.length->K (an true) (σ'++l))(hf:acc m (ts.drop a)=none->K (an false) (σ++l)):
 e8 G 121 [.ptr i 0,.d (aj m)] (σ++l) K P s t:=IE H S (CC m ts a i H ha hm _ (ah S.at_ l)) ht hf
theorem gF{m:ByteArray}(hm:bO (tm m)=false)(S:St σ0 i ts a σ)(ha:a≤ts.length)(ht:acc m (ts.drop a)=some (ts.drop (a+1))->a<ts.length->∀σ',St σ0 i ts (a+1) σ'->σ'.length=σ.length->K (an true) (σ'++l))(hf:acc m (ts.drop a)=none->K (an false) (σ++l)):
 e8 G 60 [.ptr i 0,.d (aj m)] (σ++l) K P s t:=IE H S (Cs m ts a i H ha hm _ (ah S.at_ l)) ht hf
omit H in
theorem sc{α:Type}{z:Int}{m:ByteArray}{r r1:List Tok}{k:List Tok->CP α}(h:acc m r=some r1):bQ z m r k=k r1:=by unfold bQ;rw[h]
omit H in
theorem sJ{α:Type}{z:Int}{m:ByteArray}{r:List Tok}{k:List Tok->CP α}(h:acc m r=none):bQ z m r k=iR z r:=by unfold bQ;rw[h]
omit H in
theorem df{α:Type}{m:ByteArray}{r r1:List Tok}{k:List Tok->CP α}{n:CP α}(h:acc m r=some r1):dF m r k n=k r1:=by unfold dF;rw[h]
omit H in
theorem cu{α:Type}{m:ByteArray}{r:List Tok}{k:List Tok->CP α}{n:CP α}(h:acc m r=none):dF m r k n=n:=by unfold dF;rw[h]
omit H in
theorem BM{α:Type}{z:Int}{r r1:List Tok}{x:ByteArray}{k:ByteArray->List Tok->CP α}(h:bT r=some (x,r1)):dS z r k=k x r1:=by unfold dS;rw[h]
omit H in
theorem Bm{α:Type}{z:Int}{r:List Tok}{k:ByteArray->List Tok->CP α}(h:bT r=none):dS z r k=iR z r:=by unfold dS;rw[h]
omit H in
theorem E7{α:Type}{z:Int}{r r1:List Tok}{x:Int}{k:Int->List Tok->CP α}(h:cH r=some (x,r1)):gD z r k=k x r1:=by unfold gD;rw[h]
omit H in
theorem Dh{α:Type}{z:Int}{r:List Tok}{k:Int->List Tok->CP α}(h:cH r=none):gD z r k=iR z r:=by unfold gD;rw[h]
omit H in
theorem eN{f:FuncId}{args:List V}{τ:LLV}(h:e8 G f args (τ++[]) K P s t):e8 G f args τ K P s t:=by rwa[SD]at h
theorem b9(m:ByteArray)(ha:a≤ts.length)(hm:bO (tw m)=false)(σ:LLV)(hi:σ[i]? = some (pb ts a)):
 Fun G 84 [.ptr i 0,.d (aj m)] σ (CQ (fun _:Unit=>.tup []) ts i σ (bQ (zLs ts) m (ts.drop a) fun r=>.ok () r)):=by
 refine ae Tryz.func84 k84 rfl fun hb hw=>?_;have S:=St.init hi hb;unfold c84;simp -dsimp only[aw,seval];refine eN (j0 H hm S ha (fun hs hlt σ1 S1 hl1=>?_) (fun hs=>?_))
 .rw[sc hs,<-hl1];simp -dsimp only[aw,seval];exact cC (v:=()) S1 hlt rfl rfl rfl
 .rw[sJ hs];simp -dsimp only[aw,seval];refine aB (jj ts a i H ha _ (ah hi _)) fun o σ' ⟨e1,e2⟩=>?_;subst e1;subst e2;simp -dsimp only[aw,seval,bg];exact mq S rfl
theorem oe(m:ByteArray)(ha:a≤ts.length)(hm:bO (tm m)=false)(σ:LLV)(hi:σ[i]? = some (pb ts a)):
 Fun G 82 [.ptr i 0,.d (aj m)] σ (CQ (fun _:Unit=>.tup []) ts i σ (bQ (zLs ts) m (ts.drop a) fun r=>.ok () r)):=by
 refine ae Tryz.func82 k82 rfl fun hb hw=>?_;have S:=St.init hi hb;unfold c82;simp -dsimp only[aw,seval];refine eN (gF H hm S ha (fun hs hlt σ1 S1 hl1=>?_) (fun hs=>?_))
 .rw[sc hs,<-hl1];simp -dsimp only[aw,seval];exact cC (v:=()) S1 hlt rfl rfl rfl
 .rw[sJ hs];simp -dsimp only[aw,seval];refine aB (jj ts a i H ha _ (ah hi _)) fun o σ' ⟨e1,e2⟩=>?_;subst e1;subst e2;simp -dsimp only[aw,seval,bg];exact mq S rfl
end
def iG(n:Nat)(r:List Tok):Ex×Int×Int:=match par .W r with
 | .bad c r=>(z0,((n-r.length:Nat):Int),c)
 | .ok e r=>if bz e=0 then(e,((n-r.length:Nat):Int),0)else(z0,0,bz e)
 | .out=>(z0,0,0)
theorem gh(e:Ex)(n c:Int):ij (e,n,c)=.tup [.agg [.d (ab e.op),.d (ab e.num),.d (aj e.name),.d (.sl (e.args.map dex))],.d (ab n),.d (ab c)]:=by unfold ij;rw[ao]
theorem Az(ts:List Tok)(H:TsOK ts)(a:Nat)(ha:a≤ts.length)(σ:LLV):Fun G 176 [.d (.sl (ts.map dA)),.d (ab a)] σ (aN (ij (iG ts.length (ts.drop a))) σ):=by
 refine ae Tryz.func176 Sj rfl fun hb hw=>?_;unfold Ov;have hA:=fun σ=>wP ts H a ha σ;have hL:=H.len;have d0:decide (((a:Nat):Int)<0)=false:=by rw[decide_eq_false_iff_not];omega
 have d1:decide (((ts.length:Nat):Int)<((a:Nat):Int))=false:=by rw[decide_eq_false_iff_not];omega
 simp -dsimp only[aw,seval,d0,d1];refine ac (hA _) ?_;cases hx:par .W (ts.drop a)with
 | out=>exact absurd hx (fA _ _)
 | bad c r=>
  have hT:iG ts.length (ts.drop a)=(z0,((ts.length-r.length:Nat):Int),c):=by unfold iG;rw[hx]
  have dc:=decide_eq_false (pq hx).1;rw[hT];simp -dsimp only[aw,seval,Fu,ao,bq,aU,aG,aH,dc];exact az hb (v:=ij (z0,((ts.length-r.length:Nat):Int),c)) (by unfold ij;rw[jc];simp[zc,aC,bY,aO,aw,seval]) (by unfold ij;rw[jc];rfl) Sy ⟨rfl,rfl⟩
 | ok e r=>
  have hsz:=uO hx;rw[SA]at hsz;have hv:=nZ e (by omega) (by have:=no e;omega);by_cases h0:bz e=0
  .have hT:iG ts.length (ts.drop a)=(e,((ts.length-r.length:Nat):Int),0):=by unfold iG;rw[hx];simp[h0]
   rw[hT];simp -dsimp only[aw,seval,Fu,ao,decide_true];refine ac (by simpa only[ao]using hv _) ?_;simp -dsimp only[aw,seval,decide_eq_true h0];exact az hb (v:=ij (e,((ts.length-r.length:Nat):Int),0)) (by unfold ij;rw[ao];simp[zc,aC,bY,aO,aw,seval]) (by unfold ij;rw[ao];rfl) Sy ⟨rfl,rfl⟩
  .have hT:iG ts.length (ts.drop a)=(z0,0,bz e):=by unfold iG;rw[hx];simp[h0]
   rw[hT];simp -dsimp only[aw,seval,Fu,ao,decide_true];refine ac (by simpa only[ao]using hv _) ?_;simp -dsimp only[aw,seval,decide_eq_false h0];exact az hb (v:=ij (z0,0,bz e)) (by unfold ij;rw[jc];simp[zc,aC,bY,aO,aw,seval]) (by unfold ij;rw[jc];rfl) Sy ⟨rfl,rfl⟩
end Go.Proofs.YtnhphlmblenapaaGreatDoor
namespace Go.Proofs.YtnhphlmblenapaaGreatDoor
open Go.RowKit
section
variable {α β : Type} {z : Int} {r : List Tok}
theorem od{k:β->List Tok->CP α}:(iR z r:CP β).bind k=iR z r:=by cases r<;>rfl
theorem bind_assoc{γ:Type}{y:CP β}{f:β->List Tok->CP γ}{g:γ->List Tok->CP α}:(y.bind f).bind g=y.bind fun v r=>(f v r).bind g:=by cases y<;>rfl
theorem gS(k:ByteArray->List Tok->CP α):dS z r k=(dS z r .ok).bind k:=by unfold dS;cases bT r with|some p=>rfl|none=>exact od.symm
theorem ki(k:Int->List Tok->CP α):gD z r k=(gD z r .ok).bind k:=by unfold gD;cases cH r with|some p=>rfl|none=>exact od.symm
theorem bJ{m:ByteArray}(k:List Tok->CP α):bQ z m r k=(bQ z m r fun r=>.ok () r).bind fun _ r=>k r:=by unfold bQ;cases acc m r with|some p=>rfl|none=>exact od.symm
theorem v8(k:Ex->List Tok->CP α):exC z r k=(exC z r .ok).bind k:=by
 unfold exC;cases par .W r with
 | out=>rfl
 | bad c q=>rfl
 | ok e q=>
  simp only;split<;>rfl
theorem hY(r:List Tok):Tk fV r.length r (dS z r .ok):=iv (SE _) fun s r1 h1 l1=>⟨h1,by unfold fV;omega⟩
theorem jt(r:List Tok):Tk fV r.length r (gD z r .ok):=kR (SE _) fun s r1 h1 l1=>⟨h1,by unfold fV;omega⟩
theorem cd{m:ByteArray}(r:List Tok):Tk fV r.length r (bQ z m r fun r=>.ok () r):=cE (SE _) fun r1 h1 l1=>⟨h1,by unfold fV;omega⟩
theorem FP(r:List Tok):Tk bB r.length r (exC z r .ok):=uo (SE _) fun e r1 _ h1 l1=>⟨h1,by omega⟩
theorem Gd{r r1:List Tok}{s:ByteArray}(h:(dS z r .ok:CP ByteArray)=.ok s r1):bT r=some (s,r1):=by
 unfold dS at h;cases hp:bT r with
 | none=>rw[hp]at h;exact absurd h (by cases r<;>(intro h;cases h))
 | some p=>
  obtain⟨s',q⟩:=p;rw[hp]at h;simp only[CP.ok.injEq]at h;obtain⟨rfl,rfl⟩:=h;rfl
theorem CN{r r1:List Tok}{s:Int}(h:(gD z r .ok:CP Int)=.ok s r1):cH r=some (s,r1):=by
 unfold gD at h;cases hp:cH r with
 | none=>rw[hp]at h;exact absurd h (by cases r<;>(intro h;cases h))
 | some p=>
  obtain⟨s',q⟩:=p;rw[hp]at h;simp only[CP.ok.injEq]at h;obtain⟨rfl,rfl⟩:=h;rfl
end
section
variable {α β : Type} {mk : β -> V} {σ0 σ : LLV} {i : Nat} {ts : List Tok} {a : Nat} {l : LLV} {K P : V -> LLV -> Prop} {s : Tag K} {t : Tag P} {f : FuncId} {args : List V} {y : CP β} {x : CP α} {k : β -> List Tok -> CP α} {sz : β -> Nat} {c : Nat}
theorem aX(S:St σ0 i ts a σ)(ha:a≤ts.length)(hT:Tk sz c (ts.drop a) y)(hx:x=y.bind k)(h:Fun G f args (σ++l) (CQ mk ts i (σ++l) y))(ht:∀v a2,x=k v (ts.drop a2)->a≤a2->a2≤ts.length->sz v+(ts.length-a2)≤c->y=.ok v (ts.drop a2)->∀σ',St σ0 i ts a2 σ'->σ'.length=σ.length->K (mk v) (σ'++l))(hf:∀e n b,x=.bad e n->∀σ',St σ0 i ts b σ'->σ'.length=σ.length->P (dN e n) (σ'++l)):
 e8 G f args (σ++l) K P s t:=
 Jx S ha hT h (fun v a2 hy h1 h2 h3=>ht v a2 (by rw[hx,hy];rfl) h1 h2 h3 hy) fun e n b hy=>hf e n b (by rw[hx,hy];rfl)
end
section
variable {ts : List Tok} {a i : Nat} (H : TsV ts) (ha : a ≤ ts.length) (σ : LLV) (hi : σ[i]? = some (pb ts a))
include H ha hi
theorem fS:Fun G 83 [.ptr i 0] σ (CQ (fun s=>.d (aj s)) ts i σ (dS (zLs ts) (ts.drop a) .ok)):=by
 refine ae Tryz.func83 k83 rfl fun hb hw=>?_;have S:=St.init hi hb;unfold c83;simp -dsimp only[aw,seval];refine aB (sL ts a i 1 H ha σ hi) fun o σ' hq=>?_;rcases hq with⟨t,h1,h2,rfl,rfl⟩|⟨h1,rfl,rfl⟩
 .have hlt:=(List.getElem?_eq_some_iff.1 h1).1;rw[BM ((ic H).1 t h1 h2)];simp -dsimp only[aw,seval,aP,dZ];have:=cC (mk:=fun s=>.d (aj s)) (l:=[]) (rs:=Mh) (ρ:=[(2,.d (aj t.text))]) (v:=t.text) (S.step (a+1)) hlt rfl rfl rfl;rw[S.slen,SD]at this;exact this
 .rw[Bm ((ic H).2 h1)];simp -dsimp only[aw,seval,bg];have:=fun ρ rs=>mq (mk:=fun s:ByteArray=>V.d (aj s)) (l:=[]) (rs:=rs) (ρ:=ρ) (b:=a) S rfl;rw[SD]at this;exact this _ _
theorem ef:Fun G 177 [.ptr i 0] σ (CQ (fun n=>.d (ab n)) ts i σ (gD (zLs ts) (ts.drop a) .ok)):=by
 refine ae Tryz.func177 Ry rfl fun hb hw=>?_;have S:=St.init hi hb;unfold LC;simp -dsimp only[aw,seval];refine aB (sL ts a i 3 H ha σ hi) fun o σ' hq=>?_;rcases hq with⟨t,h1,h2,rfl,rfl⟩|⟨h1,rfl,rfl⟩
 .have hlt:=(List.getElem?_eq_some_iff.1 h1).1;rw[E7 ((i8 H).1 t h1 h2)];simp -dsimp only[aw,seval,aP,dZ];have:=cC (mk:=fun n=>.d (ab n)) (l:=[]) (rs:=IJ) (ρ:=[(2,.d (ab t.num))]) (v:=t.num) (S.step (a+1)) hlt rfl rfl rfl;rw[S.slen,SD]at this;exact this
 .rw[Dh ((i8 H).2 h1)];simp -dsimp only[aw,seval,bg];have:=fun ρ rs=>mq (mk:=fun n:Int=>V.d (ab n)) (l:=[]) (rs:=rs) (ρ:=ρ) (b:=a) S rfl;rw[SD]at this;exact this _ _
theorem rV:Fun G 118 [.ptr i 0] σ (CQ vex ts i σ (exC (zLs ts) (ts.drop a) .ok)):=by
 refine ae Tryz.func118 Qd rfl fun hb hw=>?_;unfold MQ;have S:=St.init hi hb;have hT:=fun σ=>Az ts H.ok a ha σ;have hL:=H.ok.len;have hil:=(List.getElem?_eq_some_iff.1 hi).1;have hio:=fun l=>ah hi l;have hso:=fun X l=>bc hi X l;have hF:=fun e b hb l=>nN ts a b i e H hb (σ++l) (ah hi l);unfold exC;unfold iG at hT;unfold pb at hio hso;cases hx:par .W (ts.drop a)with
 | out=>exact absurd hx (fA _ _)
 | bad c r=>
  have hb3:=qg hx;have hbl:=(pq hx).2;rw[SA]at hbl;rw[hx]at hT;simp only at hT ⊢;have htk:=iM .W (ts.drop a);rw[hx]at htk;have hln:lnR (zLs ts) r=lnA ts (ts.length-r.length):=by unfold lnA;rw[<-(kK ha htk).1]
  have hF:=fun l=>hF c (ts.length-r.length) (by omega) l;rw[hln];simp -dsimp only[aw,seval,hio];refine bA (hT _) ?_;simp -dsimp only[aw,seval,ij,ao,z0,bq,aU,aG,aH];refine bh (bh (bA (hT _) ?_) ?_) ?_
  .simp -dsimp only[aw,seval,ij,ao,z0,bq,aU,aG,aH]
  .simp -dsimp only[aw,seval,hio]
  have c0:c≠0:=by omega
  by_cases c5:c=5
  .subst c5;simp -dsimp only[aw,seval,Int.reduceEq,decide_false,decide_true];refine aB (hF _) fun o σ' ⟨e1,e2⟩=>?_;subst e1;subst e2;simp -dsimp only[aw,seval,bg];exact aQ S rfl
  by_cases c3:c=3
  .subst c3;simp -dsimp only[aw,seval,Int.reduceEq,decide_false,decide_true];refine aB (hF _) fun o σ' ⟨e1,e2⟩=>?_;subst e1;subst e2;simp -dsimp only[aw,seval,bg];exact aQ S rfl
  have c6:c=6:=by omega
  subst c6;simp -dsimp only[aw,seval,Int.reduceEq,decide_false,decide_true];refine aB (hF _) fun o σ' ⟨e1,e2⟩=>?_;subst e1;subst e2;simp -dsimp only[aw,seval,bg];exact aQ S rfl
 | ok e r=>
  have htk:=iM .W (ts.drop a);rw[hx]at htk;rw[hx]at hT;simp only at hT ⊢;by_cases hv:bz e=0
  .rw[if_pos hv]at hT ⊢;simp -dsimp only[aw,seval,hio];refine bA (hT _) ?_;simp -dsimp only[aw,seval,ij,ao,z0,bq,aU,aG,aH];refine bh (bh (bA (hT _) ?_) ?_) ?_
   .simp -dsimp only[aw,seval,ij,ao,z0,bq,aU,aG,aH]
   .simp -dsimp only[aw,seval,hio]
   have S1:=S.step (ts.length-r.length);simp -dsimp only[aw,seval,gh,hio,hso,decide_true,eo,gN,mc,me]
   have hfin:∀(x:LLV) (ρ:ai),aC (σ.set i (pb ts (ts.length-r.length))++x) ρ zw=some (vex e)->fin σ.length zw (CQ vex ts i σ (.ok e r)) .ret ρ (σ.set i (pb ts (ts.length-r.length))++x):=fun x ρ h=>by
    have:=cC (mk:=vex) (y:=.ok e r) S1 (by omega) (by rw[<-(kK ha htk.1).1]) (by rw[ao];rfl) h;rwa[Sx]at this
   unfold pb at hfin;refine hfin _ _ ?_;rw[ao];simp[zw,aC,aO,aw,seval]
  .rw[if_neg hv]at hT ⊢;have hcd:=m4 e;have h6:¬bz e=6:=by omega
   have h5:¬bz e=5:=by omega
   have h3:¬bz e=3:=by omega
   simp -dsimp only[aw,seval,hio];refine bA (hT _) ?_;simp -dsimp only[aw,seval,ij,ao,z0,bq,aU,aG,aH];refine bh (bh (bA (hT _) ?_) ?_) ?_
   .simp -dsimp only[aw,seval,ij,ao,z0,bq,aU,aG,aH]
   .simp -dsimp only[aw,seval,hio]
   simp -dsimp only[aw,seval,decide_eq_false hv,decide_eq_false h6,decide_eq_false h5,decide_eq_false h3];exact aQ S rfl
end
theorem za{ts:List Tok}{a:Nat}{n:Int}{r:List Tok}(h:cH (ts.drop a)=some (n,r)):0≤n/\n≤2147483647:=by
 by_cases hla:a<ts.length
 .rw[eO hla]at h;split at h
  .rename_i hv;cases h;have:=hv.1;unfold bO at this;rw[if_pos hv.2]at this;simp only[Ss,decide_eq_true_eq]at this;exact⟨this.1.1,this.1.2⟩
  .cases h
 .rw[SF (by omega)]at h;cases h
theorem rU(s:ByteArray){n:Int}(h:0≤n):s++(⟨#[91]⟩++bs (Lib.itoa n)++⟨#[93]⟩)=gJ s n:=by
 unfold gJ Ia aa;rw[na h,Sv];rfl
section
variable {ts : List Tok} {a i : Nat} (H : TsV ts) (ha : a ≤ ts.length) (σ : LLV) (hi : σ[i]? = some (pb ts a))
include H ha hi
theorem ko:Fun G 119 [.ptr i 0] σ (CQ (fun s=>.d (aj s)) ts i σ (gc (zLs ts) (ts.drop a))):=by
 refine ae Tryz.func119 Qu rfl fun hb hw=>?_;have S:=St.init hi hb;obtain⟨x,hx⟩:∃x,x=gc (zLs ts) (ts.drop a):=⟨_,rfl⟩
 rw[<-hx];unfold gc at hx;rw[gS]at hx;unfold Lz;simp -dsimp only[aw,seval];refine eN (aX S ha (hY _) hx (fS H ha _ (ah hi _)) (fun s a1 hx h1 h2 h3 hy σ1 S1 hl1=>?_) (fun e n b hx σ1 S1 hl1=>?_))
 case refine_2=>
  rw[<-hl1];simp -dsimp only[aw,seval];exact aQ S1 hx
 have hs:=jo H.ok (Gd hy);rw[<-hl1];simp -dsimp only[aw,seval];refine j0 H (by decide +kernel) S1 h2 (fun hs2 hlt2 σ2 S2 hl2=>?_) (fun hs2=>?_)
 case refine_2=>
  rw[show(⟨#[91]⟩:ByteArray)=aa 91 from rfl]at hs2;rw[cu hs2]at hx;simp -dsimp only[aw,seval];exact cC S1 h2 hx rfl rfl
 rw[show(⟨#[91]⟩:ByteArray)=aa 91 from rfl]at hs2;rw[df hs2,ki]at hx;rw[<-hl2];simp -dsimp only[aw,seval];refine aX S2 hlt2 (jt _) hx (ef H hlt2 _ (ah S2.at_ _)) (fun n a3 hx h4 h5 h6 hy σ3 S3 hl3=>?_) (fun e n b hx σ1 S1 hl1=>?_)
 case refine_2=>
  rw[<-hl1];simp -dsimp only[aw,seval];exact aQ S1 hx
 have hn:=za (CN hy);have hl10:=qj n hn.1 hn.2;have hI:=pG n (by omega) (by omega) (Nat.le_trans hl10 (by decide +kernel));rw[<-hl3];simp -dsimp only[aw,seval];refine ac (hI _) ?_;have hb10:(bs (Lib.itoa n)).size≤10:=by rw[aE];exact hl10
 have c1:(⟨#[91]⟩:ByteArray).size+(bs (Lib.itoa n)).size≤9223372036854775807:=by show 1+_≤_;omega
 have c2:((⟨#[91]⟩:ByteArray)++bs (Lib.itoa n)).size+(⟨#[93]⟩:ByteArray).size≤9223372036854775807:=by rw[Su];show 1+_+1≤_;omega
 have c3:s.size+((⟨#[91]⟩:ByteArray)++bs (Lib.itoa n)++⟨#[93]⟩).size≤9223372036854775807:=by rw[Su,Su];show s.size+(1+_+1)≤_;omega
 have c4:=rU s hn.1;rw[bJ]at hx;simp -dsimp only[aw,seval,c1,c2,c3,c4];refine aX S3 h5 (cd _) hx (b9 H (aa 93) h5 (by decide +kernel) _ (ah S3.at_ _)) (fun _ a4 hx h7 h8 h9 hy σ4 S4 hl4=>?_) (fun e n b hx σ1 S1 hl1=>?_)
 case refine_2=>
  rw[<-hl1];simp -dsimp only[aw,seval];exact aQ S1 hx
 rw[<-hl4];simp -dsimp only[aw,seval];exact cC S4 h8 hx rfl rfl
theorem mV:Fun G 122 [.ptr i 0] σ (CQ (fun l=>.d (.sl (l.map fun s=>[aj s]))) ts i σ (gz (zLs ts) (ts.drop a))):=by
 refine ae Tryz.func122 Qa rfl fun hb hw=>?_;have S:=St.init hi hb;have hL:=H.ok.len;obtain⟨x,hx⟩:∃x,x=gz (zLs ts) (ts.drop a):=⟨_,rfl⟩
 rw[<-hx];unfold gz at hx;unfold Pt;simp -dsimp only[aw,seval];refine eN (aX S ha (f6 _ _) hx (ko H ha _ (ah hi _)) (fun s a1 hx h1 h2 h3 hy σ1 S1 hl1=>?_) (fun e n b hx σ1 S1 hl1=>?_))
 case refine_2=>
  rw[<-hl1];simp -dsimp only[aw,seval];exact aQ S1 hx
 rw[<-hl1];simp -dsimp only[aw,seval];refine aS [0,3] (R:=fun(j:Nat) ρ σ'=>∃(a1:Nat) (l:List ByteArray) (σ2:LLV),ρ=[(0,.ptr i 0),(3,.own 9 1 (l.map fun s=>[aj s]))]/\σ'=σ2++[]/\St σ i ts a1 σ2/\σ2.length=σ1.length/\a1≤ts.length/\l.length+j≤a1+1/\j≤a1/\x=fC (fun l r=>(acc (aa 44) r).map fun r2=>(gc (zLs ts) r2).bind fun s r3=>.ok (l++[s]) r3) l (ts.drop a1)) ts.length ⟨a1,[s],σ1,rfl,rfl,S1,rfl,h2,by simp,by omega,hx⟩ ?_ _;rintro j ρ' σ' hj ⟨a1,l,σ2,rfl,rfl,S2,hl2,h4,h5,h6,hx⟩;rw[m5 (lb (f6 _)).eats]at hx;rw[<-hl2];simp -dsimp only[aw,seval];refine j0 H (by decide +kernel) S2 h4 (fun hs2 hlt2 σ3 S3 hl3=>?_) (fun hs2=>?_)
 case refine_2=>
  rw[show(⟨#[44]⟩:ByteArray)=aa 44 from rfl]at hs2;simp only[hs2,SR]at hx;simp -dsimp only[aw,seval];exact cC S2 h4 hx rfl rfl
 rw[show(⟨#[44]⟩:ByteArray)=aa 44 from rfl]at hs2;simp only[hs2,SQ,bind_assoc]at hx;rw[<-hl3];simp -dsimp only[aw,seval];refine aX S3 hlt2 (f6 _ _) hx (ko H hlt2 _ (ah S3.at_ _)) (fun s a3 hx h7 h8 h9 hy σ4 S4 hl4=>?_) (fun e n b hx σ1 S1 hl1=>?_)
 case refine_2=>
  rw[<-hl1];simp -dsimp only[aw,seval];exact aQ S1 hx
 rw[<-hl4];simp -dsimp only[aw,seval];refine bh (by omega) ?_;simp -dsimp only[aw,seval];have hlt4:a1+1<a3:=by unfold fV at h9;rw[SA]at h9;omega
 refine⟨by omega,Nxt.same (by simp) (aq S4.bb rfl) (by simp[au,V.under,S4.len];exact S4.lt) ⟨a3,l++[s],σ4,by simp,rfl,S4,by rw[hl4,hl3,hl2],h8,by simp;omega,by omega,hx⟩⟩
end
end Go.Proofs.YtnhphlmblenapaaGreatDoor
namespace Go.Proofs.YtnhphlmblenapaaGreatDoor
open Go.RowKit
theorem d7(ρ:ai)(d t:Nat)(v:V):get (put ρ d v) t=if d=t then v else get ρ t:=by
 rw[cM];by_cases e:d=t
 .subst e;simp
 .rw[if_neg e,if_neg];exact fun h=>e h.symm
theorem EO{C:Cx}{n0:Nat}{l:List O}{es:List (List Nat)}{ρ:ai}{σ σ':LLV}{Q:bX}(hu:Up σ σ')(h:iQ C n0 l es ρ σ' Q):iQ C n0 l es ρ σ Q:=
 fun pr M0 bm0 w0 id ops n M bm tk a w hG hbm hok hes hl hs=>h pr M0 bm0 w0 id ops n M bm tk a w hG hbm hok hes hl (hs.up hu)
theorem FL{cs:List V}{fo:Nat}(h:fo<cs.length)(x y:V):over (cs.set fo x) fo [y]=cs.set fo y:=by
 unfold over;rw[List.take_set_of_le (SO _),List.drop_set_of_lt (by simp),List.set_eq_take_append_cons_drop,if_pos h];simp
abbrev GT(b p o fo f:Nat)(ex:List V)(T k by_:Nat):List O:=[⟨some b,.fa fo (.t o),none⟩,⟨some (b+1),.ldo (.t b),none⟩,⟨some (b+2),.mv (.t p),none⟩,⟨some (b+3),.call f (.t (b+2)::ex.map .k),none⟩,⟨some (b+4),.mks T k [.t (b+3)],none⟩,⟨some (b+5),.app T k by_ (b+1) (.t (b+4)),none⟩,⟨some (b+6),.fa fo (.t o),none⟩,⟨none,.stoo (.t (b+6)) (b+5),none⟩]
abbrev es8:List (List Nat):=[[],[0],[],[2],[3],[1,4,3],[0,1,2,3,4,5],[6,5,5,0,1,2,3,4,5]]
section
variable {C : Cx} {n0 : Nat} (ρ0 : ai) (σ0 : LLV) (T k i o fo b : Nat) (cs : List V) (rows : LLD) (r : List D) (v : V) (P : List V)
def st8(S:Nat->Bool):ai:=
 put (put (put (put (put (put (put ρ0 b (if S 0 then .ptr o fo else get ρ0 b)) (b+1) (if S 5 then .d (.sl rows)else if S 1 then .own T k rows else get ρ0 (b+1))) (b+2) (if S 2 then .ptr i 0 else get ρ0 (b+2))) (b+3) (if S 3 then v else get ρ0 (b+3)))
  (b+4) (if S 4 then .d (.sl [r])else get ρ0 (b+4))) (b+5) (if S 7 then .d (.sl (rows++[r]))else if S 5 then .own T k (rows++[r])else get ρ0 (b+5))) (b+6) (if S 6 then .ptr o fo else get ρ0 (b+6))
def sg8(S:Nat->Bool):LLV:=
 if S 7 then(if S 3 then σ0.set i P else σ0).set o (cs.set fo (.own T k (rows++[r])))else if S 1 then(if S 3 then σ0.set i P else σ0).set o (cs.set fo (.d (.sl rows)))else if S 3 then σ0.set i P else σ0
theorem jS{f by_ p os:Nat}{ex:List V}{Q:bX}(ly:Bool)(PP:V->List V->Prop)(hp:get ρ0 p=.ptr i 0)(hob:get ρ0 os=.ptr o 0)(hpb:p<b)(hosb:os<b)(hio:i≠o)(ho:σ0[o]? = some cs)(hc:cs[fo]? = some (.own T k rows))
 (hf:∀σ,σ[i]? = σ0[i]? -> Fun C f (.ptr i 0::ex.map V.lend) σ fun out σ'=>if ly=true then out=.ret v/\σ'=σ.set i P else ∃u P',out=.panic u/\σ'=σ.set i P'/\PP u P')
 (hr:dE [v]=some [r])(hk:r.length=k)(hby:(rows.length+1)*by_≤140737488355328)
 (hq:ly=true->Q .normal (st8 ρ0 T k i o fo b rows r v fun _=>true) ((σ0.set i P).set o (cs.set fo (.own T k (rows++[r])))))
 (hpan:ly=false->∀u P' ρ' X,PP u P'->(X=cs\/X=cs.set fo (.d (.sl rows)))->Q (.panic u) ρ' ((σ0.set i P').set o X)):iQ C n0 (GT b p os fo f ex T k by_) es8 ρ0 σ0 Q:=by
 intro pr M0 bm0 w0 id ops n M bm tk a w hG hbm hok hes hl h;obtain⟨hlen,hget⟩:=iZ hok;have hsz:ops.size=8:=by rw[<-Array.length_toList,<-hlen];rfl
 have hedge:∀(i:Nat) (o:Oper),ops.toList[i]? = some o->es8[i]? = some (aW o):=fun i o ho=>by rw[<-hes,List.getElem?_map,ho];rfl
 have hol:o<σ0.length:=(List.getElem?_eq_some_iff.1 ho).1;have hfl:fo<cs.length:=(List.getElem?_eq_some_iff.1 hc).1
 have hwant:∀(p:O) (o':Oper),okO C.tab n ops p o'=true->p.g=none->∀a:Act,Region.wanted o' (yielded ops a.tmps)=true:=by
  intro p o' hoo hg a;have hgd:=hoo;unfold okO at hgd;simp only[Ss]at hgd;replace hgd:=hgd.2;rw[hg]at hgd;split at hgd
  .rename_i hg2;simp[Region.wanted,hg2]
  .rename_i e _;cases e
  .cases hgd
 have hext:∀S S':Nat->Bool,(∀j,j<ops.size->S j=S' j)->st8 ρ0 T k i o fo b rows r v S=st8 ρ0 T k i o fo b rows r v S'/\sg8 σ0 T k i o fo cs rows r P S=sg8 σ0 T k i o fo cs rows r P S'/\S 3=S' 3:=fun S S' hS=>by
  rw[hsz]at hS;unfold st8 sg8;rw[hS 0 (by omega),hS 1 (by omega),hS 2 (by omega),hS 3 (by omega),hS 4 (by omega),hS 5 (by omega),hS 6 (by omega),hS 7 (by omega)];exact⟨rfl,rfl,rfl⟩
 refine nB (M:=M) (bm:=bm) (tk:=tk) (st8 ρ0 T k i o fo b rows r v) (sg8 σ0 T k i o fo cs rows r P) (st8 ρ0 T k i o fo b rows r v fun _=>true) ((σ0.set i P).set o (cs.set fo (.own T k (rows++[r])))) (fun S=>ly=true\/S 3=false) (.inr rfl) (fun S S' hS hI=>by rw[<-(hext S S' hS).2.2];exact hI)
  (fun i o ho j hj=>?_) (fun S S' hS=>⟨fun t=>by rw[(hext S S' hS).1],(hext S S' hS).2.1⟩) hl ?_ (fun hI=>?_) (fun S j o' ho' hSj hclo hed hI M bm tk a w hl h=>?_)
 .have he:=hedge i o ho;have hi:i<8:=by have:=(List.getElem?_eq_some_iff.1 ho).1;simp at this;omega
  have key:∀i,i<8->∀l,es8[i]? = some l->∀j∈l,j<i:=by decide
  exact key i hi _ he j hj
 .refine h.congr fun t=>?_;unfold st8;simp only[Sq,if_false,d7];repeat' split
  all_goals first|rfl|(subst_vars;rfl)
 .rcases hI with hg|hg
  .exact⟨⟨fun t=>rfl,rfl⟩,hq hg⟩
  .cases hg
 .have he:=hedge j o' ho';have hj:j<8:=by have:=(List.getElem?_eq_some_iff.1 ho').1;simp at this;omega
  have hed:∀l,es8[j]? = some l->∀e∈l,S e=true:=fun l hl e hm=>by rw[hl]at he;cases he;exact hed e hm
  have hcl:∀q,q<8->j∈(es8[q]?.getD [])->S q=false:=fun q hq hm=>by
   cases hs:S q with
   | false=>rfl
   | true=>
    have h8:ops.toList[q]? = some (ops.toList[q]'(by rw[<-hlen];exact hq)):=Sw _;rw[hedge q _ h8]at hm;have:=hclo q _ h8 hs j hm;rw[this]at hSj;cases hSj
  have g0:∀t,t<b->get (st8 ρ0 T k i o fo b rows r v S) t=get ρ0 t:=fun t ht=>by unfold st8;simp only[d7];rw[if_neg (by omega),if_neg (by omega),if_neg (by omega),if_neg (by omega),if_neg (by omega),if_neg (by omega),if_neg (by omega)]
  have gg:∀S t,get (st8 ρ0 T k i o fo b rows r v S) t=if b+6=t then(if S 6 then .ptr o fo else get ρ0 (b+6))else if b+5=t then(if S 7 then .d (.sl (rows++[r]))else if S 5 then .own T k (rows++[r])else get ρ0 (b+5))else if b+4=t then(if S 4 then .d (.sl [r])else get ρ0 (b+4))else if b+3=t then(if S 3 then v else get ρ0 (b+3))else if b+2=t then(if S 2 then .ptr i 0 else get ρ0 (b+2))else if b+1=t then(if S 5 then .d (.sl rows)else if S 1 then .own T k rows else get ρ0 (b+1))else if b=t then(if S 0 then .ptr o fo else get ρ0 b)else get ρ0 t:=fun S t=>by
   unfold st8;simp only[d7]
  have go:∀(p':O) ,(GT b p os fo f ex T k by_)[j]? = some p'->p'.g=none->cS C p'.op p'.dst (st8 ρ0 T k i o fo b rows r v S) (sg8 σ0 T k i o fo cs rows r P S) (fun ρ' σ'=>(∀t,get ρ' t=get (st8 ρ0 T k i o fo b rows r v fun q=>q==j||S q) t)/\σ'=sg8 σ0 T k i o fo cs rows r P (fun q=>q==j||S q)/\(ly=true\/(j==3||S 3)=false)) Q->
   (if Region.wanted o' (yielded ops a.tmps)then o'.wp C.P a w (oP M bm pr w n fun ρ' σ'=>(∀t,get ρ' t=get (st8 ρ0 T k i o fo b rows r v fun q=>q==j||S q) t)/\σ'=sg8 σ0 T k i o fo cs rows r P (fun q=>q==j||S q)/\(ly=true\/(j==3||S 3)=false)) (bG M bm pr w n Q)
   else SRel M bm tk pr (st8 ρ0 T k i o fo b rows r v fun q=>q==j||S q) (sg8 σ0 T k i o fo cs rows r P fun q=>q==j||S q) n (a.put o'.dst undef) w/\(ly=true\/(j==3||S 3)=false)):=by
   intro p' hp' hg hr;have hoo:=hget j p' o' hp' ho';rw[if_pos (hwant p' o' hoo hg a)];exact d9 (hG.mono hl) h hoo hr
  have xp:ev C (st8 ρ0 T k i o fo b rows r v S) (.t p)=.ptr i 0:=by rw[<-hp];exact g0 p hpb
  have xo:ev C (st8 ρ0 T k i o fo b rows r v S) (.t os)=.ptr o 0:=by rw[<-hob];exact g0 os hosb
  have fa:pv C (.fa fo (.t os)) (st8 ρ0 T k i o fo b rows r v S) (sg8 σ0 T k i o fo cs rows r P S)=some (.ptr o fo):=by simp[pv,xo,faV]
  have hj':j=0\/j=1\/j=2\/j=3\/j=4\/j=5\/j=6\/j=7:=by omega
  have hsl:(σ0.set i P).length=σ0.length:=Sx;rcases hj' with rfl|rfl|rfl|rfl|rfl|rfl|rfl|rfl
  .refine go _ rfl rfl ?_;simp only[cS,fa,putd];refine⟨fun t=>?_,?_,by simpa using hI⟩
   .simp only[gg,d7,hSj];simp;grind
   .unfold sg8;simp
  .have s0:=hed _ rfl 0 (by simp);have s5:=hcl 5 (by omega) (by decide);have s7:=hcl 7 (by omega) (by decide);have x0:ev C (st8 ρ0 T k i o fo b rows r v S) (.t b)=.ptr o fo:=by show get _ b=_;rw[gg];simp[s0]
   have hσ:(sg8 σ0 T k i o fo cs rows r P S)[o]? = some cs:=by
    unfold sg8;rw[s7,hSj];cases S 3<;>simp[hio,ho]
   refine go _ rfl rfl ?_;simp only[cS,x0,hσ,hc,putd];refine⟨fun t=>?_,?_,by simpa using hI⟩
   .simp only[gg,d7,s5,hSj];simp;grind
   .unfold sg8;simp[s7,hSj]
  .refine go _ rfl rfl ?_;have:pv C (.mv (.t p)) (st8 ρ0 T k i o fo b rows r v S) (sg8 σ0 T k i o fo cs rows r P S)=some (.ptr i 0):=by show some (ev C _ (.t p)).copy=_;rw[xp];rfl
   simp only[cS,this,putd];refine⟨fun t=>?_,?_,by simpa using hI⟩
   .simp only[gg,d7,hSj];simp;grind
   .unfold sg8;simp
  .have s2:=hed _ rfl 2 (by simp);have s4:=hcl 4 (by omega) (by decide);have s5:=hcl 5 (by omega) (by decide);have s7:=hcl 7 (by omega) (by decide);have x2:ev C (st8 ρ0 T k i o fo b rows r v S) (.t (b+2))=.ptr i 0:=by show get _ (b+2)=_;rw[gg];simp[s2]
   refine go _ rfl rfl ?_
   have hσ:(sg8 σ0 T k i o fo cs rows r P S)[i]? = σ0[i]? := by
    unfold sg8;rw[s7,hSj];cases S 1<;>simp[Ne.symm hio]
   have hx:(ex.map X.k).map (fun x=>(ev C (st8 ρ0 T k i o fo b rows r v S) x).lend)=ex.map V.lend:=by rw[List.map_map];rfl
   simp only[cS,SI,hx,x2];show Fun C f (.ptr i 0::ex.map V.lend) _ _;refine(hf _ hσ).mono fun out σ' hx=>?_;cases hg:ly with
   | true=>
    rw[hg,if_pos rfl]at hx;obtain⟨rfl,rfl⟩:=hx;refine⟨fun t=>?_,?_,.inl rfl⟩
    .simp only[putd,gg,d7,hSj,s4,s5,s7];simp;grind
    .unfold sg8;rw[s7,hSj];cases hs1:S 1<;>simp[s7,hs1,SM _ _ hio]
   | false=>
    rw[hg,if_neg (by simp)]at hx;obtain⟨u,P',rfl,rfl,hp⟩:=hx
    have e:∃X,(X=cs\/X=cs.set fo (.d (.sl rows)))/\(sg8 σ0 T k i o fo cs rows r P S).set i P'=(σ0.set i P').set o X:=by
     unfold sg8;rw[s7,hSj];cases S 1 with
     | true=>exact⟨_,.inr rfl,by simp[SM _ _ hio]⟩
     | false=>
      refine⟨cs,.inl rfl,?_⟩;simp only[Sq,if_false];apply List.ext_getElem?;intro q;by_cases e:q=o
      .subst e;rw[SK hio,ho,SJ (by simpa using hol)]
      .rw[SK (Ne.symm e)]
    obtain⟨X,hX,e⟩:=e;rw[e];exact hpan hg u P' _ X hp hX
  .have s3:=hed _ rfl 3 (by simp);have x3:ev C (st8 ρ0 T k i o fo b rows r v S) (.t (b+3))=v:=by show get _ (b+3)=_;rw[gg];simp[s3]
   have hI':ly=true:=by rcases hI with h|h;exact h;rw[s3]at h;cases h
   refine go _ rfl rfl ?_;simp only[cS,SI,List.map_nil,x3,hr,List.all_cons,List.all_nil,hk,putd];refine⟨by simp,fun t=>?_,?_,.inl hI'⟩
   .simp only[gg,d7,hSj];simp;grind
   .unfold sg8;simp
  .have s1:=hed _ rfl 1 (by simp);have s4:=hed _ rfl 4 (by simp);have s3:=hed _ rfl 3 (by simp);have s7:=hcl 7 (by omega) (by decide);have hI':ly=true:=by rcases hI with h|h;exact h;rw[s3]at h;cases h
   have x1:get (st8 ρ0 T k i o fo b rows r v S) (b+1)=.own T k rows:=by rw[gg];simp[s1,hSj]
   have x4:fy (ev C (st8 ρ0 T k i o fo b rows r v S) (.t (b+4)))=some [r]:=by
    have:ev C (st8 ρ0 T k i o fo b rows r v S) (.t (b+4))=.d (.sl [r]):=by show get _ (b+4)=_;rw[gg];simp[s4]
    rw[this];rfl
   refine go _ rfl rfl ?_;simp only[cS,x1,x4,putd];refine⟨⟨trivial,trivial,by simp[hk],by simpa using hby⟩,fun t=>?_,?_,.inl hI'⟩
   .simp only[gg,d7,s7,hSj];simp;grind
   .unfold sg8;simp
  .refine go _ rfl rfl ?_;simp only[cS,fa,putd];refine⟨fun t=>?_,?_,by simpa using hI⟩
   .simp only[gg,d7,hSj];simp;grind
   .unfold sg8;simp
  .have s1:=hed _ rfl 1 (by simp);have s5:=hed _ rfl 5 (by simp);have s3:=hed _ rfl 3 (by simp);have s6:=hed _ rfl 6 (by simp);have hI':ly=true:=by rcases hI with h|h;exact h;rw[s3]at h;cases h
   have x5:get (st8 ρ0 T k i o fo b rows r v S) (b+5)=.own T k (rows++[r]):=by rw[gg];simp[s5,hSj]
   have x6:ev C (st8 ρ0 T k i o fo b rows r v S) (.t (b+6))=.ptr o fo:=by show get _ (b+6)=_;rw[gg];simp[s6]
   have hσ:(sg8 σ0 T k i o fo cs rows r P S)[o]? = some (cs.set fo (.d (.sl rows))):=by
    unfold sg8;simp[hSj,s1,s3,hol]
   refine go _ rfl rfl ?_;simp only[cS,x6,x5,hσ];refine⟨⟨by simpa using hfl,?_⟩,fun t=>?_,?_,.inl hI'⟩
   .exact Cm _ hfl
   .simp only[gg,d7,s5,hSj];simp;grind
   .unfold sg8;simp[hSj,s1,s3,FL hfl]
end
end Go.Proofs.YtnhphlmblenapaaGreatDoor
namespace Go.Proofs.YtnhphlmblenapaaGreatDoor
open Go.RowKit
def Mid(R:ai->LLV->Prop)(ρ:ai)(σ:LLV)(_:Tag R):Prop:=R ρ σ
theorem Mid.mk{R:ai->LLV->Prop}{ρ:ai}{σ:LLV}(h:R ρ σ):Mid R ρ σ .mk:=h
def iH:Nat->Cd->Cd×Cd
 | n+1,.seq a b=>(.seq a (iH n b).1,(iH n b).2)
 | _,c=>(.skip,c)
theorem y4{C:Cx}{n0:Nat}{Q:bX}:∀(n:Nat) (c:Cd) (ρ:ai) (σ:LLV),awp C n0 (iH n c).1 ρ σ (andThen (fun ρ σ=>awp C n0 (iH n c).2 ρ σ Q) Q)->awp C n0 c ρ σ Q
 | 0,c,ρ,σ,h=>by simpa only[iH,awp,andThen]using h
 | n+1,c,ρ,σ,h=>by
  cases c with
  | seq a b=>
   simp only[iH,awp]at h ⊢;refine iS (fun e ρ' σ' h=>?_) h;cases e with
   | normal=>exact y4 n b ρ' σ' h
   | _=>exact h
  | _=>simpa only[iH,awp,andThen]using h
theorem i6{C:Cx}{n0:Nat}{c:Cd}{ρ:ai}{σ:LLV}{Q:bX}{t:Tag Q}(n:Nat)(R:ai->LLV->Prop)(h1:eI C n0 (iH n c).1 ρ σ (andThen (fun ρ σ=>Mid R ρ σ .mk) Q) .mk)(h2:∀ρ' σ',R ρ' σ'->eI C n0 (iH n c).2 ρ' σ' Q .mk):eI C n0 c ρ σ Q t:=by
 refine y4 n c ρ σ (iS (fun e ρ' σ' h=>?_) h1);cases e with
 | normal=>exact h2 _ _ h
 | _=>exact h
theorem F6(σ:LLV)(X:List V):(σ++[X]).length=σ.length+1:=by simp
def w4(lo hi w:Int)(b:Bool):List V:=[.d (ab lo),.d (ab hi),.d (ab w),an b]
section
variable {ts : List Tok} {a i : Nat} (H : TsV ts) (ha : a ≤ ts.length) (σ : LLV) (hi : σ[i]? = some (pb ts a))
include H ha hi
theorem oB:Fun G 120 [.ptr i 0] σ (CQ (fun w=>.agg ((dwt w).map V.d)) ts i σ (gf (zLs ts) (ts.drop a))):=by
 refine ae Tryz.func120 P1 rfl fun hb hw=>?_;have S:=St.init hi hb;obtain⟨x,hx⟩:∃x,x=gf (zLs ts) (ts.drop a):=⟨_,rfl⟩
 rw[<-hx];unfold gf at hx;rw[ki]at hx;unfold Mv
 refine i6 5 (fun ρ σ'=>∃(lo hi:Int) (a2:Nat) (σ2:LLV),(ρ=[(0,.ptr i 0),(2,.ptr σ2.length 0),(3,.ptr (σ2.length+1) 0)]\/ρ=[(0,.ptr i 0),(2,.ptr σ2.length 0),(3,.ptr (σ2.length+1) 0),(11,an false)])/\σ'=σ2++[w4 0 0 0 false,w4 lo hi 0 false]/\St σ i ts a2 σ2/\a2≤ts.length/\
  x=(dF (aZ 58 61) (ts.drop a2) (fun r3=>.ok true r3) (bQ (zLs ts) (aZ 58 47) (ts.drop a2) fun r3=>.ok false r3)).bind fun b r3=>gD (zLs ts) r3 fun w r4=>.ok ⟨lo,hi,w,b⟩ r4) ?_ ?_
 .simp only[iH];simp -dsimp only[aw,seval];rw[F6];refine aX S ha (jt _) hx (ef H ha _ (ah hi _)) (fun lo a1 hx h1 h2 h3 hy σ1 S1 hl1=>?_) (fun e n b hx σ1 S1 hl1=>?_)
  case refine_2=>
   rw[<-hl1];simp -dsimp only[aw,seval];exact aQ S1 hx
  rw[<-hl1];simp -dsimp only[aw,seval];refine j0 H (m:=aZ 46 46) (by decide +kernel) S1 h2 (fun hs2 hlt2 σ2 S2 hl2=>?_) (fun hs2=>?_)
  .rw[df (m:=aZ 46 46) hs2]at hx;rw[<-hl2];simp -dsimp only[aw,seval];refine aX S2 hlt2 (jt _) hx (ef H hlt2 _ (ah S2.at_ _)) (fun hi2 a3 hx h1 h2 h3 hy σ1 S1 hl1=>?_) (fun e n b hx σ1 S1 hl1=>?_)
   case refine_2=>
    rw[<-hl1];simp -dsimp only[aw,seval];exact aQ S1 hx
   rw[<-hl1];simp -dsimp only[aw,seval];exact Mid.mk ⟨lo,hi2,a3,σ1,.inl rfl,rfl,S1,h2,hx⟩
  .rw[cu (m:=aZ 46 46) hs2]at hx;simp -dsimp only[aw,seval];exact Mid.mk ⟨lo,lo,a1,σ1,.inr rfl,rfl,S1,h2,hx⟩
 .simp only[iH];rintro ρ' σ' ⟨lo,hi2,a2,σ2,hρ,rfl,S2,h2,hx⟩;rw[<-S2.len];unfold w4
  refine i6 2 (fun ρ σ'=>∃(b:Bool) (a2:Nat) (σ2:LLV),(ρ=[(0,.ptr i 0),(2,.ptr σ2.length 0),(3,.ptr (σ2.length+1) 0)]\/ρ=[(0,.ptr i 0),(2,.ptr σ2.length 0),(3,.ptr (σ2.length+1) 0),(20,an false)])/\σ'=σ2++[w4 0 0 0 false,w4 lo hi2 0 b]/\St σ i ts a2 σ2/\a2≤ts.length/\
   x=gD (zLs ts) (ts.drop a2) fun w r4=>.ok ⟨lo,hi2,w,b⟩ r4) ?_ ?_
  .simp only[iH];rcases hρ with rfl|rfl
   all_goals
    simp -dsimp only[aw,seval];refine j0 H (m:=aZ 58 61) (by decide +kernel) S2 h2 (fun hs2 hlt2 σ1 S1 hl1=>?_) (fun hs2=>?_)
    .rw[df hs2]at hx;rw[<-hl1];simp -dsimp only[aw,seval];exact Mid.mk ⟨true,a2+1,σ1,.inr rfl,rfl,S1,hlt2,hx⟩
    .rw[cu hs2,bJ,bind_assoc]at hx;simp -dsimp only[aw,seval];refine aX S2 h2 (cd _) hx (b9 H (aZ 58 47) h2 (by decide +kernel) _ (ah S2.at_ _)) (fun _ a3 hx h1 h2 h3 hy σ1 S1 hl1=>?_) (fun e n b hx σ1 S1 hl1=>?_)
     case refine_2=>
      rw[<-hl1];simp -dsimp only[aw,seval];exact aQ S1 hx
     rw[<-hl1];simp -dsimp only[aw,seval];exact Mid.mk ⟨false,a3,σ1,.inl rfl,rfl,S1,h2,hx⟩
  .simp only[iH];rintro ρ' σ' ⟨b,a3,σ3,hρ,rfl,S3,h3,hx⟩;rw[S2.len,<-S3.len];rw[ki]at hx;unfold w4;rcases hρ with rfl|rfl
   all_goals
    simp -dsimp only[aw,seval];refine aX S3 h3 (jt _) hx (ef H h3 _ (ah S3.at_ _)) (fun w a4 hx h1 h2 h3 hy σ1 S1 hl1=>?_) (fun e n b hx σ1 S1 hl1=>?_)
    case refine_2=>
     rw[<-hl1];simp -dsimp only[aw,seval];exact aQ S1 hx
    rw[<-hl1];simp -dsimp only[aw,seval];exact cC S1 h2 hx rfl (by simp[Ix,aC,aO,dwt,aw,seval])
end
end Go.Proofs.YtnhphlmblenapaaGreatDoor
namespace Go.Proofs.YtnhphlmblenapaaGreatDoor
open Go.RowKit
theorem u5:∀l:List D,iI (l.map V.d)=some l
 | []=>rfl
 | d::l=>by simp only[SI,iI,V.plain,u5 l]
theorem pT(l:List D):dE [.agg (l.map V.d)]=some [l]:=by
 have:(V.agg (l.map V.d)).cells=l.map V.d:=by simp[V.cells,V.copy]
 simp only[dE,this,u5]
section
variable {α β : Type} {mk : β -> V} {σ0 σ : LLV} {i : Nat} {ts : List Tok} {a : Nat} {l l' : LLV} {x : CP α} {y : CP β} {k : β -> List Tok -> CP α} {sz : β -> Nat} {c : Nat} {n0 : Nat} {ρ0 : ai} {Q : bX}
theorem r8{b p os fo f T kk by_ q:Nat}{ex:List V}{cs:List V}{rows:LLD}(row:β->List D)(S:St σ0 i ts a σ)(ha:a≤ts.length)(hT:Tk sz c (ts.drop a) y)(hx:x=y.bind k)(hup:Up (σ++l) (σ++l'))
 (hf:∀σ:LLV,σ[i]? = some (pb ts a)->Fun G f (.ptr i 0::ex.map V.lend) σ (CQ mk ts i σ y))(hp:get ρ0 p=.ptr i 0)(ho:get ρ0 os=.ptr (σ.length+q) 0)(hpb:p<b)(hosb:os<b)(hl:l'[q]? = some cs)(hc:cs[fo]? = some (.own T kk rows))
 (hr:∀v,dE [mk v]=some [row v])(hk:∀v,(row v).length=kk)(hby:(rows.length+1)*by_≤140737488355328)[Inhabited β]
 (ht:∀v a2,x=k v (ts.drop a2)->a≤a2->a2≤ts.length->sz v+(ts.length-a2)≤c->∀σ',St σ0 i ts a2 σ'->σ'.length=σ.length->Q .normal (st8 ρ0 T kk i (σ'.length+q) fo b rows (row v) (mk v) fun _=>true) (σ'++l'.set q (cs.set fo (.own T kk (rows++[row v])))))
 (hb:∀e n b',x=.bad e n->∀σ',St σ0 i ts b' σ'->σ'.length=σ.length->∀ρ' X,Q (.panic (dN e n)) ρ' (σ'++l'.set q X)):iQ G n0 (GT b p os fo f ex T kk by_) es8 ρ0 (σ++l) Q:=by
 refine EO hup ?_;have hil:=S.lt;rw[<-S.len]at hil;have hio:i≠σ.length+q:=by omega
 have hob:(σ++l')[σ.length+q]? = some cs:=by rw[SB (by omega),SN];exact hl
 have hii:(σ++l')[i]? = some (pb ts a):=ah S.at_ _
 have hset:∀(P X:List V),(((σ++l').set i P).set (σ.length+q) X)=σ.set i P++l'.set q X:=fun P X=>by
  rw[List.set_append_left _ _ hil,SC _ _ (by simp),Sx,SN]
 cases y with
 | out=>exact hT.elim
 | bad e n=>
  refine jS (ρ0:=ρ0) (σ0:=σ++l') (T:=T) (k:=kk) (i:=i) (o:=σ.length+q) (fo:=fo) (b:=b) (cs:=cs) (rows:=rows) (v:=mk default) (r:=row default) (P:=[]) false (fun u P'=>u=dN e n/\∃b',P'=pb ts b') hp ho hpb hosb hio hob hc (fun σ' h=>(hf σ' (by rw[h,hii])).mono fun out σ'' hq=>?_) (hr _) (hk _) hby (fun h=>by cases h) ?_
  .rw[if_neg (by simp)];obtain⟨rfl,b',rfl⟩:=hq;exact⟨_,_,rfl,rfl,rfl,b',rfl⟩
  .rintro-u P' ρ' X ⟨rfl,b',rfl⟩ -;rw[hset];exact hb e n b' (by rw[hx];rfl) _ (S.step _) (S.slen _) ρ' X
 | ok v r=>
  obtain⟨h1,h2,h3⟩:=kK ha hT.1;refine jS (ρ0:=ρ0) (σ0:=σ++l') (T:=T) (k:=kk) (i:=i) (o:=σ.length+q) (fo:=fo) (b:=b) (cs:=cs) (rows:=rows) (v:=mk v) (r:=row v) (P:=pb ts (ts.length-r.length)) true (fun _ _=>True) hp ho hpb hosb hio hob hc (fun σ' h=>(hf σ' (by rw[h,hii])).mono fun out σ'' hq=>?_) (hr _) (hk _) hby (fun _=>?_) (fun h=>by cases h)
  .rw[if_pos rfl];exact hq
  .rw[hset];have:=ht v (ts.length-r.length) (by rw[hx,<-h1];rfl) h2 h3 (by have:=hT.2;rw[h1,SA]at this;omega) _ (S.step _) (S.slen _);rw[S.slen]at this;exact this
end
theorem xQ{C:Cx}{n0:Nat}{l:List O}{es:List (List Nat)}{keep:List Nat}{ρ:ai}{σ:LLV}{Q:bX}{t:Tag Q}(h:iQ C n0 l es ρ σ fun e ρ' σ'=>Q e (aY keep ρ') σ'):eI C n0 (.raw l es keep) ρ σ Q t:=h
theorem xT{σ l:LLV}{q fo:Nat}{cs:List V}(T k:Nat)(h:l[q]? = some cs)(hc:cs[fo]? = some .nil):Up (σ++l) (σ++l.set q (cs.set fo (.own T k []))):=by
 have h1:(σ++l)[σ.length+q]? = some cs:=by rw[SB (by omega),SN];exact h
 have:=Up.step (off:=fo) T k h1 hc (.refl _);rwa[SC _ _ (by omega),SN]at this
def z12:List V:=[.d (ab 0),.d (ab 0),.d (ab 0),.d (aj ⟨#[]⟩),.nil,.d (aj ⟨#[]⟩),.d (aj ⟨#[]⟩),.nil,.nil,.nil,.nil,.nil]
def d12(s:ByteArray)(c:V):List V:=[.d (ab 3),.d (ab 0),.d (ab 0),.d (aj ⟨#[]⟩),.nil,.d (aj s),.d (aj ⟨#[]⟩),c,.nil,.nil,.nil,.nil]
theorem tf(w:Wt):(dwt w).length=4:=rfl
instance:Inhabited Wt:=⟨⟨0,0,0,false⟩⟩
section
variable {ts : List Tok} {a i : Nat} (H : TsV ts) (ha : a ≤ ts.length) (σ : LLV) (hi : σ[i]? = some (pb ts a))
include H ha hi
theorem Bh:Fun G 62 [.ptr i 0] σ (CQ vit ts i σ (lL (zLs ts) (ts.drop a))):=by
 refine ae Tryz.func62 k62 rfl fun hb hw=>?_;have S:=St.init hi hb;have hL:=H.ok.len;obtain⟨x,hx⟩:∃x,x=lL (zLs ts) (ts.drop a):=⟨_,rfl⟩
 rw[<-hx];unfold lL at hx;unfold c62;simp -dsimp only[aw,seval];refine aX S ha (f6 _ _) hx (ko H ha _ (ah hi _)) (fun s a1 hx h1 h2 h3 hy σ1 S1 hl1=>?_) (fun e n b hx σ1 S1 hl1=>?_)
 case refine_2=>
  rw[<-hl1];simp -dsimp only[aw,seval];exact aQ S1 hx
 rw[<-hl1];rw[bJ]at hx;simp -dsimp only[aw,seval];refine aX S1 h2 (cd _) hx (b9 H (aa 123) h2 (by decide +kernel) _ (ah S1.at_ _)) (fun _ a2 hx h1 h2 h3 hy σ2 S2 hl2=>?_) (fun e n b hx σ1 S1 hl1=>?_)
 case refine_2=>
  rw[<-hl1];simp -dsimp only[aw,seval];exact aQ S1 hx
 rw[<-hl2];unfold mU at hx;rw[bind_assoc]at hx;simp -dsimp only[aw,seval];refine xQ (show iQ _ _ _ _ _ _ _ from r8 (b:=9) (p:=0) (os:=3) (fo:=7) (f:=120) (ex:=[]) (T:=56) (kk:=4) (by_:=32) (q:=1) (rows:=[]) dwt S2 h2 (iY _ _) hx (xT (cs:=d12 s .nil) (fo:=7) (q:=1) 56 4 rfl rfl) (fun σ h=>oB H h2 σ h) rfl rfl (by decide) (by decide) rfl rfl (fun v=>pT _) tf (by decide) (fun w a3 hx h4 h5 h6 σ3 S3 hl3=>?_) (fun e n b hx σ3 S3 hl3 ρ' X=>?_))
 case refine_2=>
  rw[<-hl3];exact aQ (rs:=F8) (ρ:=ρ') S3 hx
 rw[<-hl3];simp -dsimp only[aw,seval,st8,d12]
 refine aS [0,2,3] (R:=fun(j:Nat) ρ σ'=>∃(a1:Nat) (l:List Wt) (σ2:LLV),ρ=[(0,.ptr i 0),(2,.ptr σ2.length 0),(3,.ptr (σ2.length+1) 0)]/\σ'=σ2++[z12,d12 s (.own 56 4 (l.map dwt))]/\St σ i ts a1 σ2/\a1≤ts.length/\l.length+j≤a1+1/\j≤a1/\
  x=(fC (fun l r=>(acc (aa 44) r).map fun r2=>(gf (zLs ts) r2).bind fun s r3=>.ok (l++[s]) r3) l (ts.drop a1)).bind fun l r3=>bQ (zLs ts) (aa 125) r3 fun r4=>bQ (zLs ts) (aa 59) r4 fun r5=>.ok (.mk 3 exZ s ⟨#[]⟩ l [] [] [] []) r5) ts.length ⟨a3,[w],σ3,rfl,rfl,S3,h5,by simp,by omega,hx⟩ ?_ _
 rintro j ρ' σ' hj ⟨a1,l,σ4,rfl,rfl,S4,h7,h8,h9,hx⟩;rw[m5 (lb (iY _)).eats]at hx;rw[S3.len,<-S4.len];unfold z12 d12;simp -dsimp only[aw,seval];refine j0 H (m:=aa 44) (by decide +kernel) S4 h7 (fun hs2 hlt2 σ5 S5 hl5=>?_) (fun hs2=>?_)
 .simp only[hs2,SQ,bind_assoc]at hx;rw[<-hl5];simp -dsimp only[aw,seval];refine xQ (show iQ _ _ _ _ _ _ _ from r8 (b:=18) (p:=0) (os:=3) (fo:=7) (f:=120) (ex:=[]) (T:=56) (kk:=4) (by_:=32) (q:=1) (rows:=l.map dwt) dwt S5 hlt2 (iY _ _) hx (.refl _) (fun σ h=>oB H hlt2 σ h) rfl rfl (by decide) (by decide) rfl rfl (fun v=>pT _) tf (by rw[List.length_map];omega) (fun w a5 hx h4 h5 h6 σ3 S3 hl3=>?_) (fun e n b hx σ3 S3 hl3 ρ' X=>?_))
  case refine_2=>
   rw[<-hl3];exact aQ (rs:=F8) (ρ:=ρ') S3 hx
  rw[<-hl3];simp -dsimp only[aw,seval,st8];have h10:a1+1<a5:=by unfold fV at h6;rw[SA]at h6;omega
  refine⟨by omega,Nxt.same (by simp) (aq S3.bb rfl) (by simp[au,V.under,S3.len];have:=S3.lt;omega) ⟨a5,l++[w],σ3,rfl,by simp[z12,d12],S3,h5,by simp;omega,by omega,hx⟩⟩
 .simp only[hs2,SR,CP.bind]at hx;rw[bJ]at hx;simp -dsimp only[aw,seval];refine aX S4 h7 (cd _) hx (b9 H (aa 125) h7 (by decide +kernel) _ (ah S4.at_ _)) (fun _ a2 hx h1 h2 h3 hy σ2 S2 hl2=>?_) (fun e n b hx σ1 S1 hl1=>?_)
  case refine_2=>
   rw[<-hl1];simp -dsimp only[aw,seval];exact aQ S1 hx
  rw[<-hl2];rw[bJ]at hx;simp -dsimp only[aw,seval];refine aX S2 h2 (cd _) hx (b9 H (aa 59) h2 (by decide +kernel) _ (ah S2.at_ _)) (fun _ a2 hx h1 h2 h3 hy σ3 S3 hl3=>?_) (fun e n b hx σ1 S1 hl1=>?_)
  case refine_2=>
   rw[<-hl1];simp -dsimp only[aw,seval];exact aQ S1 hx
  rw[<-hl3];simp -dsimp only[aw,seval];exact cC S3 h2 hx (by rw[aJ];rfl) (by rw[aJ];simp[F8,aC,aO,eE,iO,ez,ga,iL,dC,fZ,fM,f7,exZ,bq,aU,aG,aH,aw,seval])
end
end Go.Proofs.YtnhphlmblenapaaGreatDoor
