import Derived.Test.YtnhphlmblenapaaGreatDoorPm11
set_option linter.unusedVariables false
set_option linter.unusedSimpArgs false
set_option linter.unusedSectionVars false
set_option maxHeartbeats 4000000
open ByteArray renaming size_append->Pa,append_assoc->Pb
open List renaming getElem?_eq_getElem->Pd,length_set->Pe,take_left->Pf,length_drop->Pg,append_nil->Ph,suffix_refl->Pi,drop_eq_nil_of_le->Pj,getElem?_eq_none->Pk,getElem?_append_right->Pl,drop_eq_getElem_cons->Pm,set_append_right->Pn,getElem_mem->Po
open Nat renaming le_refl->Pp,add_sub_cancel_left->Pq,sub_self->Pr
namespace Go.Proofs.YtnhphlmblenapaaGreatDoor
open Go.RowKit
theorem u9(e:Ex):gO e=0\/gO e=1\/gO e=7:=by
 induction e using Ex.ind with
 | h o n s l ih=>
 have hl:∀l:List Ex,(∀a,a∈l->gO a=0\/gO a=1\/gO a=7)->ld l=0\/ld l=1\/ld l=7:=by
  intro l
  induction l with
  | nil=>intro _;exact .inl rfl
  | cons a r ihr=>
   intro h;simp only[ld];split
   .exact ihr fun b hb=>h b (by simp[hb])
   .exact h a (by simp)
 have hn:bB o n s l.length=0\/bB o n s l.length=1\/bB o n s l.length=7:=by
  unfold bB;repeat' split
  all_goals simp
 simp only[gO];split
 .exact hl l ih
 .exact hn
theorem rJ(e:Ex):bU e=0\/bU e=1\/bU e=2\/bU e=7:=by
 have:=u9 e;unfold bU;split<;>omega
theorem IJ(σ:LLV)(i k:Nat)(X:List V)(l:LLV):(σ.set i X++l)[σ.length+k]? = l[k]? := by
 rw[Pl (by rw[Pe];omega),Pe,Pq]
theorem Ix(σ:LLV)(i k:Nat)(X Z:List V)(l:LLV):(σ.set i X++l).set (σ.length+k) Z=σ.set i X++l.set k Z:=by
 rw[Pn _ _ (by rw[Pe];omega),Pe,Pq]
theorem xk(σ:LLV)(i:Nat)(X Y:List V)(l:LLV):(σ.set i X++Y::l)[σ.length]? = some Y:=by
 rw[Pl (by rw[Pe];exact Pp _),Pe,Pr];rfl
theorem xi(σ:LLV)(i:Nat)(X Y Z:List V)(l:LLV):(σ.set i X++Y::l).set σ.length Z=σ.set i X++Z::l:=by
 rw[Pn _ _ (by rw[Pe];exact Pp _),Pe,Pr];rfl
section
variable {ts : List Tok} {a : Nat} (H : TsV ts)
include H
theorem qL:(∀t,ts[a]? = some t->t.kind=3->cm (ts.drop a)=some (t.num,ts.drop (a+1)))/\((∀t,ts[a]? = some t->t.kind≠3)->cm (ts.drop a)=none):=by
 by_cases h:a<ts.length
 .rw[Pd h,Pm h];refine⟨fun t e hk=>?_,fun hn=>?_⟩
  .cases e;simp only[cm];rw[if_pos ⟨H.v _ (Po h),hk⟩]
  .simp only[cm];rw[if_neg fun hc=>hn _ rfl hc.2]
 .rw[Pk (by omega),Pj (by omega)];exact⟨fun t e=>(by cases e),fun _=>rfl⟩
theorem qf:(∀t,ts[a]? = some t->t.kind=1->bD (ts.drop a)=some (t.text,ts.drop (a+1)))/\((∀t,ts[a]? = some t->t.kind≠1)->bD (ts.drop a)=none):=by
 by_cases h:a<ts.length
 .rw[Pd h,Pm h];refine⟨fun t e hk=>?_,fun hn=>?_⟩
  .cases e;simp only[bD];rw[if_pos ⟨H.v _ (Po h),hk⟩]
  .simp only[bD];rw[if_neg fun hc=>hn _ rfl hc.2]
 .rw[Pk (by omega),Pj (by omega)];exact⟨fun t e=>(by cases e),fun _=>rfl⟩
end
def Ep(ts:List Tok)(a i:Nat)(k:Int)(σ:LLV):Out->LLV->Prop:=fun o σ'=>
 (∃t,ts[a]? = some t/\t.kind=k/\o=.ret (gU t)/\σ'=σ.set i (pb ts (a+1)))\/((∀t,ts[a]? = some t->t.kind≠k)/\o=.panic (dg (eO ts a) (lnA ts a))/\σ'=σ)
theorem rh(ts:List Tok)(a i:Nat)(k:Int)(H:TsV ts)(ha:a≤ts.length)(σ:LLV)(hi:σ[i]? = some (pb ts a)):
 Fun G 139 [.ptr i 0,.d (aa k)] σ (Ep ts a i k σ):=by
 refine al Tryz.func139 NF rfl fun hb hw=>?_;unfold KH;have hM:=fun l=>gH ts a i (σ++l) (am hi l);have hF:=fun l=>jd ts a i H ha (σ++l) (am hi l);have hl:=H.ok.len;have hil:=(List.getElem?_eq_some_iff.1 hi).1;have hio:=fun l=>am hi l;have hso:=fun X l=>bj hi X l;unfold pb at hi hio
 have panic:∀(l:LLV),(∀t,ts[a]? = some t->t.kind≠k)->∀(rs:List RV) (ρ:ac),fin σ.length rs (Ep ts a i k σ) (.panic (dg (eO ts a) (lnA ts a))) ρ (σ++l):=fun l hk rs ρ=>
  ⟨σ.length,Pp _,by rw[Pf];exact hb,rfl,.inr ⟨hk,rfl,Pf⟩⟩
 simp -dsimp only[aw,seval];refine bp (hM _) ?_;by_cases hlt:a<ts.length
 .by_cases hk:ts[a].kind=k
  .have hw1:IntKind.i64.wrap (((a:Nat):Int)+1)=((a+1:Nat):Int):=by rw[bI (by omega) (by omega)];omega
   have hw2:IntKind.i64.wrap (((a+1:Nat):Int)-1)=((a:Nat):Int):=by rw[bI (by omega) (by omega)];omega
   have hs1:=fun l=>am (List.getElem?_set_self (a:=pb ts (a+1)) hil) l;unfold pb at hs1;simp -dsimp only[aw,seval,hio,decide_eq_true hlt,Pd hlt,ge,kJ,hk,hw1,hw2,decide_true,hso,hs1,xk,xi];refine bv (σ:=σ) (Q:=Ep ts a i k σ) (τ:=σ.set i (pb ts (a+1))) (v:=gU ts[a]) (ct hb rfl) ?_ rfl ?_ (.inl ⟨ts[a],Pd hlt,hk,rfl,rfl⟩)
   .simp[GG,aL,bc,gU,hk,aw,seval]
   .simp[pb]
  .simp -dsimp only[aw,seval,hio,decide_eq_true hlt,Pd hlt,ge,kJ,decide_eq_false hk];refine aE (hF _) fun o σ' ⟨e1,e2⟩=>?_;subst e1;subst e2;simp -dsimp only[aw,seval,aS];exact panic _ (fun t ht=>by rw[Pd hlt]at ht;cases ht;exact hk) _ _
 .simp -dsimp only[aw,seval,hio,decide_eq_false hlt];refine aE (hF _) fun o σ' ⟨e1,e2⟩=>?_;subst e1;subst e2;simp -dsimp only[aw,seval,aS];exact panic _ (fun t ht=>by rw[Pk (by omega)]at ht;cases ht) _ _
def CQ{α:Type}(mk:α->V)(ts:List Tok)(i:Nat)(σ:LLV)(y:CP α):Out->LLV->Prop:=fun o σ'=>match y with
 | .out=>False
 | .bad e n=>o=.panic (dg e n)/\∃b,σ'=σ.set i (pb ts b)
 | .ok v r=>o=.ret (mk v)/\σ'=σ.set i (pb ts (ts.length-r.length))
section
variable {α : Type} {mk : α -> V} {σ0 σ : LLV} {i : Nat} {ts : List Tok} {a : Nat} {l : LLV} {K P : V -> LLV -> Prop} {s : Tag K} {t : Tag P} {f : FuncId} {args : List V} {y : CP α}
theorem sG{ts r:List Tok}{a:Nat}(ha:a≤ts.length)(h:r <:+ ts.drop a):r=ts.drop (ts.length-r.length)/\a≤ts.length-r.length/\ts.length-r.length≤ts.length:=by
 have h1:=h.length_le;rw[Pg]at h1;exact⟨tq (h.trans (List.drop_suffix a ts)),by omega,by omega⟩
theorem Je{sz:α->Nat}{c:Nat}(S:St σ0 i ts a σ)(ha:a≤ts.length)(hT:Tk sz c (ts.drop a) y)(h:Fun G f args (σ++l) (CQ mk ts i (σ++l) y))(ht:∀v a2,y=.ok v (ts.drop a2)->a≤a2->a2≤ts.length->sz v+(ts.length-a2)≤c->∀σ',St σ0 i ts a2 σ'->σ'.length=σ.length->K (mk v) (σ'++l))(hf:∀e n b,y=.bad e n->∀σ',St σ0 i ts b σ'->σ'.length=σ.length->P (dg e n) (σ'++l)):
 iq G f args (σ++l) K P s t:=by
 refine aE h fun o σ' hq=>?_;cases y with
 | out=>exact hT.elim
 | bad e n=>
  obtain⟨rfl,b,rfl⟩:=hq;rw[bj S.at_,aS];exact hf e n b rfl _ (S.step _) (S.slen _)
 | ok v r=>
  obtain⟨rfl,rfl⟩:=hq;obtain⟨h1,h2,h3⟩:=sG ha hT.1;rw[bj S.at_,aZ];exact ht v _ (by rw[<-h1]) h2 h3 (by have:=hT.2;rw[h1,Pg]at this;omega) _ (S.step _) (S.slen _)
theorem cx{rs:List RV}{ρ:ac}{v:α}(S:St σ0 i ts a σ)(ha:a≤ts.length)(hy:y=.ok v (ts.drop a))(hu:V.under σ.length (mk v)=true)(h:aL (σ++l) ρ rs=some (mk v)):fin σ.length rs (CQ mk ts i σ0 y) .ret ρ (σ++l):=by
 subst hy;exact bv (τ:=σ) S.bb h hu Pf ⟨rfl,by rw[gY ts a ha];exact S.eq⟩
theorem aH{rs:List RV}{ρ:ac}{e n:Int}(S:St σ0 i ts a σ)(hy:y=.bad e n):fin σ.length rs (CQ mk ts i σ0 y) (.panic (dg e n)) ρ (σ++l):=by
 subst hy;exact⟨σ.length,Pp _,by rw[Pf];exact S.bb,rfl,by rw[Pf];exact⟨rfl,a,S.eq⟩⟩
theorem mn{rs:List RV}{ρ:ac}{b:Nat}(S:St σ0 i ts a σ)(hy:y=gV (zLs ts) (ts.drop b)):fin σ.length rs (CQ mk ts i σ0 y) (.panic (dg (eO ts b) (lnA ts b))) ρ (σ++l):=aH S (by rw[hy,Dw])
end
section
variable {σ0 σ : LLV} {i : Nat} {ts : List Tok} {a : Nat} (H : TsV ts) {l : LLV} {K P : V -> LLV -> Prop} {s : Tag K} {t : Tag P}
include H
theorem GP{f:FuncId}{m:ByteArray}(S:St σ0 i ts a σ)(h:Fun G f [.ptr i 0,.d (ae m)] (σ++l) fun o σ'=>o=.ret (ak (bo m ts a))/\σ'=if bo m ts a=true then(σ++l).set i (pb ts (a+1))else σ++l)
 (ht:acc m (ts.drop a)=some (ts.drop (a+1))->a<ts.length->∀σ',St σ0 i ts (a+1) σ'->σ'.length=σ.length->K (ak true) (σ'++l))(hf:acc m (ts.drop a)=none->K (ak false) (σ++l)):iq G f [.ptr i 0,.d (ae m)] (σ++l) K P s t:=by
 refine aE h fun o σ' ⟨e1,e2⟩=>?_;subst e1;rw[aZ];cases hs:bo m ts a with
 | true=>
  rw[hs,if_pos rfl,bj S.at_]at e2;subst e2;exact ht (by rw[bA,hs,if_pos rfl]) (DU hs) _ (S.step _) (S.slen _)
 | false=>
  rw[hs,if_neg (by decide)]at e2;subst e2;exact hf (by rw[bA,hs,if_neg (by decide)])
theorem js{m:ByteArray}(hm:bS (tw m)=false)(S:St σ0 i ts a σ)(ha:a≤ts.length)(ht:acc m (ts.drop a)=some (ts.drop (a+1))->a<ts.length->∀σ',St σ0 i ts (a+1) σ'->σ'.length=σ.length->K (ak true) (σ'++l))(hf:acc m (ts.drop a)=none->K (ak false) (σ++l)):
 iq G 121 [.ptr i 0,.d (ae m)] (σ++l) K P s t:=GP H S (AX m ts a i H ha hm _ (am S.at_ l)) ht hf
theorem gn{m:ByteArray}(hm:bS (tm m)=false)(S:St σ0 i ts a σ)(ha:a≤ts.length)(ht:acc m (ts.drop a)=some (ts.drop (a+1))->a<ts.length->∀σ',St σ0 i ts (a+1) σ'->σ'.length=σ.length->K (ak true) (σ'++l))(hf:acc m (ts.drop a)=none->K (ak false) (σ++l)):
 iq G 60 [.ptr i 0,.d (ae m)] (σ++l) K P s t:=GP H S (AR m ts a i H ha hm _ (am S.at_ l)) ht hf
omit H in
theorem rF{α:Type}{z:Int}{m:ByteArray}{r r1:List Tok}{k:List Tok->CP α}(h:acc m r=some r1):bJ z m r k=k r1:=by unfold bJ;rw[h]
omit H in
theorem qV{α:Type}{z:Int}{m:ByteArray}{r:List Tok}{k:List Tok->CP α}(h:acc m r=none):bJ z m r k=gV z r:=by unfold bJ;rw[h]
omit H in
theorem dM{α:Type}{m:ByteArray}{r r1:List Tok}{k:List Tok->CP α}{n:CP α}(h:acc m r=some r1):ep m r k n=k r1:=by unfold ep;rw[h]
omit H in
theorem dO{α:Type}{m:ByteArray}{r:List Tok}{k:List Tok->CP α}{n:CP α}(h:acc m r=none):ep m r k n=n:=by unfold ep;rw[h]
omit H in
theorem zo{α:Type}{z:Int}{r r1:List Tok}{x:ByteArray}{k:ByteArray->List Tok->CP α}(h:bD r=some (x,r1)):cW z r k=k x r1:=by unfold cW;rw[h]
omit H in
theorem AB{α:Type}{z:Int}{r:List Tok}{k:ByteArray->List Tok->CP α}(h:bD r=none):cW z r k=gV z r:=by unfold cW;rw[h]
omit H in
theorem BM{α:Type}{z:Int}{r r1:List Tok}{x:Int}{k:Int->List Tok->CP α}(h:cm r=some (x,r1)):fD z r k=k x r1:=by unfold fD;rw[h]
omit H in
theorem Ci{α:Type}{z:Int}{r:List Tok}{k:Int->List Tok->CP α}(h:cm r=none):fD z r k=gV z r:=by unfold fD;rw[h]
omit H in
theorem f7{f:FuncId}{args:List V}{τ:LLV}(h:iq G f args (τ++[]) K P s t):iq G f args τ K P s t:=by rwa[Ph]at h
theorem b8(m:ByteArray)(ha:a≤ts.length)(hm:bS (tw m)=false)(σ:LLV)(hi:σ[i]? = some (pb ts a)):
 Fun G 84 [.ptr i 0,.d (ae m)] σ (CQ (fun _:Unit=>.tup []) ts i σ (bJ (zLs ts) m (ts.drop a) fun r=>.ok () r)):=by
 refine al Tryz.func84 k84 rfl fun hb hw=>?_;have S:=St.init hi hb;unfold c84;simp -dsimp only[aw,seval];refine f7 (js H hm S ha (fun hs hlt σ1 S1 hl1=>?_) (fun hs=>?_))
 .rw[rF hs,<-hl1];simp -dsimp only[aw,seval];exact cx (v:=()) S1 hlt rfl rfl rfl
 .rw[qV hs];simp -dsimp only[aw,seval];refine aE (jd ts a i H ha _ (am hi _)) fun o σ' ⟨e1,e2⟩=>?_;subst e1;subst e2;simp -dsimp only[aw,seval,aS];exact mn S rfl
theorem nw(m:ByteArray)(ha:a≤ts.length)(hm:bS (tm m)=false)(σ:LLV)(hi:σ[i]? = some (pb ts a)):
 Fun G 82 [.ptr i 0,.d (ae m)] σ (CQ (fun _:Unit=>.tup []) ts i σ (bJ (zLs ts) m (ts.drop a) fun r=>.ok () r)):=by
 refine al Tryz.func82 k82 rfl fun hb hw=>?_;have S:=St.init hi hb;unfold c82;simp -dsimp only[aw,seval];refine f7 (gn H hm S ha (fun hs hlt σ1 S1 hl1=>?_) (fun hs=>?_))
 .rw[rF hs,<-hl1];simp -dsimp only[aw,seval];exact cx (v:=()) S1 hlt rfl rfl rfl
 .rw[qV hs];simp -dsimp only[aw,seval];refine aE (jd ts a i H ha _ (am hi _)) fun o σ' ⟨e1,e2⟩=>?_;subst e1;subst e2;simp -dsimp only[aw,seval,aS];exact mn S rfl
end
def nE(n:Nat)(r:List Tok):Ex×Int×Int:=match par .W r with
 | .bad c r=>(z0,((n-r.length:Nat):Int),c)
 | .ok e r=>if bU e=0 then(e,((n-r.length:Nat):Int),0)else(z0,0,bU e)
 | .out=>(z0,0,0)
theorem GF(e:Ex)(n c:Int):jm (e,n,c)=.tup [.agg [.d (aa e.op),.d (aa e.num),.d (ae e.name),.d (.sl (e.args.map dex))],.d (aa n),.d (aa c)]:=by unfold jm;rw[au]
theorem y5(ts:List Tok)(H:TsOK ts)(a:Nat)(ha:a≤ts.length)(σ:LLV):Fun G 176 [.d (.sl (ts.map kJ)),.d (aa a)] σ (aO (jm (nE ts.length (ts.drop a))) σ):=by
 refine al Tryz.func176 NE rfl fun hb hw=>?_;unfold Kb;have hA:=fun σ=>t8 ts H a ha σ;have hL:=H.len;have d0:decide (((a:Nat):Int)<0)=false:=by rw[decide_eq_false_iff_not];omega
 have d1:decide (((ts.length:Nat):Int)<((a:Nat):Int))=false:=by rw[decide_eq_false_iff_not];omega
 simp -dsimp only[aw,seval,d0,d1];refine aj (hA _) ?_;cases hx:par .W (ts.drop a)with
 | out=>exact absurd hx (eR _ _)
 | bad c r=>
  have hT:nE ts.length (ts.drop a)=(z0,((ts.length-r.length:Nat):Int),c):=by unfold nE;rw[hx]
  have dc:=decide_eq_false (rK hx).1;rw[hT];simp -dsimp only[aw,seval,CK,au,ca,bu,aT,aW,dc];exact aF hb (v:=jm (z0,((ts.length-r.length:Nat):Int),c)) (by unfold jm;rw[rO];simp[xh,aL,cv,bc,aw,seval]) (by unfold jm;rw[rO];rfl) Pf ⟨rfl,rfl⟩
 | ok e r=>
  have hsz:=BH hx;rw[Pg]at hsz;have hv:=mF e (by omega) (by have:=tH e;omega);by_cases h0:bU e=0
  .have hT:nE ts.length (ts.drop a)=(e,((ts.length-r.length:Nat):Int),0):=by unfold nE;rw[hx];simp[h0]
   rw[hT];simp -dsimp only[aw,seval,CK,au];refine aj (by simpa only[au]using hv _) ?_;simp -dsimp only[aw,seval,decide_eq_true h0];exact aF hb (v:=jm (e,((ts.length-r.length:Nat):Int),0)) (by unfold jm;rw[au];simp[xh,aL,cv,bc,aw,seval]) (by unfold jm;rw[au];rfl) Pf ⟨rfl,rfl⟩
  .have hT:nE ts.length (ts.drop a)=(z0,0,bU e):=by unfold nE;rw[hx];simp[h0]
   rw[hT];simp -dsimp only[aw,seval,CK,au];refine aj (by simpa only[au]using hv _) ?_;simp -dsimp only[aw,seval,decide_eq_false h0];exact aF hb (v:=jm (z0,0,bU e)) (by unfold jm;rw[rO];simp[xh,aL,cv,bc,aw,seval]) (by unfold jm;rw[rO];rfl) Pf ⟨rfl,rfl⟩
end Go.Proofs.YtnhphlmblenapaaGreatDoor
namespace Go.Proofs.YtnhphlmblenapaaGreatDoor
open Go.RowKit
section
variable {α β : Type} {z : Int} {r : List Tok}
theorem mN{k:β->List Tok->CP α}:(gV z r:CP β).bind k=gV z r:=by cases r<;>rfl
theorem cN{γ:Type}{y:CP β}{f:β->List Tok->CP γ}{g:γ->List Tok->CP α}:(y.bind f).bind g=y.bind fun v r=>(f v r).bind g:=by cases y<;>rfl
theorem gA(k:ByteArray->List Tok->CP α):cW z r k=(cW z r .ok).bind k:=by unfold cW;cases bD r with|some p=>rfl|none=>exact mN.symm
theorem jn(k:Int->List Tok->CP α):fD z r k=(fD z r .ok).bind k:=by unfold fD;cases cm r with|some p=>rfl|none=>exact mN.symm
theorem bK{m:ByteArray}(k:List Tok->CP α):bJ z m r k=(bJ z m r fun r=>.ok () r).bind fun _ r=>k r:=by unfold bJ;cases acc m r with|some p=>rfl|none=>exact mN.symm
theorem tD(k:Ex->List Tok->CP α):exC z r k=(exC z r .ok).bind k:=by
 unfold exC;cases par .W r with
 | out=>rfl
 | bad c q=>rfl
 | ok e q=>
  simp only;split<;>rfl
theorem gK(r:List Tok):Tk fE r.length r (cW z r .ok):=ib (Pi _) fun s r1 h1 l1=>⟨h1,by unfold fE;omega⟩
theorem iW(r:List Tok):Tk fE r.length r (fD z r .ok):=ki (Pi _) fun s r1 h1 l1=>⟨h1,by unfold fE;omega⟩
theorem cd{m:ByteArray}(r:List Tok):Tk fE r.length r (bJ z m r fun r=>.ok () r):=cD (Pi _) fun r1 h1 l1=>⟨h1,by unfold fE;omega⟩
theorem CS(r:List Tok):Tk bN r.length r (exC z r .ok):=rY (Pi _) fun e r1 _ h1 l1=>⟨h1,by omega⟩
theorem EO{r r1:List Tok}{s:ByteArray}(h:(cW z r .ok:CP ByteArray)=.ok s r1):bD r=some (s,r1):=by
 unfold cW at h;cases hp:bD r with
 | none=>rw[hp]at h;exact absurd h (by cases r<;>(intro h;cases h))
 | some p=>
  obtain⟨s',q⟩:=p;rw[hp]at h;simp only[CP.ok.injEq]at h;obtain⟨rfl,rfl⟩:=h;rfl
theorem C9{r r1:List Tok}{s:Int}(h:(fD z r .ok:CP Int)=.ok s r1):cm r=some (s,r1):=by
 unfold fD at h;cases hp:cm r with
 | none=>rw[hp]at h;exact absurd h (by cases r<;>(intro h;cases h))
 | some p=>
  obtain⟨s',q⟩:=p;rw[hp]at h;simp only[CP.ok.injEq]at h;obtain⟨rfl,rfl⟩:=h;rfl
end
section
variable {α β : Type} {mk : β -> V} {σ0 σ : LLV} {i : Nat} {ts : List Tok} {a : Nat} {l : LLV} {K P : V -> LLV -> Prop} {s : Tag K} {t : Tag P} {f : FuncId} {args : List V} {y : CP β} {x : CP α} {k : β -> List Tok -> CP α} {sz : β -> Nat} {c : Nat}
theorem aK(S:St σ0 i ts a σ)(ha:a≤ts.length)(hT:Tk sz c (ts.drop a) y)(hx:x=y.bind k)(h:Fun G f args (σ++l) (CQ mk ts i (σ++l) y))(ht:∀v a2,x=k v (ts.drop a2)->a≤a2->a2≤ts.length->sz v+(ts.length-a2)≤c->y=.ok v (ts.drop a2)->∀σ',St σ0 i ts a2 σ'->σ'.length=σ.length->K (mk v) (σ'++l))(hf:∀e n b,x=.bad e n->∀σ',St σ0 i ts b σ'->σ'.length=σ.length->P (dg e n) (σ'++l)):
 iq G f args (σ++l) K P s t:=
 Je S ha hT h (fun v a2 hy h1 h2 h3=>ht v a2 (by rw[hx,hy];rfl) h1 h2 h3 hy) fun e n b hy=>hf e n b (by rw[hx,hy];rfl)
end
section
variable {ts : List Tok} {a i : Nat} (H : TsV ts) (ha : a ≤ ts.length) (σ : LLV) (hi : σ[i]? = some (pb ts a))
include H ha hi
theorem fM:Fun G 83 [.ptr i 0] σ (CQ (fun s=>.d (ae s)) ts i σ (cW (zLs ts) (ts.drop a) .ok)):=by
 refine al Tryz.func83 k83 rfl fun hb hw=>?_;have S:=St.init hi hb;unfold c83;simp -dsimp only[aw,seval];refine aE (rh ts a i 1 H ha σ hi) fun o σ' hq=>?_;rcases hq with⟨t,h1,h2,rfl,rfl⟩|⟨h1,rfl,rfl⟩
 .have hlt:=(List.getElem?_eq_some_iff.1 h1).1;rw[zo ((qf H).1 t h1 h2)];simp -dsimp only[aw,seval,aZ,gU];have:=cx (mk:=fun s=>.d (ae s)) (l:=[]) (rs:=Me) (ρ:=[(2,.d (ae t.text))]) (v:=t.text) (S.step (a+1)) hlt rfl rfl rfl;rw[S.slen,Ph]at this;exact this
 .rw[AB ((qf H).2 h1)];simp -dsimp only[aw,seval,aS];have:=fun ρ rs=>mn (mk:=fun s:ByteArray=>V.d (ae s)) (l:=[]) (rs:=rs) (ρ:=ρ) (b:=a) S rfl;rw[Ph]at this;exact this _ _
theorem ef:Fun G 177 [.ptr i 0] σ (CQ (fun n=>.d (aa n)) ts i σ (fD (zLs ts) (ts.drop a) .ok)):=by
 refine al Tryz.func177 Nn rfl fun hb hw=>?_;have S:=St.init hi hb;unfold Lt;simp -dsimp only[aw,seval];refine aE (rh ts a i 3 H ha σ hi) fun o σ' hq=>?_;rcases hq with⟨t,h1,h2,rfl,rfl⟩|⟨h1,rfl,rfl⟩
 .have hlt:=(List.getElem?_eq_some_iff.1 h1).1;rw[BM ((qL H).1 t h1 h2)];simp -dsimp only[aw,seval,aZ,gU];have:=cx (mk:=fun n=>.d (aa n)) (l:=[]) (rs:=GL) (ρ:=[(2,.d (aa t.num))]) (v:=t.num) (S.step (a+1)) hlt rfl rfl rfl;rw[S.slen,Ph]at this;exact this
 .rw[Ci ((qL H).2 h1)];simp -dsimp only[aw,seval,aS];have:=fun ρ rs=>mn (mk:=fun n:Int=>V.d (aa n)) (l:=[]) (rs:=rs) (ρ:=ρ) (b:=a) S rfl;rw[Ph]at this;exact this _ _
theorem rI:Fun G 118 [.ptr i 0] σ (CQ vex ts i σ (exC (zLs ts) (ts.drop a) .ok)):=by
 refine al Tryz.func118 Oz rfl fun hb hw=>?_;unfold JA;have S:=St.init hi hb;have hT:=fun σ=>y5 ts H.ok a ha σ;have hL:=H.ok.len;have hil:=(List.getElem?_eq_some_iff.1 hi).1;have hio:=fun l=>am hi l;have hso:=fun X l=>bj hi X l;have hF:=fun e b hb l=>m6 ts a b i e H hb (σ++l) (am hi l);unfold exC;unfold nE at hT;unfold pb at hio hso;cases hx:par .W (ts.drop a)with
 | out=>exact absurd hx (eR _ _)
 | bad c r=>
  have hb3:=tu hx;have hbl:=(rK hx).2;rw[Pg]at hbl;rw[hx]at hT;simp only at hT ⊢;have htk:=jI .W (ts.drop a);rw[hx]at htk;have hln:lnR (zLs ts) r=lnA ts (ts.length-r.length):=by unfold lnA;rw[<-(sG ha htk).1]
  have hF:=fun l=>hF c (ts.length-r.length) (by omega) l;rw[hln];simp -dsimp only[aw,seval,hio];refine bp (hT _) ?_;simp -dsimp only[aw,seval,jm,au,z0,ca,bu,aT,aW];refine aU (aU (bp (hT _) ?_) ?_) ?_
  .simp -dsimp only[aw,seval,jm,au,z0,ca,bu,aT,aW]
  .simp -dsimp only[aw,seval,hio]
  have c0:c≠0:=by omega
  by_cases c5:c=5
  .subst c5;simp -dsimp only[aw,seval];refine aE (hF _) fun o σ' ⟨e1,e2⟩=>?_;subst e1;subst e2;simp -dsimp only[aw,seval,aS];exact aH S rfl
  by_cases c3:c=3
  .subst c3;simp -dsimp only[aw,seval];refine aE (hF _) fun o σ' ⟨e1,e2⟩=>?_;subst e1;subst e2;simp -dsimp only[aw,seval,aS];exact aH S rfl
  have c6:c=6:=by omega
  subst c6;simp -dsimp only[aw,seval];refine aE (hF _) fun o σ' ⟨e1,e2⟩=>?_;subst e1;subst e2;simp -dsimp only[aw,seval,aS];exact aH S rfl
 | ok e r=>
  have htk:=jI .W (ts.drop a);rw[hx]at htk;rw[hx]at hT;simp only at hT ⊢;by_cases hv:bU e=0
  .rw[if_pos hv]at hT ⊢;simp -dsimp only[aw,seval,hio];refine bp (hT _) ?_;simp -dsimp only[aw,seval,jm,au,z0,ca,bu,aT,aW];refine aU (aU (bp (hT _) ?_) ?_) ?_
   .simp -dsimp only[aw,seval,jm,au,z0,ca,bu,aT,aW]
   .simp -dsimp only[aw,seval,hio]
   have S1:=S.step (ts.length-r.length);simp -dsimp only[aw,seval,GF,hio,hso,xk,xi,IJ,Ix]
   have hfin:∀(x:LLV) (ρ:ac),aL (σ.set i (pb ts (ts.length-r.length))++x) ρ xY=some (vex e)->fin σ.length xY (CQ vex ts i σ (.ok e r)) .ret ρ (σ.set i (pb ts (ts.length-r.length))++x):=fun x ρ h=>by
    have:=cx (mk:=vex) (y:=.ok e r) S1 (by omega) (by rw[<-(sG ha htk.1).1]) (by rw[au];rfl) h;rwa[Pe]at this
   unfold pb at hfin;refine hfin _ _ ?_;rw[au];simp[xY,aL,bc,aw,seval]
  .rw[if_neg hv]at hT ⊢;have hcd:=rJ e;have h6:¬bU e=6:=by omega
   have h5:¬bU e=5:=by omega
   have h3:¬bU e=3:=by omega
   simp -dsimp only[aw,seval,hio];refine bp (hT _) ?_;simp -dsimp only[aw,seval,jm,au,z0,ca,bu,aT,aW];refine aU (aU (bp (hT _) ?_) ?_) ?_
   .simp -dsimp only[aw,seval,jm,au,z0,ca,bu,aT,aW]
   .simp -dsimp only[aw,seval,hio]
   simp -dsimp only[aw,seval,decide_eq_false hv,decide_eq_false h6,decide_eq_false h5,decide_eq_false h3];exact aH S rfl
end
theorem F6{ts:List Tok}{a:Nat}{n:Int}{r:List Tok}(h:cm (ts.drop a)=some (n,r)):0≤n/\n≤2147483647:=by
 by_cases hla:a<ts.length
 .rw[mg hla]at h;split at h
  .rename_i hv;cases h;have:=hv.1;unfold bS at this;rw[if_pos hv.2]at this;simp only[Bool.and_eq_true,decide_eq_true_eq]at this;exact⟨this.1.1,this.1.2⟩
  .cases h
 .rw[Pj (by omega)]at h;cases h
theorem Bh(s:ByteArray){n:Int}(h:0≤n):s++(⟨#[91]⟩++bs (Lib.itoa n)++⟨#[93]⟩)=ni s n:=by
 unfold ni Fx ah;rw[tM h,Pb];rfl
section
variable {ts : List Tok} {a i : Nat} (H : TsV ts) (ha : a ≤ ts.length) (σ : LLV) (hi : σ[i]? = some (pb ts a))
include H ha hi
theorem jO:Fun G 119 [.ptr i 0] σ (CQ (fun s=>.d (ae s)) ts i σ (eP (zLs ts) (ts.drop a))):=by
 refine al Tryz.func119 Nv rfl fun hb hw=>?_;have S:=St.init hi hb;obtain⟨x,hx⟩:∃x,x=eP (zLs ts) (ts.drop a):=⟨_,rfl⟩
 rw[<-hx];unfold eP at hx;rw[gA]at hx;unfold L4;simp -dsimp only[aw,seval];refine f7 (aK S ha (gK _) hx (fM H ha _ (am hi _)) (fun s a1 hx h1 h2 h3 hy σ1 S1 hl1=>?_) (fun e n b hx σ1 S1 hl1=>?_))
 case refine_2=>
  rw[<-hl1];simp -dsimp only[aw,seval];exact aH S1 hx
 have hs:=iU H.ok (EO hy);rw[<-hl1];simp -dsimp only[aw,seval];refine js H (by decide +kernel) S1 h2 (fun hs2 hlt2 σ2 S2 hl2=>?_) (fun hs2=>?_)
 case refine_2=>
  rw[show(⟨#[91]⟩:ByteArray)=ah 91 from rfl]at hs2;rw[dO hs2]at hx;simp -dsimp only[aw,seval];exact cx S1 h2 hx rfl rfl
 rw[show(⟨#[91]⟩:ByteArray)=ah 91 from rfl]at hs2;rw[dM hs2,jn]at hx;rw[<-hl2];simp -dsimp only[aw,seval];refine aK S2 hlt2 (iW _) hx (ef H hlt2 _ (am S2.at_ _)) (fun n a3 hx h4 h5 h6 hy σ3 S3 hl3=>?_) (fun e n b hx σ1 S1 hl1=>?_)
 case refine_2=>
  rw[<-hl1];simp -dsimp only[aw,seval];exact aH S1 hx
 have hn:=F6 (C9 hy);have hl10:=sR n hn.1 hn.2;have hI:=qd n (by omega) (by omega) (Nat.le_trans hl10 (by decide +kernel));rw[<-hl3];simp -dsimp only[aw,seval];refine aj (hI _) ?_;have hb10:(bs (Lib.itoa n)).size≤10:=by rw[bW];exact hl10
 have c1:(⟨#[91]⟩:ByteArray).size+(bs (Lib.itoa n)).size≤9223372036854775807:=by show 1+_≤_;omega
 have c2:((⟨#[91]⟩:ByteArray)++bs (Lib.itoa n)).size+(⟨#[93]⟩:ByteArray).size≤9223372036854775807:=by rw[Pa];show 1+_+1≤_;omega
 have c3:s.size+((⟨#[91]⟩:ByteArray)++bs (Lib.itoa n)++⟨#[93]⟩).size≤9223372036854775807:=by rw[Pa,Pa];show s.size+(1+_+1)≤_;omega
 have c4:=Bh s hn.1;rw[bK]at hx;simp -dsimp only[aw,seval,c1,c2,c3,c4];refine aK S3 h5 (cd _) hx (b8 H (ah 93) h5 (by decide +kernel) _ (am S3.at_ _)) (fun _ a4 hx h7 h8 h9 hy σ4 S4 hl4=>?_) (fun e n b hx σ1 S1 hl1=>?_)
 case refine_2=>
  rw[<-hl1];simp -dsimp only[aw,seval];exact aH S1 hx
 rw[<-hl4];simp -dsimp only[aw,seval];exact cx S4 h8 hx rfl rfl
theorem lK:Fun G 122 [.ptr i 0] σ (CQ (fun l=>.d (.sl (l.map fun s=>[ae s]))) ts i σ (eJ (zLs ts) (ts.drop a))):=by
 refine al Tryz.func122 Ox rfl fun hb hw=>?_;have S:=St.init hi hb;have hL:=H.ok.len;obtain⟨x,hx⟩:∃x,x=eJ (zLs ts) (ts.drop a):=⟨_,rfl⟩
 rw[<-hx];unfold eJ at hx;unfold L8;simp -dsimp only[aw,seval];refine f7 (aK S ha (e8 _ _) hx (jO H ha _ (am hi _)) (fun s a1 hx h1 h2 h3 hy σ1 S1 hl1=>?_) (fun e n b hx σ1 S1 hl1=>?_))
 case refine_2=>
  rw[<-hl1];simp -dsimp only[aw,seval];exact aH S1 hx
 rw[<-hl1];simp -dsimp only[aw,seval];refine aI [0,3] (R:=fun(j:Nat) ρ σ'=>∃(a1:Nat) (l:List ByteArray) (σ2:LLV),ρ=[(0,.ptr i 0),(3,.own 9 1 (l.map fun s=>[ae s]))]/\σ'=σ2++[]/\St σ i ts a1 σ2/\σ2.length=σ1.length/\a1≤ts.length/\l.length+j≤a1+1/\j≤a1/\x=bY (fun l r=>(acc (ah 44) r).map fun r2=>(eP (zLs ts) r2).bind fun s r3=>.ok (l++[s]) r3) l (ts.drop a1)) ts.length ⟨a1,[s],σ1,rfl,rfl,S1,rfl,h2,by simp,by omega,hx⟩ ?_ _;rintro j ρ' σ' hj ⟨a1,l,σ2,rfl,rfl,S2,hl2,h4,h5,h6,hx⟩;rw[gy (iD (e8 _)).eats]at hx;rw[<-hl2];simp -dsimp only[aw,seval];refine js H (by decide +kernel) S2 h4 (fun hs2 hlt2 σ3 S3 hl3=>?_) (fun hs2=>?_)
 case refine_2=>
  rw[show(⟨#[44]⟩:ByteArray)=ah 44 from rfl]at hs2;simp only[hs2,Option.map_none]at hx;simp -dsimp only[aw,seval];exact cx S2 h4 hx rfl rfl
 rw[show(⟨#[44]⟩:ByteArray)=ah 44 from rfl]at hs2;simp only[hs2,Option.map_some,cN]at hx;rw[<-hl3];simp -dsimp only[aw,seval];refine aK S3 hlt2 (e8 _ _) hx (jO H hlt2 _ (am S3.at_ _)) (fun s a3 hx h7 h8 h9 hy σ4 S4 hl4=>?_) (fun e n b hx σ1 S1 hl1=>?_)
 case refine_2=>
  rw[<-hl1];simp -dsimp only[aw,seval];exact aH S1 hx
 rw[<-hl4];simp -dsimp only[aw,seval];refine aU (by omega) ?_;simp -dsimp only[aw,seval];have hlt4:a1+1<a3:=by unfold fE at h9;rw[Pg]at h9;omega
 refine⟨by omega,Nxt.same (by simp) (aq S4.bb rfl) (by simp[an,V.under,S4.len];exact S4.lt) ⟨a3,l++[s],σ4,by simp,rfl,S4,by rw[hl4,hl3,hl2],h8,by simp;omega,by omega,hx⟩⟩
end
end Go.Proofs.YtnhphlmblenapaaGreatDoor
