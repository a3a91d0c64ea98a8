import Derived.Test.YtnhphlmblenapaaGreatDoorPm11
set_option linter.unusedVariables false
set_option linter.unusedSimpArgs false
set_option linter.unusedSectionVars false
set_option maxHeartbeats 4000000
open ByteArray renaming size_append->TU,append_assoc->TV
open List renaming getElem?_eq_getElem->TW,length_set->TX,take_left->TY,length_drop->TZ,append_nil->T0,suffix_refl->T3,drop_eq_nil_of_le->T4,getElem?_eq_none->T5,getElem?_append_right->T6,drop_eq_getElem_cons->T7,set_append_right->T8,getElem_mem->T9
open Nat renaming le_refl->Ua,add_sub_cancel_left->Ub,sub_self->Uc
namespace Go.Proofs.YtnhphlmblenapaaGreatDoor
open Go.RowKit
open Nat renaming reduceLeDiff -> jA, reduceBEq -> jB, reduceLT -> jC, reduceEqDiff -> jD, reduceAdd -> jE, reduceSub -> jF, reduceMul -> jG
open V renaming copy -> jV, lend -> jW, lend1 -> jX, cells -> jY, boxable -> jZ
theorem Aa(e:Ex):dj e=0\/dj e=1\/dj e=7:=by
 induction e using Ex.ind with
 | h o n s l ih=>
 have hl:∀l:List Ex,(∀a,a∈l->dj a=0\/dj a=1\/dj a=7)->mM l=0\/mM l=1\/mM l=7:=by
  intro l
  induction l with
  | nil=>intro _;exact .inl rfl
  | cons a r ihr=>
   intro h;simp only[mM];split
   .exact ihr fun b hb=>h b (by simp[hb])
   .exact h a (by simp)
 have hn:bM o n s l.length=0\/bM o n s l.length=1\/bM o n s l.length=7:=by
  unfold bM;repeat' split
  all_goals simp
 simp only[dj];split
 .exact hl l ih
 .exact hn
theorem wt(e:Ex):bz e=0\/bz e=1\/bz e=2\/bz e=7:=by
 have:=Aa e;unfold bz;split<;>omega
theorem Mt(σ:LLV)(i k:Nat)(X:List V)(l:LLV):(σ.set i X++l)[σ.length+k]? = l[k]? := by
 rw[T6 (by rw[TX];omega),TX,Ub]
theorem L4(σ:LLV)(i k:Nat)(X Z:List V)(l:LLV):(σ.set i X++l).set (σ.length+k) Z=σ.set i X++l.set k Z:=by
 rw[T8 _ _ (by rw[TX];omega),TX,Ub]
theorem B6(σ:LLV)(i:Nat)(X Y:List V)(l:LLV):(σ.set i X++Y::l)[σ.length]? = some Y:=by
 rw[T6 (by rw[TX];exact Ua _),TX,Uc];rfl
theorem Bq(σ:LLV)(i:Nat)(X Y Z:List V)(l:LLV):(σ.set i X++Y::l).set σ.length Z=σ.set i X++Z::l:=by
 rw[T8 _ _ (by rw[TX];exact Ua _),TX,Uc];rfl
section
variable {ts : List Tok} {a : Nat} (H : TsV ts)
include H
theorem u7:(∀t,ts[a]? = some t->t.kind=3->ct (ts.drop a)=some (t.num,ts.drop (a+1)))/\((∀t,ts[a]? = some t->t.kind≠3)->ct (ts.drop a)=none):=by
 by_cases h:a<ts.length
 .rw[TW h,T7 h];refine⟨fun t e hk=>?_,fun hn=>?_⟩
  .cases e;simp only[ct];rw[if_pos ⟨H.v _ (T9 h),hk⟩]
  .simp only[ct];rw[if_neg fun hc=>hn _ rfl hc.2]
 .rw[T5 (by omega),T4 (by omega)];exact⟨fun t e=>(by cases e),fun _=>rfl⟩
theorem sc:(∀t,ts[a]? = some t->t.kind=1->bW (ts.drop a)=some (t.text,ts.drop (a+1)))/\((∀t,ts[a]? = some t->t.kind≠1)->bW (ts.drop a)=none):=by
 by_cases h:a<ts.length
 .rw[TW h,T7 h];refine⟨fun t e hk=>?_,fun hn=>?_⟩
  .cases e;simp only[bW];rw[if_pos ⟨H.v _ (T9 h),hk⟩]
  .simp only[bW];rw[if_neg fun hc=>hn _ rfl hc.2]
 .rw[T5 (by omega),T4 (by omega)];exact⟨fun t e=>(by cases e),fun _=>rfl⟩
end
def Hm(ts:List Tok)(a i:Nat)(k:Int)(σ:LLV):Out->LLV->Prop:=fun o σ'=>
 (∃t,ts[a]? = some t/\t.kind=k/\o=.ret (jo t)/\σ'=σ.set i (pb ts (a+1)))\/((∀t,ts[a]? = some t->t.kind≠k)/\o=.panic (ep (fM ts a) (lnA ts a))/\σ'=σ)
theorem uD(ts:List Tok)(a i:Nat)(k:Int)(H:TsV ts)(ha:a≤ts.length)(σ:LLV)(hi:σ[i]? = some (pb ts a)):
 Fun G 139 [.ptr i 0,.d (ac k)] σ (Hm ts a i k σ):=by
 refine ai Tryz.func139 SY rfl fun hb hw=>?_;unfold QA;have hM:=fun l=>kz ts a i (σ++l) (al hi l);have hF:=fun l=>kX ts a i H ha (σ++l) (al hi l);have hl:=H.ok.len;have hil:=(List.getElem?_eq_some_iff.1 hi).1;have hio:=fun l=>al hi l;have hso:=fun X l=>bN hi X l;unfold pb at hi hio
 have panic:∀(l:LLV),(∀t,ts[a]? = some t->t.kind≠k)->∀(rs:List RV) (ρ:ah),fin σ.length rs (Hm ts a i k σ) (.panic (ep (fM ts a) (lnA ts a))) ρ (σ++l):=fun l hk rs ρ=>
  ⟨σ.length,Ua _,by rw[TY];exact hb,rfl,.inr ⟨hk,rfl,TY⟩⟩
 simp -dsimp only[aw,jV,jW,jX,jY,jZ,jA,reduceIte,reduceCtorEq,jB,jC,jD,jE,jF,jG];refine aA (hM _) ?_;by_cases hlt:a<ts.length
 .by_cases hk:ts[a].kind=k
  .have hw1:IntKind.i64.wrap (((a:Nat):Int)+1)=((a+1:Nat):Int):=by rw[ba (by omega) (by omega)];omega
   have hw2:IntKind.i64.wrap (((a+1:Nat):Int)-1)=((a:Nat):Int):=by rw[ba (by omega) (by omega)];omega
   have hs1:=fun l=>al (List.getElem?_set_self (a:=pb ts (a+1)) hil) l;unfold pb at hs1;simp -dsimp only[aw,jV,jW,jX,jY,jZ,jA,reduceIte,reduceCtorEq,jB,jC,jD,jE,jF,jG,hio,decide_eq_true hlt,TW hlt,fL,ny,hk,hw1,hw2,decide_true,hso,hs1,B6,Bq];refine bQ (σ:=σ) (Q:=Hm ts a i k σ) (τ:=σ.set i (pb ts (a+1))) (v:=jo ts[a]) (cE hb rfl) ?_ rfl ?_ (.inl ⟨ts[a],TW hlt,hk,rfl,rfl⟩)
   .simp[Lh,be,bL,jo,hk,aw,jV,jW,jX,jY,jZ,jA,reduceIte,reduceCtorEq,jB,jC,jD,jE,jF,jG]
   .simp[pb]
  .simp -dsimp only[aw,jV,jW,jX,jY,jZ,jA,reduceIte,reduceCtorEq,jB,jC,jD,jE,jF,jG,hio,decide_eq_true hlt,TW hlt,fL,ny,decide_eq_false hk];refine aC (hF _) fun o σ' ⟨e1,e2⟩=>?_;subst e1;subst e2;simp -dsimp only[aw,jV,jW,jX,jY,jZ,jA,reduceIte,reduceCtorEq,jB,jC,jD,jE,jF,jG,bu];exact panic _ (fun t ht=>by rw[TW hlt]at ht;cases ht;exact hk) _ _
 .simp -dsimp only[aw,jV,jW,jX,jY,jZ,jA,reduceIte,reduceCtorEq,jB,jC,jD,jE,jF,jG,hio,decide_eq_false hlt];refine aC (hF _) fun o σ' ⟨e1,e2⟩=>?_;subst e1;subst e2;simp -dsimp only[aw,jV,jW,jX,jY,jZ,jA,reduceIte,reduceCtorEq,jB,jC,jD,jE,jF,jG,bu];exact panic _ (fun t ht=>by rw[T5 (by omega)]at ht;cases ht) _ _
def CQ{α:Type}(mk:α->V)(ts:List Tok)(i:Nat)(σ:LLV)(y:CP α):Out->LLV->Prop:=fun o σ'=>match y with
 | .out=>False
 | .bad e n=>o=.panic (ep e n)/\∃b,σ'=σ.set i (pb ts b)
 | .ok v r=>o=.ret (mk v)/\σ'=σ.set i (pb ts (ts.length-r.length))
section
variable {α : Type} {mk : α -> V} {σ0 σ : LLV} {i : Nat} {ts : List Tok} {a : Nat} {l : LLV} {K P : V -> LLV -> Prop} {s : Tag K} {t : Tag P} {f : FuncId} {args : List V} {y : CP α}
theorem vP{ts r:List Tok}{a:Nat}(ha:a≤ts.length)(h:r <:+ ts.drop a):r=ts.drop (ts.length-r.length)/\a≤ts.length-r.length/\ts.length-r.length≤ts.length:=by
 have h1:=h.length_le;rw[TZ]at h1;exact⟨xZ (h.trans (List.drop_suffix a ts)),by omega,by omega⟩
theorem Ma{sz:α->Nat}{c:Nat}(S:St σ0 i ts a σ)(ha:a≤ts.length)(hT:Tk sz c (ts.drop a) y)(h:Fun G f args (σ++l) (CQ mk ts i (σ++l) y))(ht:∀v a2,y=.ok v (ts.drop a2)->a≤a2->a2≤ts.length->sz v+(ts.length-a2)≤c->∀σ',St σ0 i ts a2 σ'->σ'.length=σ.length->K (mk v) (σ'++l))(hf:∀e n b,y=.bad e n->∀σ',St σ0 i ts b σ'->σ'.length=σ.length->P (ep e n) (σ'++l)):
 kf G f args (σ++l) K P s t:=by
 refine aC h fun o σ' hq=>?_;cases y with
 | out=>exact hT.elim
 | bad e n=>
  obtain⟨rfl,b,rfl⟩:=hq;rw[bN S.at_,bu];exact hf e n b rfl _ (S.step _) (S.slen _)
 | ok v r=>
  obtain⟨rfl,rfl⟩:=hq;obtain⟨h1,h2,h3⟩:=vP ha hT.1;rw[bN S.at_,bB];exact ht v _ (by rw[<-h1]) h2 h3 (by have:=hT.2;rw[h1,TZ]at this;omega) _ (S.step _) (S.slen _)
theorem cO{rs:List RV}{ρ:ah}{v:α}(S:St σ0 i ts a σ)(ha:a≤ts.length)(hy:y=.ok v (ts.drop a))(hu:V.under σ.length (mk v)=true)(h:be (σ++l) ρ rs=some (mk v)):fin σ.length rs (CQ mk ts i σ0 y) .ret ρ (σ++l):=by
 subst hy;exact bQ (τ:=σ) S.bb h hu TY ⟨rfl,by rw[jJ ts a ha];exact S.eq⟩
theorem aD{rs:List RV}{ρ:ah}{e n:Int}(S:St σ0 i ts a σ)(hy:y=.bad e n):fin σ.length rs (CQ mk ts i σ0 y) (.panic (ep e n)) ρ (σ++l):=by
 subst hy;exact⟨σ.length,Ua _,by rw[TY];exact S.bb,rfl,by rw[TY];exact⟨rfl,a,S.eq⟩⟩
theorem py{rs:List RV}{ρ:ah}{b:Nat}(S:St σ0 i ts a σ)(hy:y=jP (zLs ts) (ts.drop b)):fin σ.length rs (CQ mk ts i σ0 y) (.panic (ep (fM ts b) (lnA ts b))) ρ (σ++l):=aD S (by rw[hy,Hz])
end
section
variable {σ0 σ : LLV} {i : Nat} {ts : List Tok} {a : Nat} (H : TsV ts) {l : LLV} {K P : V -> LLV -> Prop} {s : Tag K} {t : Tag P}
include H
theorem Lu{f:FuncId}{m:ByteArray}(S:St σ0 i ts a σ)(h:Fun G f [.ptr i 0,.d (ab m)] (σ++l) fun o σ'=>o=.ret (ak (bG m ts a))/\σ'=if bG m ts a=true then(σ++l).set i (pb ts (a+1))else σ++l)
 (ht:acc m (ts.drop a)=some (ts.drop (a+1))->a<ts.length->∀σ',St σ0 i ts (a+1) σ'->σ'.length=σ.length->K (ak true) (σ'++l))(hf:acc m (ts.drop a)=none->K (ak false) (σ++l)):kf G f [.ptr i 0,.d (ab m)] (σ++l) K P s t:=by
 refine aC h fun o σ' ⟨e1,e2⟩=>?_;subst e1;rw[bB];cases hs:bG m ts a with
 | true=>
  rw[hs,if_pos rfl,bN S.at_]at e2;subst e2;exact ht (by rw[bR,hs,if_pos rfl]) (I5 hs) _ (S.step _) (S.slen _)
 | false=>
  rw[hs,if_neg (by decide)]at e2;subst e2;exact hf (by rw[bR,hs,if_neg (by decide)])
theorem mP{m:ByteArray}(hm:bq (tw m)=false)(S:St σ0 i ts a σ)(ha:a≤ts.length)(ht:acc m (ts.drop a)=some (ts.drop (a+1))->a<ts.length->∀σ',St σ0 i ts (a+1) σ'->σ'.length=σ.length->K (ak true) (σ'++l))(hf:acc m (ts.drop a)=none->K (ak false) (σ++l)):
 kf G 121 [.ptr i 0,.d (ab m)] (σ++l) K P s t:=Lu H S (Et m ts a i H ha hm _ (al S.at_ l)) ht hf
theorem iJ{m:ByteArray}(hm:bq (tm m)=false)(S:St σ0 i ts a σ)(ha:a≤ts.length)(ht:acc m (ts.drop a)=some (ts.drop (a+1))->a<ts.length->∀σ',St σ0 i ts (a+1) σ'->σ'.length=σ.length->K (ak true) (σ'++l))(hf:acc m (ts.drop a)=none->K (ak false) (σ++l)):
 kf G 60 [.ptr i 0,.d (ab m)] (σ++l) K P s t:=Lu H S (Cr m ts a i H ha hm _ (al S.at_ l)) ht hf
omit H in
theorem uw{α:Type}{z:Int}{m:ByteArray}{r r1:List Tok}{k:List Tok->CP α}(h:acc m r=some r1):bO z m r k=k r1:=by unfold bO;rw[h]
omit H in
theorem tV{α:Type}{z:Int}{m:ByteArray}{r:List Tok}{k:List Tok->CP α}(h:acc m r=none):bO z m r k=jP z r:=by unfold bO;rw[h]
omit H in
theorem eD{α:Type}{m:ByteArray}{r r1:List Tok}{k:List Tok->CP α}{n:CP α}(h:acc m r=some r1):eC m r k n=k r1:=by unfold eC;rw[h]
omit H in
theorem ez{α:Type}{m:ByteArray}{r:List Tok}{k:List Tok->CP α}{n:CP α}(h:acc m r=none):eC m r k n=n:=by unfold eC;rw[h]
omit H in
theorem DD{α:Type}{z:Int}{r r1:List Tok}{x:ByteArray}{k:ByteArray->List Tok->CP α}(h:bW r=some (x,r1)):dP z r k=k x r1:=by unfold dP;rw[h]
omit H in
theorem CR{α:Type}{z:Int}{r:List Tok}{k:ByteArray->List Tok->CP α}(h:bW r=none):dP z r k=jP z r:=by unfold dP;rw[h]
omit H in
theorem G1{α:Type}{z:Int}{r r1:List Tok}{x:Int}{k:Int->List Tok->CP α}(h:ct r=some (x,r1)):gq z r k=k x r1:=by unfold gq;rw[h]
omit H in
theorem Gx{α:Type}{z:Int}{r:List Tok}{k:Int->List Tok->CP α}(h:ct r=none):gq z r k=jP z r:=by unfold gq;rw[h]
omit H in
theorem jz{f:FuncId}{args:List V}{τ:LLV}(h:kf G f args (τ++[]) K P s t):kf G f args τ K P s t:=by rwa[T0]at h
theorem cw(m:ByteArray)(ha:a≤ts.length)(hm:bq (tw m)=false)(σ:LLV)(hi:σ[i]? = some (pb ts a)):
 Fun G 84 [.ptr i 0,.d (ab m)] σ (CQ (fun _:Unit=>.tup []) ts i σ (bO (zLs ts) m (ts.drop a) fun r=>.ok () r)):=by
 refine ai Tryz.func84 k84 rfl fun hb hw=>?_;have S:=St.init hi hb;unfold c84;simp -dsimp only[aw,jV,jW,jX,jY,jZ,jA,reduceIte,reduceCtorEq,jB,jC,jD,jE,jF,jG];refine jz (mP H hm S ha (fun hs hlt σ1 S1 hl1=>?_) (fun hs=>?_))
 .rw[uw hs,<-hl1];simp -dsimp only[aw,jV,jW,jX,jY,jZ,jA,reduceIte,reduceCtorEq,jB,jC,jD,jE,jF,jG];exact cO (v:=()) S1 hlt rfl rfl rfl
 .rw[tV hs];simp -dsimp only[aw,jV,jW,jX,jY,jZ,jA,reduceIte,reduceCtorEq,jB,jC,jD,jE,jF,jG];refine aC (kX ts a i H ha _ (al hi _)) fun o σ' ⟨e1,e2⟩=>?_;subst e1;subst e2;simp -dsimp only[aw,jV,jW,jX,jY,jZ,jA,reduceIte,reduceCtorEq,jB,jC,jD,jE,jF,jG,bu];exact py S rfl
theorem pW(m:ByteArray)(ha:a≤ts.length)(hm:bq (tm m)=false)(σ:LLV)(hi:σ[i]? = some (pb ts a)):
 Fun G 82 [.ptr i 0,.d (ab m)] σ (CQ (fun _:Unit=>.tup []) ts i σ (bO (zLs ts) m (ts.drop a) fun r=>.ok () r)):=by
 refine ai Tryz.func82 k82 rfl fun hb hw=>?_;have S:=St.init hi hb;unfold c82;simp -dsimp only[aw,jV,jW,jX,jY,jZ,jA,reduceIte,reduceCtorEq,jB,jC,jD,jE,jF,jG];refine jz (iJ H hm S ha (fun hs hlt σ1 S1 hl1=>?_) (fun hs=>?_))
 .rw[uw hs,<-hl1];simp -dsimp only[aw,jV,jW,jX,jY,jZ,jA,reduceIte,reduceCtorEq,jB,jC,jD,jE,jF,jG];exact cO (v:=()) S1 hlt rfl rfl rfl
 .rw[tV hs];simp -dsimp only[aw,jV,jW,jX,jY,jZ,jA,reduceIte,reduceCtorEq,jB,jC,jD,jE,jF,jG];refine aC (kX ts a i H ha _ (al hi _)) fun o σ' ⟨e1,e2⟩=>?_;subst e1;subst e2;simp -dsimp only[aw,jV,jW,jX,jY,jZ,jA,reduceIte,reduceCtorEq,jB,jC,jD,jE,jF,jG,bu];exact py S rfl
end
def qM(n:Nat)(r:List Tok):Ex×Int×Int:=match par .W r with
 | .bad c r=>(z0,((n-r.length:Nat):Int),c)
 | .ok e r=>if bz e=0 then(e,((n-r.length:Nat):Int),0)else(z0,0,bz e)
 | .out=>(z0,0,0)
theorem Kt(e:Ex)(n c:Int):lR (e,n,c)=.tup [.agg [.d (ac e.op),.d (ac e.num),.d (ab e.name),.d (.sl (e.args.map dex))],.d (ac n),.d (ac c)]:=by unfold lR;rw[an]
theorem Cv(ts:List Tok)(H:TsOK ts)(a:Nat)(ha:a≤ts.length)(σ:LLV):Fun G 176 [.d (.sl (ts.map ny)),.d (ac a)] σ (aP (lR (qM ts.length (ts.drop a))) σ):=by
 refine ai Tryz.func176 SE rfl fun hb hw=>?_;unfold OW;have hA:=fun σ=>xF ts H a ha σ;have hL:=H.len;have d0:decide (((a:Nat):Int)<0)=false:=by rw[decide_eq_false_iff_not];omega
 have d1:decide (((ts.length:Nat):Int)<((a:Nat):Int))=false:=by rw[decide_eq_false_iff_not];omega
 simp -dsimp only[aw,jV,jW,jX,jY,jZ,jA,reduceIte,reduceCtorEq,jB,jC,jD,jE,jF,jG,d0,d1];refine ae (hA _) ?_;cases hx:par .W (ts.drop a)with
 | out=>exact absurd hx (gC _ _)
 | bad c r=>
  have hT:qM ts.length (ts.drop a)=(z0,((ts.length-r.length:Nat):Int),c):=by unfold qM;rw[hx]
  have dc:=decide_eq_false (wB hx).1;rw[hT];simp -dsimp only[aw,jV,jW,jX,jY,jZ,jA,reduceIte,reduceCtorEq,jB,jC,jD,jE,jF,jG,GM,an,bX,bp,aK,aL,dc];exact aO hb (v:=lR (z0,((ts.length-r.length:Nat):Int),c)) (by unfold lR;rw[vj];simp[Bj,be,dp,bL,aw,jV,jW,jX,jY,jZ,jA,reduceIte,reduceCtorEq,jB,jC,jD,jE,jF,jG]) (by unfold lR;rw[vj];rfl) TY ⟨rfl,rfl⟩
 | ok e r=>
  have hsz:=Hh hx;rw[TZ]at hsz;have hv:=nj e (by omega) (by have:=so e;omega);by_cases h0:bz e=0
  .have hT:qM ts.length (ts.drop a)=(e,((ts.length-r.length:Nat):Int),0):=by unfold qM;rw[hx];simp[h0]
   rw[hT];simp -dsimp only[aw,jV,jW,jX,jY,jZ,jA,reduceIte,reduceCtorEq,jB,jC,jD,jE,jF,jG,GM,an,decide_true];refine ae (by simpa only[an]using hv _) ?_;simp -dsimp only[aw,jV,jW,jX,jY,jZ,jA,reduceIte,reduceCtorEq,jB,jC,jD,jE,jF,jG,decide_eq_true h0];exact aO hb (v:=lR (e,((ts.length-r.length:Nat):Int),0)) (by unfold lR;rw[an];simp[Bj,be,dp,bL,aw,jV,jW,jX,jY,jZ,jA,reduceIte,reduceCtorEq,jB,jC,jD,jE,jF,jG]) (by unfold lR;rw[an];rfl) TY ⟨rfl,rfl⟩
  .have hT:qM ts.length (ts.drop a)=(z0,0,bz e):=by unfold qM;rw[hx];simp[h0]
   rw[hT];simp -dsimp only[aw,jV,jW,jX,jY,jZ,jA,reduceIte,reduceCtorEq,jB,jC,jD,jE,jF,jG,GM,an,decide_true];refine ae (by simpa only[an]using hv _) ?_;simp -dsimp only[aw,jV,jW,jX,jY,jZ,jA,reduceIte,reduceCtorEq,jB,jC,jD,jE,jF,jG,decide_eq_false h0];exact aO hb (v:=lR (z0,0,bz e)) (by unfold lR;rw[vj];simp[Bj,be,dp,bL,aw,jV,jW,jX,jY,jZ,jA,reduceIte,reduceCtorEq,jB,jC,jD,jE,jF,jG]) (by unfold lR;rw[vj];rfl) TY ⟨rfl,rfl⟩
end Go.Proofs.YtnhphlmblenapaaGreatDoor
namespace Go.Proofs.YtnhphlmblenapaaGreatDoor
open Go.RowKit
open Nat renaming reduceLeDiff -> jA, reduceBEq -> jB, reduceLT -> jC, reduceEqDiff -> jD, reduceAdd -> jE, reduceSub -> jF, reduceMul -> jG
open V renaming copy -> jV, lend -> jW, lend1 -> jX, cells -> jY, boxable -> jZ
section
variable {α β : Type} {z : Int} {r : List Tok}
theorem pK{k:β->List Tok->CP α}:(jP z r:CP β).bind k=jP z r:=by cases r<;>rfl
theorem dN{γ:Type}{y:CP β}{f:β->List Tok->CP γ}{g:γ->List Tok->CP α}:(y.bind f).bind g=y.bind fun v r=>(f v r).bind g:=by cases y<;>rfl
theorem i8(k:ByteArray->List Tok->CP α):dP z r k=(dP z r .ok).bind k:=by unfold dP;cases bW r with|some p=>rfl|none=>exact pK.symm
theorem mr(k:Int->List Tok->CP α):gq z r k=(gq z r .ok).bind k:=by unfold gq;cases ct r with|some p=>rfl|none=>exact pK.symm
theorem bZ{m:ByteArray}(k:List Tok->CP α):bO z m r k=(bO z m r fun r=>.ok () r).bind fun _ r=>k r:=by unfold bO;cases acc m r with|some p=>rfl|none=>exact pK.symm
theorem yf(k:Ex->List Tok->CP α):exC z r k=(exC z r .ok).bind k:=by
 unfold exC;cases par .W r with
 | out=>rfl
 | bad c q=>rfl
 | ok e q=>
  simp only;split<;>rfl
theorem jx(r:List Tok):Tk gS r.length r (dP z r .ok):=j8 (T3 _) fun s r1 h1 l1=>⟨h1,by unfold gS;omega⟩
theorem ll(r:List Tok):Tk gS r.length r (gq z r .ok):=mh (T3 _) fun s r1 h1 l1=>⟨h1,by unfold gS;omega⟩
theorem cq{m:ByteArray}(r:List Tok):Tk gS r.length r (bO z m r fun r=>.ok () r):=cR (T3 _) fun r1 h1 l1=>⟨h1,by unfold gS;omega⟩
theorem Fd(r:List Tok):Tk aX r.length r (exC z r .ok):=wM (T3 _) fun e r1 _ h1 l1=>⟨h1,by omega⟩
theorem JS{r r1:List Tok}{s:ByteArray}(h:(dP z r .ok:CP ByteArray)=.ok s r1):bW r=some (s,r1):=by
 unfold dP at h;cases hp:bW r with
 | none=>rw[hp]at h;exact absurd h (by cases r<;>(intro h;cases h))
 | some p=>
  obtain⟨s',q⟩:=p;rw[hp]at h;simp only[CP.ok.injEq]at h;obtain⟨rfl,rfl⟩:=h;rfl
theorem Ft{r r1:List Tok}{s:Int}(h:(gq z r .ok:CP Int)=.ok s r1):ct r=some (s,r1):=by
 unfold gq at h;cases hp:ct r with
 | none=>rw[hp]at h;exact absurd h (by cases r<;>(intro h;cases h))
 | some p=>
  obtain⟨s',q⟩:=p;rw[hp]at h;simp only[CP.ok.injEq]at h;obtain⟨rfl,rfl⟩:=h;rfl
end
section
variable {α β : Type} {mk : β -> V} {σ0 σ : LLV} {i : Nat} {ts : List Tok} {a : Nat} {l : LLV} {K P : V -> LLV -> Prop} {s : Tag K} {t : Tag P} {f : FuncId} {args : List V} {y : CP β} {x : CP α} {k : β -> List Tok -> CP α} {sz : β -> Nat} {c : Nat}
theorem aR(S:St σ0 i ts a σ)(ha:a≤ts.length)(hT:Tk sz c (ts.drop a) y)(hx:x=y.bind k)(h:Fun G f args (σ++l) (CQ mk ts i (σ++l) y))(ht:∀v a2,x=k v (ts.drop a2)->a≤a2->a2≤ts.length->sz v+(ts.length-a2)≤c->y=.ok v (ts.drop a2)->∀σ',St σ0 i ts a2 σ'->σ'.length=σ.length->K (mk v) (σ'++l))(hf:∀e n b,x=.bad e n->∀σ',St σ0 i ts b σ'->σ'.length=σ.length->P (ep e n) (σ'++l)):
 kf G f args (σ++l) K P s t:=
 Ma S ha hT h (fun v a2 hy h1 h2 h3=>ht v a2 (by rw[hx,hy];rfl) h1 h2 h3 hy) fun e n b hy=>hf e n b (by rw[hx,hy];rfl)
end
section
variable {ts : List Tok} {a i : Nat} (H : TsV ts) (ha : a ≤ ts.length) (σ : LLV) (hi : σ[i]? = some (pb ts a))
include H ha hi
theorem gY:Fun G 83 [.ptr i 0] σ (CQ (fun s=>.d (ab s)) ts i σ (dP (zLs ts) (ts.drop a) .ok)):=by
 refine ai Tryz.func83 k83 rfl fun hb hw=>?_;have S:=St.init hi hb;unfold c83;simp -dsimp only[aw,jV,jW,jX,jY,jZ,jA,reduceIte,reduceCtorEq,jB,jC,jD,jE,jF,jG];refine aC (uD ts a i 1 H ha σ hi) fun o σ' hq=>?_;rcases hq with⟨t,h1,h2,rfl,rfl⟩|⟨h1,rfl,rfl⟩
 .have hlt:=(List.getElem?_eq_some_iff.1 h1).1;rw[DD ((sc H).1 t h1 h2)];simp -dsimp only[aw,jV,jW,jX,jY,jZ,jA,reduceIte,reduceCtorEq,jB,jC,jD,jE,jF,jG,bB,jo];have:=cO (mk:=fun s=>.d (ab s)) (l:=[]) (rs:=Oj) (ρ:=[(2,.d (ab t.text))]) (v:=t.text) (S.step (a+1)) hlt rfl rfl rfl;rw[S.slen,T0]at this;exact this
 .rw[CR ((sc H).2 h1)];simp -dsimp only[aw,jV,jW,jX,jY,jZ,jA,reduceIte,reduceCtorEq,jB,jC,jD,jE,jF,jG,bu];have:=fun ρ rs=>py (mk:=fun s:ByteArray=>V.d (ab s)) (l:=[]) (rs:=rs) (ρ:=ρ) (b:=a) S rfl;rw[T0]at this;exact this _ _
theorem e6:Fun G 177 [.ptr i 0] σ (CQ (fun n=>.d (ac n)) ts i σ (gq (zLs ts) (ts.drop a) .ok)):=by
 refine ai Tryz.func177 Se rfl fun hb hw=>?_;have S:=St.init hi hb;unfold NE;simp -dsimp only[aw,jV,jW,jX,jY,jZ,jA,reduceIte,reduceCtorEq,jB,jC,jD,jE,jF,jG];refine aC (uD ts a i 3 H ha σ hi) fun o σ' hq=>?_;rcases hq with⟨t,h1,h2,rfl,rfl⟩|⟨h1,rfl,rfl⟩
 .have hlt:=(List.getElem?_eq_some_iff.1 h1).1;rw[G1 ((u7 H).1 t h1 h2)];simp -dsimp only[aw,jV,jW,jX,jY,jZ,jA,reduceIte,reduceCtorEq,jB,jC,jD,jE,jF,jG,bB,jo];have:=cO (mk:=fun n=>.d (ac n)) (l:=[]) (rs:=K6) (ρ:=[(2,.d (ac t.num))]) (v:=t.num) (S.step (a+1)) hlt rfl rfl rfl;rw[S.slen,T0]at this;exact this
 .rw[Gx ((u7 H).2 h1)];simp -dsimp only[aw,jV,jW,jX,jY,jZ,jA,reduceIte,reduceCtorEq,jB,jC,jD,jE,jF,jG,bu];have:=fun ρ rs=>py (mk:=fun n:Int=>V.d (ac n)) (l:=[]) (rs:=rs) (ρ:=ρ) (b:=a) S rfl;rw[T0]at this;exact this _ _
theorem uH:Fun G 118 [.ptr i 0] σ (CQ vex ts i σ (exC (zLs ts) (ts.drop a) .ok)):=by
 refine ai Tryz.func118 So rfl fun hb hw=>?_;unfold NZ;have S:=St.init hi hb;have hT:=fun σ=>Cv ts H.ok a ha σ;have hL:=H.ok.len;have hil:=(List.getElem?_eq_some_iff.1 hi).1;have hio:=fun l=>al hi l;have hso:=fun X l=>bN hi X l;have hF:=fun e b hb l=>pT ts a b i e H hb (σ++l) (al hi l);unfold exC;unfold qM at hT;unfold pb at hio hso;cases hx:par .W (ts.drop a)with
 | out=>exact absurd hx (gC _ _)
 | bad c r=>
  have hb3:=wS hx;have hbl:=(wB hx).2;rw[TZ]at hbl;rw[hx]at hT;simp only at hT ⊢;have htk:=lW .W (ts.drop a);rw[hx]at htk;have hln:lnR (zLs ts) r=lnA ts (ts.length-r.length):=by unfold lnA;rw[<-(vP ha htk).1]
  have hF:=fun l=>hF c (ts.length-r.length) (by omega) l;rw[hln];simp -dsimp only[aw,jV,jW,jX,jY,jZ,jA,reduceIte,reduceCtorEq,jB,jC,jD,jE,jF,jG,hio];refine aA (hT _) ?_;simp -dsimp only[aw,jV,jW,jX,jY,jZ,jA,reduceIte,reduceCtorEq,jB,jC,jD,jE,jF,jG,lR,an,z0,bX,bp,aK,aL];refine bI (bI (aA (hT _) ?_) ?_) ?_
  .simp -dsimp only[aw,jV,jW,jX,jY,jZ,jA,reduceIte,reduceCtorEq,jB,jC,jD,jE,jF,jG,lR,an,z0,bX,bp,aK,aL]
  .simp -dsimp only[aw,jV,jW,jX,jY,jZ,jA,reduceIte,reduceCtorEq,jB,jC,jD,jE,jF,jG,hio]
  have c0:c≠0:=by omega
  by_cases c5:c=5
  .subst c5;simp -dsimp only[aw,jV,jW,jX,jY,jZ,jA,reduceIte,reduceCtorEq,jB,jC,jD,jE,jF,jG,Int.reduceEq,decide_false,decide_true];refine aC (hF _) fun o σ' ⟨e1,e2⟩=>?_;subst e1;subst e2;simp -dsimp only[aw,jV,jW,jX,jY,jZ,jA,reduceIte,reduceCtorEq,jB,jC,jD,jE,jF,jG,bu];exact aD S rfl
  by_cases c3:c=3
  .subst c3;simp -dsimp only[aw,jV,jW,jX,jY,jZ,jA,reduceIte,reduceCtorEq,jB,jC,jD,jE,jF,jG,Int.reduceEq,decide_false,decide_true];refine aC (hF _) fun o σ' ⟨e1,e2⟩=>?_;subst e1;subst e2;simp -dsimp only[aw,jV,jW,jX,jY,jZ,jA,reduceIte,reduceCtorEq,jB,jC,jD,jE,jF,jG,bu];exact aD S rfl
  have c6:c=6:=by omega
  subst c6;simp -dsimp only[aw,jV,jW,jX,jY,jZ,jA,reduceIte,reduceCtorEq,jB,jC,jD,jE,jF,jG,Int.reduceEq,decide_false,decide_true];refine aC (hF _) fun o σ' ⟨e1,e2⟩=>?_;subst e1;subst e2;simp -dsimp only[aw,jV,jW,jX,jY,jZ,jA,reduceIte,reduceCtorEq,jB,jC,jD,jE,jF,jG,bu];exact aD S rfl
 | ok e r=>
  have htk:=lW .W (ts.drop a);rw[hx]at htk;rw[hx]at hT;simp only at hT ⊢;by_cases hv:bz e=0
  .rw[if_pos hv]at hT ⊢;simp -dsimp only[aw,jV,jW,jX,jY,jZ,jA,reduceIte,reduceCtorEq,jB,jC,jD,jE,jF,jG,hio];refine aA (hT _) ?_;simp -dsimp only[aw,jV,jW,jX,jY,jZ,jA,reduceIte,reduceCtorEq,jB,jC,jD,jE,jF,jG,lR,an,z0,bX,bp,aK,aL];refine bI (bI (aA (hT _) ?_) ?_) ?_
   .simp -dsimp only[aw,jV,jW,jX,jY,jZ,jA,reduceIte,reduceCtorEq,jB,jC,jD,jE,jF,jG,lR,an,z0,bX,bp,aK,aL]
   .simp -dsimp only[aw,jV,jW,jX,jY,jZ,jA,reduceIte,reduceCtorEq,jB,jC,jD,jE,jF,jG,hio]
   have S1:=S.step (ts.length-r.length);simp -dsimp only[aw,jV,jW,jX,jY,jZ,jA,reduceIte,reduceCtorEq,jB,jC,jD,jE,jF,jG,Kt,hio,hso,decide_true,B6,Bq,Mt,L4]
   have hfin:∀(x:LLV) (ρ:ah),be (σ.set i (pb ts (ts.length-r.length))++x) ρ BK=some (vex e)->fin σ.length BK (CQ vex ts i σ (.ok e r)) .ret ρ (σ.set i (pb ts (ts.length-r.length))++x):=fun x ρ h=>by
    have:=cO (mk:=vex) (y:=.ok e r) S1 (by omega) (by rw[<-(vP ha htk.1).1]) (by rw[an];rfl) h;rwa[TX]at this
   unfold pb at hfin;refine hfin _ _ ?_;rw[an];simp[BK,be,bL,aw,jV,jW,jX,jY,jZ,jA,reduceIte,reduceCtorEq,jB,jC,jD,jE,jF,jG]
  .rw[if_neg hv]at hT ⊢;have hcd:=wt e;have h6:¬bz e=6:=by omega
   have h5:¬bz e=5:=by omega
   have h3:¬bz e=3:=by omega
   simp -dsimp only[aw,jV,jW,jX,jY,jZ,jA,reduceIte,reduceCtorEq,jB,jC,jD,jE,jF,jG,hio];refine aA (hT _) ?_;simp -dsimp only[aw,jV,jW,jX,jY,jZ,jA,reduceIte,reduceCtorEq,jB,jC,jD,jE,jF,jG,lR,an,z0,bX,bp,aK,aL];refine bI (bI (aA (hT _) ?_) ?_) ?_
   .simp -dsimp only[aw,jV,jW,jX,jY,jZ,jA,reduceIte,reduceCtorEq,jB,jC,jD,jE,jF,jG,lR,an,z0,bX,bp,aK,aL]
   .simp -dsimp only[aw,jV,jW,jX,jY,jZ,jA,reduceIte,reduceCtorEq,jB,jC,jD,jE,jF,jG,hio]
   simp -dsimp only[aw,jV,jW,jX,jY,jZ,jA,reduceIte,reduceCtorEq,jB,jC,jD,jE,jF,jG,decide_eq_false hv,decide_eq_false h6,decide_eq_false h5,decide_eq_false h3];exact aD S rfl
end
theorem JQ{ts:List Tok}{a:Nat}{n:Int}{r:List Tok}(h:ct (ts.drop a)=some (n,r)):0≤n/\n≤2147483647:=by
 by_cases hla:a<ts.length
 .rw[oR hla]at h;split at h
  .rename_i hv;cases h;have:=hv.1;unfold bq at this;rw[if_pos hv.2]at this;simp only[Bool.and_eq_true,decide_eq_true_eq]at this;exact⟨this.1.1,this.1.2⟩
  .cases h
 .rw[T4 (by omega)]at h;cases h
theorem Cl(s:ByteArray){n:Int}(h:0≤n):s++(⟨#[91]⟩++bs (Lib.itoa n)++⟨#[93]⟩)=iP s n:=by
 unfold iP rH aa;rw[yF h,TV];rfl
section
variable {ts : List Tok} {a i : Nat} (H : TsV ts) (ha : a ≤ ts.length) (σ : LLV) (hi : σ[i]? = some (pb ts a))
include H ha hi
theorem mS:Fun G 119 [.ptr i 0] σ (CQ (fun s=>.d (ab s)) ts i σ (fT (zLs ts) (ts.drop a))):=by
 refine ai Tryz.func119 TQ rfl fun hb hw=>?_;have S:=St.init hi hb;obtain⟨x,hx⟩:∃x,x=fT (zLs ts) (ts.drop a):=⟨_,rfl⟩
 rw[<-hx];unfold fT at hx;rw[i8]at hx;unfold NT;simp -dsimp only[aw,jV,jW,jX,jY,jZ,jA,reduceIte,reduceCtorEq,jB,jC,jD,jE,jF,jG];refine jz (aR S ha (jx _) hx (gY H ha _ (al hi _)) (fun s a1 hx h1 h2 h3 hy σ1 S1 hl1=>?_) (fun e n b hx σ1 S1 hl1=>?_))
 case refine_2=>
  rw[<-hl1];simp -dsimp only[aw,jV,jW,jX,jY,jZ,jA,reduceIte,reduceCtorEq,jB,jC,jD,jE,jF,jG];exact aD S1 hx
 have hs:=kN H.ok (JS hy);rw[<-hl1];simp -dsimp only[aw,jV,jW,jX,jY,jZ,jA,reduceIte,reduceCtorEq,jB,jC,jD,jE,jF,jG];refine mP H (by decide +kernel) S1 h2 (fun hs2 hlt2 σ2 S2 hl2=>?_) (fun hs2=>?_)
 case refine_2=>
  rw[show(⟨#[91]⟩:ByteArray)=aa 91 from rfl]at hs2;rw[ez hs2]at hx;simp -dsimp only[aw,jV,jW,jX,jY,jZ,jA,reduceIte,reduceCtorEq,jB,jC,jD,jE,jF,jG];exact cO S1 h2 hx rfl rfl
 rw[show(⟨#[91]⟩:ByteArray)=aa 91 from rfl]at hs2;rw[eD hs2,mr]at hx;rw[<-hl2];simp -dsimp only[aw,jV,jW,jX,jY,jZ,jA,reduceIte,reduceCtorEq,jB,jC,jD,jE,jF,jG];refine aR S2 hlt2 (ll _) hx (e6 H hlt2 _ (al S2.at_ _)) (fun n a3 hx h4 h5 h6 hy σ3 S3 hl3=>?_) (fun e n b hx σ1 S1 hl1=>?_)
 case refine_2=>
  rw[<-hl1];simp -dsimp only[aw,jV,jW,jX,jY,jZ,jA,reduceIte,reduceCtorEq,jB,jC,jD,jE,jF,jG];exact aD S1 hx
 have hn:=JQ (Ft hy);have hl10:=yG n hn.1 hn.2;have hI:=sr n (by omega) (by omega) (Nat.le_trans hl10 (by decide +kernel));rw[<-hl3];simp -dsimp only[aw,jV,jW,jX,jY,jZ,jA,reduceIte,reduceCtorEq,jB,jC,jD,jE,jF,jG];refine ae (hI _) ?_;have hb10:(bs (Lib.itoa n)).size≤10:=by rw[bF];exact hl10
 have c1:(⟨#[91]⟩:ByteArray).size+(bs (Lib.itoa n)).size≤9223372036854775807:=by show 1+_≤_;omega
 have c2:((⟨#[91]⟩:ByteArray)++bs (Lib.itoa n)).size+(⟨#[93]⟩:ByteArray).size≤9223372036854775807:=by rw[TU];show 1+_+1≤_;omega
 have c3:s.size+((⟨#[91]⟩:ByteArray)++bs (Lib.itoa n)++⟨#[93]⟩).size≤9223372036854775807:=by rw[TU,TU];show s.size+(1+_+1)≤_;omega
 have c4:=Cl s hn.1;rw[bZ]at hx;simp -dsimp only[aw,jV,jW,jX,jY,jZ,jA,reduceIte,reduceCtorEq,jB,jC,jD,jE,jF,jG,c1,c2,c3,c4];refine aR S3 h5 (cq _) hx (cw H (aa 93) h5 (by decide +kernel) _ (al S3.at_ _)) (fun _ a4 hx h7 h8 h9 hy σ4 S4 hl4=>?_) (fun e n b hx σ1 S1 hl1=>?_)
 case refine_2=>
  rw[<-hl1];simp -dsimp only[aw,jV,jW,jX,jY,jZ,jA,reduceIte,reduceCtorEq,jB,jC,jD,jE,jF,jG];exact aD S1 hx
 rw[<-hl4];simp -dsimp only[aw,jV,jW,jX,jY,jZ,jA,reduceIte,reduceCtorEq,jB,jC,jD,jE,jF,jG];exact cO S4 h8 hx rfl rfl
theorem oD:Fun G 122 [.ptr i 0] σ (CQ (fun l=>.d (.sl (l.map fun s=>[ab s]))) ts i σ (fR (zLs ts) (ts.drop a))):=by
 refine ai Tryz.func122 TK rfl fun hb hw=>?_;have S:=St.init hi hb;have hL:=H.ok.len;obtain⟨x,hx⟩:∃x,x=fR (zLs ts) (ts.drop a):=⟨_,rfl⟩
 rw[<-hx];unfold fR at hx;unfold Qe;simp -dsimp only[aw,jV,jW,jX,jY,jZ,jA,reduceIte,reduceCtorEq,jB,jC,jD,jE,jF,jG];refine jz (aR S ha (gn _ _) hx (mS H ha _ (al hi _)) (fun s a1 hx h1 h2 h3 hy σ1 S1 hl1=>?_) (fun e n b hx σ1 S1 hl1=>?_))
 case refine_2=>
  rw[<-hl1];simp -dsimp only[aw,jV,jW,jX,jY,jZ,jA,reduceIte,reduceCtorEq,jB,jC,jD,jE,jF,jG];exact aD S1 hx
 rw[<-hl1];simp -dsimp only[aw,jV,jW,jX,jY,jZ,jA,reduceIte,reduceCtorEq,jB,jC,jD,jE,jF,jG];refine aN [0,3] (R:=fun(j:Nat) ρ σ'=>∃(a1:Nat) (l:List ByteArray) (σ2:LLV),ρ=[(0,.ptr i 0),(3,.own 9 1 (l.map fun s=>[ab s]))]/\σ'=σ2++[]/\St σ i ts a1 σ2/\σ2.length=σ1.length/\a1≤ts.length/\l.length+j≤a1+1/\j≤a1/\x=db (fun l r=>(acc (aa 44) r).map fun r2=>(fT (zLs ts) r2).bind fun s r3=>.ok (l++[s]) r3) l (ts.drop a1)) ts.length ⟨a1,[s],σ1,rfl,rfl,S1,rfl,h2,by simp,by omega,hx⟩ ?_ _;rintro j ρ' σ' hj ⟨a1,l,σ2,rfl,rfl,S2,hl2,h4,h5,h6,hx⟩;rw[fr (ja (gn _)).eats]at hx;rw[<-hl2];simp -dsimp only[aw,jV,jW,jX,jY,jZ,jA,reduceIte,reduceCtorEq,jB,jC,jD,jE,jF,jG];refine mP H (by decide +kernel) S2 h4 (fun hs2 hlt2 σ3 S3 hl3=>?_) (fun hs2=>?_)
 case refine_2=>
  rw[show(⟨#[44]⟩:ByteArray)=aa 44 from rfl]at hs2;simp only[hs2,Option.map_none]at hx;simp -dsimp only[aw,jV,jW,jX,jY,jZ,jA,reduceIte,reduceCtorEq,jB,jC,jD,jE,jF,jG];exact cO S2 h4 hx rfl rfl
 rw[show(⟨#[44]⟩:ByteArray)=aa 44 from rfl]at hs2;simp only[hs2,Option.map_some,dN]at hx;rw[<-hl3];simp -dsimp only[aw,jV,jW,jX,jY,jZ,jA,reduceIte,reduceCtorEq,jB,jC,jD,jE,jF,jG];refine aR S3 hlt2 (gn _ _) hx (mS H hlt2 _ (al S3.at_ _)) (fun s a3 hx h7 h8 h9 hy σ4 S4 hl4=>?_) (fun e n b hx σ1 S1 hl1=>?_)
 case refine_2=>
  rw[<-hl1];simp -dsimp only[aw,jV,jW,jX,jY,jZ,jA,reduceIte,reduceCtorEq,jB,jC,jD,jE,jF,jG];exact aD S1 hx
 rw[<-hl4];simp -dsimp only[aw,jV,jW,jX,jY,jZ,jA,reduceIte,reduceCtorEq,jB,jC,jD,jE,jF,jG];refine bI (by omega) ?_;simp -dsimp only[aw,jV,jW,jX,jY,jZ,jA,reduceIte,reduceCtorEq,jB,jC,jD,jE,jF,jG];have hlt4:a1+1<a3:=by unfold gS at h9;rw[TZ]at h9;omega
 refine⟨by omega,Nxt.same (by simp) (ax S4.bb rfl) (by simp[aq,V.under,S4.len];exact S4.lt) ⟨a3,l++[s],σ4,by simp,rfl,S4,by rw[hl4,hl3,hl2],h8,by simp;omega,by omega,hx⟩⟩
end
end Go.Proofs.YtnhphlmblenapaaGreatDoor
