import Derived.Test.YtnhphlmblenapaaGreatDoorPm11
set_option linter.unusedVariables false
set_option linter.unusedSimpArgs false
set_option linter.unusedSectionVars false
set_option maxHeartbeats 4000000
open Bool renaming false_eq_true->TJ,and_eq_true->TK
open ByteArray renaming size_append->TL,append_assoc->TM
open List renaming getElem?_eq_getElem->TN,length_set->TO,take_left->TP,length_drop->TQ,getElem?_append_right->TR,set_append_right->TS,append_nil->TT,suffix_refl->TU,drop_eq_nil_of_le->TV,getElem?_eq_none->TW,drop_eq_getElem_cons->TX,map_cons->TY,getElem?_set_self->TZ,getElem?_set_ne->T0,getElem_mem->T1,set_comm->T3
open Nat renaming add_sub_cancel_left->T4,le_refl->T5,sub_self->T6
open Option renaming map_some->T7,map_none->T8
namespace Go.Proofs.YtnhphlmblenapaaGreatDoor
open Go.RowKit
theorem zl(e:Ex):gM e=0\/gM e=1\/gM e=7:=by
 induction e using Ex.ind with
 | h o n s l ih=>
 have hl:∀l:List Ex,(∀a,a∈l->gM a=0\/gM a=1\/gM a=7)->j9 l=0\/j9 l=1\/j9 l=7:=by
  intro l
  induction l with
  | nil=>intro _;exact .inl rfl
  | cons a r ihr=>
   intro h;simp only[j9];split
   .exact ihr fun b hb=>h b (by simp[hb])
   .exact h a (by simp)
 have hn:aO o n s l.length=0\/aO o n s l.length=1\/aO o n s l.length=7:=by
  unfold aO;repeat' split
  all_goals simp
 simp only[gM];split
 .exact hl l ih
 .exact hn
theorem m8(e:Ex):bB e=0\/bB e=1\/bB e=2\/bB e=7:=by
 have:=zl e;unfold bB;split<;>omega
theorem mN(σ:LLV)(i k:Nat)(X:List V)(l:LLV):(σ.set i X++l)[σ.length+k]? = l[k]? := by
 rw[TR (by rw[TO];omega),TO,T4]
theorem mD(σ:LLV)(i k:Nat)(X Z:List V)(l:LLV):(σ.set i X++l).set (σ.length+k) Z=σ.set i X++l.set k Z:=by
 rw[TS _ _ (by rw[TO];omega),TO,T4]
theorem eD(σ:LLV)(i:Nat)(X Y:List V)(l:LLV):(σ.set i X++Y::l)[σ.length]? = some Y:=by
 rw[TR (by rw[TO];exact T5 _),TO,T6];rfl
theorem ik(σ:LLV)(i:Nat)(X Y Z:List V)(l:LLV):(σ.set i X++Y::l).set σ.length Z=σ.set i X++Z::l:=by
 rw[TS _ _ (by rw[TO];exact T5 _),TO,T6];rfl
section
variable {ts : List Tok} {a : Nat} (H : TsV ts)
include H
theorem fv:(∀t,ts[a]? = some t->t.kind=3->cB (ts.drop a)=some (t.num,ts.drop (a+1)))/\((∀t,ts[a]? = some t->t.kind≠3)->cB (ts.drop a)=none):=by
 by_cases h:a<ts.length
 .rw[TN h,TX h];refine⟨fun t e hk=>?_,fun hn=>?_⟩
  .cases e;simp only[cB];rw[if_pos ⟨H.v _ (T1 h),hk⟩]
  .simp only[cB];rw[if_neg fun hc=>hn _ rfl hc.2]
 .rw[TW (by omega),TV (by omega)];exact⟨fun t e=>(by cases e),fun _=>rfl⟩
theorem iI:(∀t,ts[a]? = some t->t.kind=1->bW (ts.drop a)=some (t.text,ts.drop (a+1)))/\((∀t,ts[a]? = some t->t.kind≠1)->bW (ts.drop a)=none):=by
 by_cases h:a<ts.length
 .rw[TN h,TX h];refine⟨fun t e hk=>?_,fun hn=>?_⟩
  .cases e;simp only[bW];rw[if_pos ⟨H.v _ (T1 h),hk⟩]
  .simp only[bW];rw[if_neg fun hc=>hn _ rfl hc.2]
 .rw[TW (by omega),TV (by omega)];exact⟨fun t e=>(by cases e),fun _=>rfl⟩
end
def Dp(ts:List Tok)(a i:Nat)(k:Int)(σ:LLV):Out->LLV->Prop:=fun o σ'=>
 (∃t,ts[a]? = some t/\t.kind=k/\o=.ret (ea t)/\σ'=σ.set i (pb ts (a+1)))\/((∀t,ts[a]? = some t->t.kind≠k)/\o=.panic (dU (bQ ts a) (lnA ts a))/\σ'=σ)
theorem sM(ts:List Tok)(a i:Nat)(k:Int)(H:TsV ts)(ha:a≤ts.length)(σ:LLV)(hi:σ[i]? = some (pb ts a)):
 Fun G 139 [.ptr i 0,.d (ab k)] σ (Dp ts a i k σ):=by
 refine ae Tryz.func139 TB rfl fun hb hw=>?_;unfold MW;have hM:=fun l=>jg ts a i (σ++l) (ah hi l);have hF:=fun l=>jt ts a i H ha (σ++l) (ah hi l);have hl:=H.ok.len;have hil:=(List.getElem?_eq_some_iff.1 hi).1;have hio:=fun l=>ah hi l;have hso:=fun X l=>be hi X l;unfold pb at hi hio
 have panic:∀(l:LLV),(∀t,ts[a]? = some t->t.kind≠k)->∀(rs:List RV) (ρ:aj),fin σ.length rs (Dp ts a i k σ) (.panic (dU (bQ ts a) (lnA ts a))) ρ (σ++l):=fun l hk rs ρ=>
  ⟨σ.length,T5 _,by rw[TP];exact hb,rfl,.inr ⟨hk,rfl,TP⟩⟩
 simp -dsimp only[aw,seval];refine bo (hM _) ?_;by_cases hlt:a<ts.length
 .by_cases hk:ts[a].kind=k
  .have hw1:IntKind.i64.wrap (((a:Nat):Int)+1)=((a+1:Nat):Int):=by rw[aA (by omega) (by omega)];omega
   have hw2:IntKind.i64.wrap (((a+1:Nat):Int)-1)=((a:Nat):Int):=by rw[aA (by omega) (by omega)];omega
   have hs1:=fun l=>ah (TZ (a:=pb ts (a+1)) hil) l;unfold pb at hs1;simp -dsimp only[aw,seval,hio,decide_eq_true hlt,TN hlt,bG,di,hk,hw1,hw2,decide_true,hso,hs1,eD,ik];refine bp (σ:=σ) (Q:=Dp ts a i k σ) (τ:=σ.set i (pb ts (a+1))) (v:=ea ts[a]) (bq hb rfl) ?_ rfl ?_ (.inl ⟨ts[a],TN hlt,hk,rfl,rfl⟩)
   .simp[Jc,aC,aQ,ea,hk,aw,seval]
   .simp[pb]
  .simp -dsimp only[aw,seval,hio,decide_eq_true hlt,TN hlt,bG,di,decide_eq_false hk];refine aB (hF _) fun o σ' ⟨e1,e2⟩=>?_;subst e1;subst e2;simp -dsimp only[aw,seval,bi];exact panic _ (fun t ht=>by rw[TN hlt]at ht;cases ht;exact hk) _ _
 .simp -dsimp only[aw,seval,hio,decide_eq_false hlt];refine aB (hF _) fun o σ' ⟨e1,e2⟩=>?_;subst e1;subst e2;simp -dsimp only[aw,seval,bi];exact panic _ (fun t ht=>by rw[TW (by omega)]at ht;cases ht) _ _
theorem rG{σ σ' τ:LLV}{ρ:aj}{rs:List RV}{Q:Out->LLV->Prop}(hb:am σ.length τ=true){v:V}(h:aC σ' ρ rs=some v)(hv:V.under σ.length v=true)(hσ:σ'.take σ.length=τ)(hq:Q (.ret v) τ):fin σ.length rs Q .normal ρ σ':=
 ⟨ρ,σ',.refl _ _ _,v,h,σ.length,T5 _,by rw[hσ];exact hb,hv,by rw[hσ];exact hq⟩
def CQ{α:Type}(mk:α->V)(ts:List Tok)(i:Nat)(σ:LLV)(y:CP α):Out->LLV->Prop:=fun o σ'=>match y with
 | .out=>False
 | .bad e n=>o=.panic (dU e n)/\∃b,σ'=σ.set i (pb ts b)
 | .ok v r=>o=.ret (mk v)/\σ'=σ.set i (pb ts (ts.length-r.length))
section
variable {α : Type} {mk : α -> V} {σ0 σ : LLV} {i : Nat} {ts : List Tok} {a : Nat} {l : LLV} {K P : V -> LLV -> Prop} {s : Tag K} {t : Tag P} {f : FuncId} {args : List V} {y : CP α}
theorem kX{ts r:List Tok}{a:Nat}(ha:a≤ts.length)(h:r <:+ ts.drop a):r=ts.drop (ts.length-r.length)/\a≤ts.length-r.length/\ts.length-r.length≤ts.length:=by
 have h1:=h.length_le;rw[TQ]at h1;exact⟨xf (h.trans (List.drop_suffix a ts)),by omega,by omega⟩
theorem Kv{sz:α->Nat}{c:Nat}(S:St σ0 i ts a σ)(ha:a≤ts.length)(hT:Tk sz c (ts.drop a) y)(h:Fun G f args (σ++l) (CQ mk ts i (σ++l) y))(ht:∀v a2,y=.ok v (ts.drop a2)->a≤a2->a2≤ts.length->sz v+(ts.length-a2)≤c->∀σ',St σ0 i ts a2 σ'->σ'.length=σ.length->K (mk v) (σ'++l))(hf:∀e n b,y=.bad e n->∀σ',St σ0 i ts b σ'->σ'.length=σ.length->P (dU e n) (σ'++l)):
 fk G f args (σ++l) K P s t:=by
 refine aB h fun o σ' hq=>?_;cases y with
 | out=>exact hT.elim
 | bad e n=>
  obtain⟨rfl,b,rfl⟩:=hq;rw[be S.at_,bi];exact hf e n b rfl _ (S.step _) (S.slen _)
 | ok v r=>
  obtain⟨rfl,rfl⟩:=hq;obtain⟨h1,h2,h3⟩:=kX ha hT.1;rw[be S.at_,aR];exact ht v _ (by rw[<-h1]) h2 h3 (by have:=hT.2;rw[h1,TQ]at this;omega) _ (S.step _) (S.slen _)
theorem cE{rs:List RV}{ρ:aj}{v:α}(S:St σ0 i ts a σ)(ha:a≤ts.length)(hy:y=.ok v (ts.drop a))(hu:V.under σ.length (mk v)=true)(h:aC (σ++l) ρ rs=some (mk v)):fin σ.length rs (CQ mk ts i σ0 y) .ret ρ (σ++l):=by
 subst hy;exact bp (τ:=σ) S.bb h hu TP ⟨rfl,by rw[iE ts a ha];exact S.eq⟩
theorem aS{rs:List RV}{ρ:aj}{e n:Int}(S:St σ0 i ts a σ)(hy:y=.bad e n):fin σ.length rs (CQ mk ts i σ0 y) (.panic (dU e n)) ρ (σ++l):=by
 subst hy;exact⟨σ.length,T5 _,by rw[TP];exact S.bb,rfl,by rw[TP];exact⟨rfl,a,S.eq⟩⟩
theorem nU{rs:List RV}{ρ:aj}{b:Nat}(S:St σ0 i ts a σ)(hy:y=jc (zLs ts) (ts.drop b)):fin σ.length rs (CQ mk ts i σ0 y) (.panic (dU (bQ ts b) (lnA ts b))) ρ (σ++l):=aS S (by rw[hy,nN])
end
section
variable {σ0 σ : LLV} {i : Nat} {ts : List Tok} {a : Nat} (H : TsV ts) {l : LLV} {K P : V -> LLV -> Prop} {s : Tag K} {t : Tag P}
include H
theorem Jq{f:FuncId}{m:ByteArray}(S:St σ0 i ts a σ)(h:Fun G f [.ptr i 0,.d (ai m)] (σ++l) fun o σ'=>o=.ret (ao (ax m ts a))/\σ'=if ax m ts a=true then(σ++l).set i (pb ts (a+1))else σ++l)
 (ht:acc m (ts.drop a)=some (ts.drop (a+1))->a<ts.length->∀σ',St σ0 i ts (a+1) σ'->σ'.length=σ.length->K (ao true) (σ'++l))(hf:acc m (ts.drop a)=none->K (ao false) (σ++l)):fk G f [.ptr i 0,.d (ai m)] (σ++l) K P s t:=by
 refine aB h fun o σ' ⟨e1,e2⟩=>?_;subst e1;rw[aR];cases hs:ax m ts a with
 | true=>
  rw[hs,if_pos rfl,be S.at_]at e2;subst e2;exact ht (by rw[aT,hs,if_pos rfl]) (bv hs) _ (S.step _) (S.slen _)
 | false=>
  rw[hs,if_neg (by decide)]at e2;subst e2;exact hf (by rw[aT,hs,if_neg (by decide)])
theorem kq{m:ByteArray}(hm:bO (tw m)=false)(S:St σ0 i ts a σ)(ha:a≤ts.length)(ht:acc m (ts.drop a)=some (ts.drop (a+1))->a<ts.length->∀σ',St σ0 i ts (a+1) σ'->σ'.length=σ.length->K (ao true) (σ'++l))(hf:acc m (ts.drop a)=none->K (ao false) (σ++l)):
 fk G 121 [.ptr i 0,.d (ai m)] (σ++l) K P s t:=Jq H S (AQ m ts a i H ha hm _ (ah S.at_ l)) ht hf
theorem g8{m:ByteArray}(hm:bO (tm m)=false)(S:St σ0 i ts a σ)(ha:a≤ts.length)(ht:acc m (ts.drop a)=some (ts.drop (a+1))->a<ts.length->∀σ',St σ0 i ts (a+1) σ'->σ'.length=σ.length->K (ao true) (σ'++l))(hf:acc m (ts.drop a)=none->K (ao false) (σ++l)):
 fk G 60 [.ptr i 0,.d (ai m)] (σ++l) K P s t:=Jq H S (CT m ts a i H ha hm _ (ah S.at_ l)) ht hf
omit H in
theorem tD{α:Type}{z:Int}{m:ByteArray}{r r1:List Tok}{k:List Tok->CP α}(h:acc m r=some r1):bR z m r k=k r1:=by unfold bR;rw[h]
omit H in
theorem sK{α:Type}{z:Int}{m:ByteArray}{r:List Tok}{k:List Tok->CP α}(h:acc m r=none):bR z m r k=jc z r:=by unfold bR;rw[h]
omit H in
theorem dh{α:Type}{m:ByteArray}{r r1:List Tok}{k:List Tok->CP α}{n:CP α}(h:acc m r=some r1):dF m r k n=k r1:=by unfold dF;rw[h]
omit H in
theorem cv{α:Type}{m:ByteArray}{r:List Tok}{k:List Tok->CP α}{n:CP α}(h:acc m r=none):dF m r k n=n:=by unfold dF;rw[h]
omit H in
theorem CI{α:Type}{z:Int}{r r1:List Tok}{x:ByteArray}{k:ByteArray->List Tok->CP α}(h:bW r=some (x,r1)):dK z r k=k x r1:=by unfold dK;rw[h]
omit H in
theorem Be{α:Type}{z:Int}{r:List Tok}{k:ByteArray->List Tok->CP α}(h:bW r=none):dK z r k=jc z r:=by unfold dK;rw[h]
omit H in
theorem Gp{α:Type}{z:Int}{r r1:List Tok}{x:Int}{k:Int->List Tok->CP α}(h:cB r=some (x,r1)):fT z r k=k x r1:=by unfold fT;rw[h]
omit H in
theorem FF{α:Type}{z:Int}{r:List Tok}{k:Int->List Tok->CP α}(h:cB r=none):fT z r k=jc z r:=by unfold fT;rw[h]
omit H in
theorem eV{f:FuncId}{args:List V}{τ:LLV}(h:fk G f args (τ++[]) K P s t):fk G f args τ K P s t:=by rwa[TT]at h
theorem ca(m:ByteArray)(ha:a≤ts.length)(hm:bO (tw m)=false)(σ:LLV)(hi:σ[i]? = some (pb ts a)):
 Fun G 84 [.ptr i 0,.d (ai m)] σ (CQ (fun _:Unit=>.tup []) ts i σ (bR (zLs ts) m (ts.drop a) fun r=>.ok () r)):=by
 refine ae Tryz.func84 k84 rfl fun hb hw=>?_;have S:=St.init hi hb;unfold c84;simp -dsimp only[aw,seval];refine eV (kq H hm S ha (fun hs hlt σ1 S1 hl1=>?_) (fun hs=>?_))
 .rw[tD hs,<-hl1];simp -dsimp only[aw,seval];exact cE (v:=()) S1 hlt rfl rfl rfl
 .rw[sK hs];simp -dsimp only[aw,seval];refine aB (jt ts a i H ha _ (ah hi _)) fun o σ' ⟨e1,e2⟩=>?_;subst e1;subst e2;simp -dsimp only[aw,seval,bi];exact nU S rfl
theorem oC(m:ByteArray)(ha:a≤ts.length)(hm:bO (tm m)=false)(σ:LLV)(hi:σ[i]? = some (pb ts a)):
 Fun G 82 [.ptr i 0,.d (ai m)] σ (CQ (fun _:Unit=>.tup []) ts i σ (bR (zLs ts) m (ts.drop a) fun r=>.ok () r)):=by
 refine ae Tryz.func82 k82 rfl fun hb hw=>?_;have S:=St.init hi hb;unfold c82;simp -dsimp only[aw,seval];refine eV (g8 H hm S ha (fun hs hlt σ1 S1 hl1=>?_) (fun hs=>?_))
 .rw[tD hs,<-hl1];simp -dsimp only[aw,seval];exact cE (v:=()) S1 hlt rfl rfl rfl
 .rw[sK hs];simp -dsimp only[aw,seval];refine aB (jt ts a i H ha _ (ah hi _)) fun o σ' ⟨e1,e2⟩=>?_;subst e1;subst e2;simp -dsimp only[aw,seval,bi];exact nU S rfl
end
def iP(n:Nat)(r:List Tok):Ex×Int×Int:=match par .W r with
 | .bad c r=>(z0,((n-r.length:Nat):Int),c)
 | .ok e r=>if bB e=0 then(e,((n-r.length:Nat):Int),0)else(z0,0,bB e)
 | .out=>(z0,0,0)
theorem gE(e:Ex)(n c:Int):iu (e,n,c)=.tup [.agg [.d (ab e.op),.d (ab e.num),.d (ai e.name),.d (.sl (e.args.map dex))],.d (ab n),.d (ab c)]:=by unfold iu;rw[au]
theorem Bx(ts:List Tok)(H:TsOK ts)(a:Nat)(ha:a≤ts.length)(σ:LLV):Fun G 176 [.d (.sl (ts.map di)),.d (ab a)] σ (aN (iu (iP ts.length (ts.drop a))) σ):=by
 refine ae Tryz.func176 Sd rfl fun hb hw=>?_;unfold Nc;have hA:=fun σ=>wY ts H a ha σ;have hL:=H.len;have d0:decide (((a:Nat):Int)<0)=false:=by rw[decide_eq_false_iff_not];omega
 have d1:decide (((ts.length:Nat):Int)<((a:Nat):Int))=false:=by rw[decide_eq_false_iff_not];omega
 simp -dsimp only[aw,seval,d0,d1];refine ac (hA _) ?_;cases hx:par .W (ts.drop a)with
 | out=>exact absurd hx (fA _ _)
 | bad c r=>
  have hT:iP ts.length (ts.drop a)=(z0,((ts.length-r.length:Nat):Int),c):=by unfold iP;rw[hx]
  have dc:=decide_eq_false (pO hx).1;rw[hT];simp -dsimp only[aw,seval,F5,au,bt,aU,aH,aI,dc];exact az hb (v:=iu (z0,((ts.length-r.length:Nat):Int),c)) (by unfold iu;rw[jQ];simp[zH,aC,bZ,aQ,aw,seval]) (by unfold iu;rw[jQ];rfl) TP ⟨rfl,rfl⟩
 | ok e r=>
  have hsz:=wK hx;rw[TQ]at hsz;have hv:=oD e (by omega) (by have:=mY e;omega);by_cases h0:bB e=0
  .have hT:iP ts.length (ts.drop a)=(e,((ts.length-r.length:Nat):Int),0):=by unfold iP;rw[hx];simp[h0]
   rw[hT];simp -dsimp only[aw,seval,F5,au];refine ac (by simpa only[au]using hv _) ?_;simp -dsimp only[aw,seval,decide_eq_true h0];exact az hb (v:=iu (e,((ts.length-r.length:Nat):Int),0)) (by unfold iu;rw[au];simp[zH,aC,bZ,aQ,aw,seval]) (by unfold iu;rw[au];rfl) TP ⟨rfl,rfl⟩
  .have hT:iP ts.length (ts.drop a)=(z0,0,bB e):=by unfold iP;rw[hx];simp[h0]
   rw[hT];simp -dsimp only[aw,seval,F5,au];refine ac (by simpa only[au]using hv _) ?_;simp -dsimp only[aw,seval,decide_eq_false h0];exact az hb (v:=iu (z0,0,bB e)) (by unfold iu;rw[jQ];simp[zH,aC,bZ,aQ,aw,seval]) (by unfold iu;rw[jQ];rfl) TP ⟨rfl,rfl⟩
end Go.Proofs.YtnhphlmblenapaaGreatDoor
namespace Go.Proofs.YtnhphlmblenapaaGreatDoor
open Go.RowKit
section
variable {α β : Type} {z : Int} {r : List Tok}
theorem oF{k:β->List Tok->CP α}:(jc z r:CP β).bind k=jc z r:=by cases r<;>rfl
theorem bind_assoc{γ:Type}{y:CP β}{f:β->List Tok->CP γ}{g:γ->List Tok->CP α}:(y.bind f).bind g=y.bind fun v r=>(f v r).bind g:=by cases y<;>rfl
theorem gj(k:ByteArray->List Tok->CP α):dK z r k=(dK z r .ok).bind k:=by unfold dK;cases bW r with|some p=>rfl|none=>exact oF.symm
theorem kD(k:Int->List Tok->CP α):fT z r k=(fT z r .ok).bind k:=by unfold fT;cases cB r with|some p=>rfl|none=>exact oF.symm
theorem bL{m:ByteArray}(k:List Tok->CP α):bR z m r k=(bR z m r fun r=>.ok () r).bind fun _ r=>k r:=by unfold bR;cases acc m r with|some p=>rfl|none=>exact oF.symm
theorem wG(k:Ex->List Tok->CP α):exC z r k=(exC z r .ok).bind k:=by
 unfold exC;cases par .W r with
 | out=>rfl
 | bad c q=>rfl
 | ok e q=>
  simp only;split<;>rfl
theorem iG(r:List Tok):Tk gr r.length r (dK z r .ok):=iT (TU _) fun s r1 h1 l1=>⟨h1,by unfold gr;omega⟩
theorem jN(r:List Tok):Tk gr r.length r (fT z r .ok):=kH (TU _) fun s r1 h1 l1=>⟨h1,by unfold gr;omega⟩
theorem cf{m:ByteArray}(r:List Tok):Tk gr r.length r (bR z m r fun r=>.ok () r):=cH (TU _) fun r1 h1 l1=>⟨h1,by unfold gr;omega⟩
theorem Dz(r:List Tok):Tk bD r.length r (exC z r .ok):=ve (TU _) fun e r1 _ h1 l1=>⟨h1,by omega⟩
theorem HA{r r1:List Tok}{s:ByteArray}(h:(dK z r .ok:CP ByteArray)=.ok s r1):bW r=some (s,r1):=by
 unfold dK at h;cases hp:bW r with
 | none=>rw[hp]at h;exact absurd h (by cases r<;>(intro h;cases h))
 | some p=>
  obtain⟨s',q⟩:=p;rw[hp]at h;simp only[CP.ok.injEq]at h;obtain⟨rfl,rfl⟩:=h;rfl
theorem D9{r r1:List Tok}{s:Int}(h:(fT z r .ok:CP Int)=.ok s r1):cB r=some (s,r1):=by
 unfold fT at h;cases hp:cB r with
 | none=>rw[hp]at h;exact absurd h (by cases r<;>(intro h;cases h))
 | some p=>
  obtain⟨s',q⟩:=p;rw[hp]at h;simp only[CP.ok.injEq]at h;obtain⟨rfl,rfl⟩:=h;rfl
end
section
variable {α β : Type} {mk : β -> V} {σ0 σ : LLV} {i : Nat} {ts : List Tok} {a : Nat} {l : LLV} {K P : V -> LLV -> Prop} {s : Tag K} {t : Tag P} {f : FuncId} {args : List V} {y : CP β} {x : CP α} {k : β -> List Tok -> CP α} {sz : β -> Nat} {c : Nat}
theorem aX(S:St σ0 i ts a σ)(ha:a≤ts.length)(hT:Tk sz c (ts.drop a) y)(hx:x=y.bind k)(h:Fun G f args (σ++l) (CQ mk ts i (σ++l) y))(ht:∀v a2,x=k v (ts.drop a2)->a≤a2->a2≤ts.length->sz v+(ts.length-a2)≤c->y=.ok v (ts.drop a2)->∀σ',St σ0 i ts a2 σ'->σ'.length=σ.length->K (mk v) (σ'++l))(hf:∀e n b,x=.bad e n->∀σ',St σ0 i ts b σ'->σ'.length=σ.length->P (dU e n) (σ'++l)):
 fk G f args (σ++l) K P s t:=
 Kv S ha hT h (fun v a2 hy h1 h2 h3=>ht v a2 (by rw[hx,hy];rfl) h1 h2 h3 hy) fun e n b hy=>hf e n b (by rw[hx,hy];rfl)
end
section
variable {ts : List Tok} {a i : Nat} (H : TsV ts) (ha : a ≤ ts.length) (σ : LLV) (hi : σ[i]? = some (pb ts a))
include H ha hi
theorem gi:Fun G 83 [.ptr i 0] σ (CQ (fun s=>.d (ai s)) ts i σ (dK (zLs ts) (ts.drop a) .ok)):=by
 refine ae Tryz.func83 k83 rfl fun hb hw=>?_;have S:=St.init hi hb;unfold c83;simp -dsimp only[aw,seval];refine aB (sM ts a i 1 H ha σ hi) fun o σ' hq=>?_;rcases hq with⟨t,h1,h2,rfl,rfl⟩|⟨h1,rfl,rfl⟩
 .have hlt:=(List.getElem?_eq_some_iff.1 h1).1;rw[CI ((iI H).1 t h1 h2)];simp -dsimp only[aw,seval,aR,ea];have:=cE (mk:=fun s=>.d (ai s)) (l:=[]) (rs:=Pp) (ρ:=[(2,.d (ai t.text))]) (v:=t.text) (S.step (a+1)) hlt rfl rfl rfl;rw[S.slen,TT]at this;exact this
 .rw[Be ((iI H).2 h1)];simp -dsimp only[aw,seval,bi];have:=fun ρ rs=>nU (mk:=fun s:ByteArray=>V.d (ai s)) (l:=[]) (rs:=rs) (ρ:=ρ) (b:=a) S rfl;rw[TT]at this;exact this _ _
theorem ei:Fun G 177 [.ptr i 0] σ (CQ (fun n=>.d (ab n)) ts i σ (fT (zLs ts) (ts.drop a) .ok)):=by
 refine ae Tryz.func177 Rb rfl fun hb hw=>?_;have S:=St.init hi hb;unfold Qc;simp -dsimp only[aw,seval];refine aB (sM ts a i 3 H ha σ hi) fun o σ' hq=>?_;rcases hq with⟨t,h1,h2,rfl,rfl⟩|⟨h1,rfl,rfl⟩
 .have hlt:=(List.getElem?_eq_some_iff.1 h1).1;rw[Gp ((fv H).1 t h1 h2)];simp -dsimp only[aw,seval,aR,ea];have:=cE (mk:=fun n=>.d (ab n)) (l:=[]) (rs:=I7) (ρ:=[(2,.d (ab t.num))]) (v:=t.num) (S.step (a+1)) hlt rfl rfl rfl;rw[S.slen,TT]at this;exact this
 .rw[FF ((fv H).2 h1)];simp -dsimp only[aw,seval,bi];have:=fun ρ rs=>nU (mk:=fun n:Int=>V.d (ab n)) (l:=[]) (rs:=rs) (ρ:=ρ) (b:=a) S rfl;rw[TT]at this;exact this _ _
theorem sZ:Fun G 118 [.ptr i 0] σ (CQ vex ts i σ (exC (zLs ts) (ts.drop a) .ok)):=by
 refine ae Tryz.func118 QV rfl fun hb hw=>?_;unfold Oz;have S:=St.init hi hb;have hT:=fun σ=>Bx ts H.ok a ha σ;have hL:=H.ok.len;have hil:=(List.getElem?_eq_some_iff.1 hi).1;have hio:=fun l=>ah hi l;have hso:=fun X l=>be hi X l;have hF:=fun e b hb l=>oE ts a b i e H hb (σ++l) (ah hi l);unfold exC;unfold iP at hT;unfold pb at hio hso;cases hx:par .W (ts.drop a)with
 | out=>exact absurd hx (fA _ _)
 | bad c r=>
  have hb3:=rh hx;have hbl:=(pO hx).2;rw[TQ]at hbl;rw[hx]at hT;simp only at hT ⊢;have htk:=ji .W (ts.drop a);rw[hx]at htk;have hln:lnR (zLs ts) r=lnA ts (ts.length-r.length):=by unfold lnA;rw[<-(kX ha htk).1]
  have hF:=fun l=>hF c (ts.length-r.length) (by omega) l;rw[hln];simp -dsimp only[aw,seval,hio];refine bo (hT _) ?_;simp -dsimp only[aw,seval,iu,au,z0,bt,aU,aH,aI];refine bg (bg (bo (hT _) ?_) ?_) ?_
  .simp -dsimp only[aw,seval,iu,au,z0,bt,aU,aH,aI]
  .simp -dsimp only[aw,seval,hio]
  have c0:c≠0:=by omega
  by_cases c5:c=5
  .subst c5;simp -dsimp only[aw,seval];refine aB (hF _) fun o σ' ⟨e1,e2⟩=>?_;subst e1;subst e2;simp -dsimp only[aw,seval,bi];exact aS S rfl
  by_cases c3:c=3
  .subst c3;simp -dsimp only[aw,seval];refine aB (hF _) fun o σ' ⟨e1,e2⟩=>?_;subst e1;subst e2;simp -dsimp only[aw,seval,bi];exact aS S rfl
  have c6:c=6:=by omega
  subst c6;simp -dsimp only[aw,seval];refine aB (hF _) fun o σ' ⟨e1,e2⟩=>?_;subst e1;subst e2;simp -dsimp only[aw,seval,bi];exact aS S rfl
 | ok e r=>
  have htk:=ji .W (ts.drop a);rw[hx]at htk;rw[hx]at hT;simp only at hT ⊢;by_cases hv:bB e=0
  .rw[if_pos hv]at hT ⊢;simp -dsimp only[aw,seval,hio];refine bo (hT _) ?_;simp -dsimp only[aw,seval,iu,au,z0,bt,aU,aH,aI];refine bg (bg (bo (hT _) ?_) ?_) ?_
   .simp -dsimp only[aw,seval,iu,au,z0,bt,aU,aH,aI]
   .simp -dsimp only[aw,seval,hio]
   have S1:=S.step (ts.length-r.length);simp -dsimp only[aw,seval,gE,hio,hso,eD,ik,mN,mD]
   have hfin:∀(x:LLV) (ρ:aj),aC (σ.set i (pb ts (ts.length-r.length))++x) ρ Ah=some (vex e)->fin σ.length Ah (CQ vex ts i σ (.ok e r)) .ret ρ (σ.set i (pb ts (ts.length-r.length))++x):=fun x ρ h=>by
    have:=cE (mk:=vex) (y:=.ok e r) S1 (by omega) (by rw[<-(kX ha htk.1).1]) (by rw[au];rfl) h;rwa[TO]at this
   unfold pb at hfin;refine hfin _ _ ?_;rw[au];simp[Ah,aC,aQ,aw,seval]
  .rw[if_neg hv]at hT ⊢;have hcd:=m8 e;have h6:¬bB e=6:=by omega
   have h5:¬bB e=5:=by omega
   have h3:¬bB e=3:=by omega
   simp -dsimp only[aw,seval,hio];refine bo (hT _) ?_;simp -dsimp only[aw,seval,iu,au,z0,bt,aU,aH,aI];refine bg (bg (bo (hT _) ?_) ?_) ?_
   .simp -dsimp only[aw,seval,iu,au,z0,bt,aU,aH,aI]
   .simp -dsimp only[aw,seval,hio]
   simp -dsimp only[aw,seval,decide_eq_false hv,decide_eq_false h6,decide_eq_false h5,decide_eq_false h3];exact aS S rfl
end
theorem At{ts:List Tok}{a:Nat}{n:Int}{r:List Tok}(h:cB (ts.drop a)=some (n,r)):0≤n/\n≤2147483647:=by
 by_cases hla:a<ts.length
 .rw[ez hla]at h;split at h
  .rename_i hv;cases h;have:=hv.1;unfold bO at this;rw[if_pos hv.2]at this;simp only[TK,decide_eq_true_eq]at this;exact⟨this.1.1,this.1.2⟩
  .cases h
 .rw[TV (by omega)]at h;cases h
theorem sU(s:ByteArray){n:Int}(h:0≤n):s++(⟨#[91]⟩++bs (Lib.itoa n)++⟨#[93]⟩)=gX s n:=by
 unfold gX Hj aa;rw[n8 h,TM];rfl
section
variable {ts : List Tok} {a i : Nat} (H : TsV ts) (ha : a ≤ ts.length) (σ : LLV) (hi : σ[i]? = some (pb ts a))
include H ha hi
theorem kM:Fun G 119 [.ptr i 0] σ (CQ (fun s=>.d (ai s)) ts i σ (gH (zLs ts) (ts.drop a))):=by
 refine ae Tryz.func119 RI rfl fun hb hw=>?_;have S:=St.init hi hb;obtain⟨x,hx⟩:∃x,x=gH (zLs ts) (ts.drop a):=⟨_,rfl⟩
 rw[<-hx];unfold gH at hx;rw[gj]at hx;unfold P8;simp -dsimp only[aw,seval];refine eV (aX S ha (iG _) hx (gi H ha _ (ah hi _)) (fun s a1 hx h1 h2 h3 hy σ1 S1 hl1=>?_) (fun e n b hx σ1 S1 hl1=>?_))
 case refine_2=>
  rw[<-hl1];simp -dsimp only[aw,seval];exact aS S1 hx
 have hs:=jz H.ok (HA hy);rw[<-hl1];simp -dsimp only[aw,seval];refine kq H (by decide +kernel) S1 h2 (fun hs2 hlt2 σ2 S2 hl2=>?_) (fun hs2=>?_)
 case refine_2=>
  rw[show(⟨#[91]⟩:ByteArray)=aa 91 from rfl]at hs2;rw[cv hs2]at hx;simp -dsimp only[aw,seval];exact cE S1 h2 hx rfl rfl
 rw[show(⟨#[91]⟩:ByteArray)=aa 91 from rfl]at hs2;rw[dh hs2,kD]at hx;rw[<-hl2];simp -dsimp only[aw,seval];refine aX S2 hlt2 (jN _) hx (ei H hlt2 _ (ah S2.at_ _)) (fun n a3 hx h4 h5 h6 hy σ3 S3 hl3=>?_) (fun e n b hx σ1 S1 hl1=>?_)
 case refine_2=>
  rw[<-hl1];simp -dsimp only[aw,seval];exact aS S1 hx
 have hn:=At (D9 hy);have hl10:=qd n hn.1 hn.2;have hI:=rm n (by omega) (by omega) (Nat.le_trans hl10 (by decide +kernel));rw[<-hl3];simp -dsimp only[aw,seval];refine ac (hI _) ?_;have hb10:(bs (Lib.itoa n)).size≤10:=by rw[aG];exact hl10
 have c1:(⟨#[91]⟩:ByteArray).size+(bs (Lib.itoa n)).size≤9223372036854775807:=by show 1+_≤_;omega
 have c2:((⟨#[91]⟩:ByteArray)++bs (Lib.itoa n)).size+(⟨#[93]⟩:ByteArray).size≤9223372036854775807:=by rw[TL];show 1+_+1≤_;omega
 have c3:s.size+((⟨#[91]⟩:ByteArray)++bs (Lib.itoa n)++⟨#[93]⟩).size≤9223372036854775807:=by rw[TL,TL];show s.size+(1+_+1)≤_;omega
 have c4:=sU s hn.1;rw[bL]at hx;simp -dsimp only[aw,seval,c1,c2,c3,c4];refine aX S3 h5 (cf _) hx (ca H (aa 93) h5 (by decide +kernel) _ (ah S3.at_ _)) (fun _ a4 hx h7 h8 h9 hy σ4 S4 hl4=>?_) (fun e n b hx σ1 S1 hl1=>?_)
 case refine_2=>
  rw[<-hl1];simp -dsimp only[aw,seval];exact aS S1 hx
 rw[<-hl4];simp -dsimp only[aw,seval];exact cE S4 h8 hx rfl rfl
theorem m5:Fun G 122 [.ptr i 0] σ (CQ (fun l=>.d (.sl (l.map fun s=>[ai s]))) ts i σ (gV (zLs ts) (ts.drop a))):=by
 refine ae Tryz.func122 Rw rfl fun hb hw=>?_;have S:=St.init hi hb;have hL:=H.ok.len;obtain⟨x,hx⟩:∃x,x=gV (zLs ts) (ts.drop a):=⟨_,rfl⟩
 rw[<-hx];unfold gV at hx;unfold Qr;simp -dsimp only[aw,seval];refine eV (aX S ha (gu _ _) hx (kM H ha _ (ah hi _)) (fun s a1 hx h1 h2 h3 hy σ1 S1 hl1=>?_) (fun e n b hx σ1 S1 hl1=>?_))
 case refine_2=>
  rw[<-hl1];simp -dsimp only[aw,seval];exact aS S1 hx
 rw[<-hl1];simp -dsimp only[aw,seval];refine aL [0,3] (R:=fun(j:Nat) ρ σ'=>∃(a1:Nat) (l:List ByteArray) (σ2:LLV),ρ=[(0,.ptr i 0),(3,.own 9 1 (l.map fun s=>[ai s]))]/\σ'=σ2++[]/\St σ i ts a1 σ2/\σ2.length=σ1.length/\a1≤ts.length/\l.length+j≤a1+1/\j≤a1/\x=fQ (fun l r=>(acc (aa 44) r).map fun r2=>(gH (zLs ts) r2).bind fun s r3=>.ok (l++[s]) r3) l (ts.drop a1)) ts.length ⟨a1,[s],σ1,rfl,rfl,S1,rfl,h2,by simp,by omega,hx⟩ ?_ _;rintro j ρ' σ' hj ⟨a1,l,σ2,rfl,rfl,S2,hl2,h4,h5,h6,hx⟩;rw[ng (lB (gu _)).eats]at hx;rw[<-hl2];simp -dsimp only[aw,seval];refine kq H (by decide +kernel) S2 h4 (fun hs2 hlt2 σ3 S3 hl3=>?_) (fun hs2=>?_)
 case refine_2=>
  rw[show(⟨#[44]⟩:ByteArray)=aa 44 from rfl]at hs2;simp only[hs2,T8]at hx;simp -dsimp only[aw,seval];exact cE S2 h4 hx rfl rfl
 rw[show(⟨#[44]⟩:ByteArray)=aa 44 from rfl]at hs2;simp only[hs2,T7,bind_assoc]at hx;rw[<-hl3];simp -dsimp only[aw,seval];refine aX S3 hlt2 (gu _ _) hx (kM H hlt2 _ (ah S3.at_ _)) (fun s a3 hx h7 h8 h9 hy σ4 S4 hl4=>?_) (fun e n b hx σ1 S1 hl1=>?_)
 case refine_2=>
  rw[<-hl1];simp -dsimp only[aw,seval];exact aS S1 hx
 rw[<-hl4];simp -dsimp only[aw,seval];refine bg (by omega) ?_;simp -dsimp only[aw,seval];have hlt4:a1+1<a3:=by unfold gr at h9;rw[TQ]at h9;omega
 refine⟨by omega,Nxt.same (by simp) (aq S4.bb rfl) (by simp[an,V.under,S4.len];exact S4.lt) ⟨a3,l++[s],σ4,by simp,rfl,S4,by rw[hl4,hl3,hl2],h8,by simp;omega,by omega,hx⟩⟩
end
end Go.Proofs.YtnhphlmblenapaaGreatDoor
namespace Go.Proofs.YtnhphlmblenapaaGreatDoor
open Go.RowKit
theorem ep(ρ:aj)(d t:Nat)(v:V):get (put ρ d v) t=if d=t then v else get ρ t:=by
 rw[cN];by_cases e:d=t
 .subst e;simp
 .rw[if_neg e,if_neg];exact fun h=>e h.symm
theorem GL{C:Cx}{n0:Nat}{l:List O}{es:List (List Nat)}{ρ:aj}{σ σ':LLV}{Q:bV}(hu:Up σ σ')(h:ib C n0 l es ρ σ' Q):ib C n0 l es ρ σ Q:=
 fun pr M0 bm0 w0 id ops n M bm tk a w hG hbm hok hes hl hs=>h pr M0 bm0 w0 id ops n M bm tk a w hG hbm hok hes hl (hs.up hu)
theorem Fn{cs:List V}{fo:Nat}(h:fo<cs.length)(x y:V):over (cs.set fo x) fo [y]=cs.set fo y:=by
 unfold over;rw[List.take_set_of_le (T5 _),List.drop_set_of_lt (by simp),List.set_eq_take_append_cons_drop,if_pos h];simp
abbrev Hy(b p o fo f:Nat)(ex:List V)(T k by_:Nat):List O:=[⟨some b,.fa fo (.t o),none⟩,⟨some (b+1),.ldo (.t b),none⟩,⟨some (b+2),.mv (.t p),none⟩,⟨some (b+3),.call f (.t (b+2)::ex.map .k),none⟩,⟨some (b+4),.mks T k [.t (b+3)],none⟩,⟨some (b+5),.app T k by_ (b+1) (.t (b+4)),none⟩,⟨some (b+6),.fa fo (.t o),none⟩,⟨none,.stoo (.t (b+6)) (b+5),none⟩]
abbrev es8:List (List Nat):=[[],[0],[],[2],[3],[1,4,3],[0,1,2,3,4,5],[6,5,5,0,1,2,3,4,5]]
section
variable {C : Cx} {n0 : Nat} (ρ0 : aj) (σ0 : LLV) (T k i o fo b : Nat) (cs : List V) (rows : LLD) (r : List D) (v : V) (P : List V)
def st8(S:Nat->Bool):aj:=
 put (put (put (put (put (put (put ρ0 b (if S 0 then .ptr o fo else get ρ0 b)) (b+1) (if S 5 then .d (.sl rows)else if S 1 then .own T k rows else get ρ0 (b+1))) (b+2) (if S 2 then .ptr i 0 else get ρ0 (b+2))) (b+3) (if S 3 then v else get ρ0 (b+3)))
  (b+4) (if S 4 then .d (.sl [r])else get ρ0 (b+4))) (b+5) (if S 7 then .d (.sl (rows++[r]))else if S 5 then .own T k (rows++[r])else get ρ0 (b+5))) (b+6) (if S 6 then .ptr o fo else get ρ0 (b+6))
def sg8(S:Nat->Bool):LLV:=
 if S 7 then(if S 3 then σ0.set i P else σ0).set o (cs.set fo (.own T k (rows++[r])))else if S 1 then(if S 3 then σ0.set i P else σ0).set o (cs.set fo (.d (.sl rows)))else if S 3 then σ0.set i P else σ0
theorem ki{f by_ p os:Nat}{ex:List V}{Q:bV}(lY:Bool)(PP:V->List V->Prop)(hp:get ρ0 p=.ptr i 0)(hob:get ρ0 os=.ptr o 0)(hpb:p<b)(hosb:os<b)(hio:i≠o)(ho:σ0[o]? = some cs)(hc:cs[fo]? = some (.own T k rows))
 (hf:∀σ,σ[i]? = σ0[i]? -> Fun C f (.ptr i 0::ex.map V.lend) σ fun out σ'=>if lY=true then out=.ret v/\σ'=σ.set i P else ∃u P',out=.panic u/\σ'=σ.set i P'/\PP u P')
 (hr:dw [v]=some [r])(hk:r.length=k)(hby:(rows.length+1)*by_≤140737488355328)
 (hq:lY=true->Q .normal (st8 ρ0 T k i o fo b rows r v fun _=>true) ((σ0.set i P).set o (cs.set fo (.own T k (rows++[r])))))
 (hpan:lY=false->∀u P' ρ' X,PP u P'->(X=cs\/X=cs.set fo (.d (.sl rows)))->Q (.panic u) ρ' ((σ0.set i P').set o X)):ib C n0 (Hy b p os fo f ex T k by_) es8 ρ0 σ0 Q:=by
 intro pr M0 bm0 w0 id ops n M bm tk a w hG hbm hok hes hl h;obtain⟨hlen,hget⟩:=jl hok;have hsz:ops.size=8:=by rw[<-Array.length_toList,<-hlen];rfl
 have hedge:∀(i:Nat) (o:Oper),ops.toList[i]? = some o->es8[i]? = some (aW o):=fun i o ho=>by rw[<-hes,List.getElem?_map,ho];rfl
 have hol:o<σ0.length:=(List.getElem?_eq_some_iff.1 ho).1;have hfl:fo<cs.length:=(List.getElem?_eq_some_iff.1 hc).1
 have hwant:∀(p:O) (o':Oper),okO C.tab n ops p o'=true->p.g=none->∀a:Act,Region.wanted o' (yielded ops a.tmps)=true:=by
  intro p o' hoo hg a;have hgd:=hoo;unfold okO at hgd;simp only[TK]at hgd;replace hgd:=hgd.2;rw[hg]at hgd;split at hgd
  .rename_i hg2;simp[Region.wanted,hg2]
  .rename_i e _;cases e
  .cases hgd
 have hext:∀S S':Nat->Bool,(∀j,j<ops.size->S j=S' j)->st8 ρ0 T k i o fo b rows r v S=st8 ρ0 T k i o fo b rows r v S'/\sg8 σ0 T k i o fo cs rows r P S=sg8 σ0 T k i o fo cs rows r P S'/\S 3=S' 3:=fun S S' hS=>by
  rw[hsz]at hS;unfold st8 sg8;rw[hS 0 (by omega),hS 1 (by omega),hS 2 (by omega),hS 3 (by omega),hS 4 (by omega),hS 5 (by omega),hS 6 (by omega),hS 7 (by omega)];exact⟨rfl,rfl,rfl⟩
 refine oK (M:=M) (bm:=bm) (tk:=tk) (st8 ρ0 T k i o fo b rows r v) (sg8 σ0 T k i o fo cs rows r P) (st8 ρ0 T k i o fo b rows r v fun _=>true) ((σ0.set i P).set o (cs.set fo (.own T k (rows++[r])))) (fun S=>lY=true\/S 3=false) (.inr rfl) (fun S S' hS hI=>by rw[<-(hext S S' hS).2.2];exact hI)
  (fun i o ho j hj=>?_) (fun S S' hS=>⟨fun t=>by rw[(hext S S' hS).1],(hext S S' hS).2.1⟩) hl ?_ (fun hI=>?_) (fun S j o' ho' hSj hclo hed hI M bm tk a w hl h=>?_)
 .have he:=hedge i o ho;have hi:i<8:=by have:=(List.getElem?_eq_some_iff.1 ho).1;simp at this;omega
  have key:∀i,i<8->∀l,es8[i]? = some l->∀j∈l,j<i:=by decide
  exact key i hi _ he j hj
 .refine h.congr fun t=>?_;unfold st8;simp only[TJ,if_false,ep];repeat' split
  all_goals first|rfl|(subst_vars;rfl)
 .rcases hI with hg|hg
  .exact⟨⟨fun t=>rfl,rfl⟩,hq hg⟩
  .cases hg
 .have he:=hedge j o' ho';have hj:j<8:=by have:=(List.getElem?_eq_some_iff.1 ho').1;simp at this;omega
  have hed:∀l,es8[j]? = some l->∀e∈l,S e=true:=fun l hl e hm=>by rw[hl]at he;cases he;exact hed e hm
  have hcl:∀q,q<8->j∈(es8[q]?.getD [])->S q=false:=fun q hq hm=>by
   cases hs:S q with
   | false=>rfl
   | true=>
    have h8:ops.toList[q]? = some (ops.toList[q]'(by rw[<-hlen];exact hq)):=TN _;rw[hedge q _ h8]at hm;have:=hclo q _ h8 hs j hm;rw[this]at hSj;cases hSj
  have g0:∀t,t<b->get (st8 ρ0 T k i o fo b rows r v S) t=get ρ0 t:=fun t ht=>by unfold st8;simp only[ep];rw[if_neg (by omega),if_neg (by omega),if_neg (by omega),if_neg (by omega),if_neg (by omega),if_neg (by omega),if_neg (by omega)]
  have gg:∀S t,get (st8 ρ0 T k i o fo b rows r v S) t=if b+6=t then(if S 6 then .ptr o fo else get ρ0 (b+6))else if b+5=t then(if S 7 then .d (.sl (rows++[r]))else if S 5 then .own T k (rows++[r])else get ρ0 (b+5))else if b+4=t then(if S 4 then .d (.sl [r])else get ρ0 (b+4))else if b+3=t then(if S 3 then v else get ρ0 (b+3))else if b+2=t then(if S 2 then .ptr i 0 else get ρ0 (b+2))else if b+1=t then(if S 5 then .d (.sl rows)else if S 1 then .own T k rows else get ρ0 (b+1))else if b=t then(if S 0 then .ptr o fo else get ρ0 b)else get ρ0 t:=fun S t=>by
   unfold st8;simp only[ep]
  have go:∀(p':O) ,(Hy b p os fo f ex T k by_)[j]? = some p'->p'.g=none->cU C p'.op p'.dst (st8 ρ0 T k i o fo b rows r v S) (sg8 σ0 T k i o fo cs rows r P S) (fun ρ' σ'=>(∀t,get ρ' t=get (st8 ρ0 T k i o fo b rows r v fun q=>q==j||S q) t)/\σ'=sg8 σ0 T k i o fo cs rows r P (fun q=>q==j||S q)/\(lY=true\/(j==3||S 3)=false)) Q->
   (if Region.wanted o' (yielded ops a.tmps)then o'.wp C.P a w (pD M bm pr w n fun ρ' σ'=>(∀t,get ρ' t=get (st8 ρ0 T k i o fo b rows r v fun q=>q==j||S q) t)/\σ'=sg8 σ0 T k i o fo cs rows r P (fun q=>q==j||S q)/\(lY=true\/(j==3||S 3)=false)) (bJ M bm pr w n Q)
   else SRel M bm tk pr (st8 ρ0 T k i o fo b rows r v fun q=>q==j||S q) (sg8 σ0 T k i o fo cs rows r P fun q=>q==j||S q) n (a.put o'.dst undef) w/\(lY=true\/(j==3||S 3)=false)):=by
   intro p' hp' hg hr;have hoo:=hget j p' o' hp' ho';rw[if_pos (hwant p' o' hoo hg a)];exact em (hG.mono hl) h hoo hr
  have xp:ev C (st8 ρ0 T k i o fo b rows r v S) (.t p)=.ptr i 0:=by rw[<-hp];exact g0 p hpb
  have xo:ev C (st8 ρ0 T k i o fo b rows r v S) (.t os)=.ptr o 0:=by rw[<-hob];exact g0 os hosb
  have fa:pv C (.fa fo (.t os)) (st8 ρ0 T k i o fo b rows r v S) (sg8 σ0 T k i o fo cs rows r P S)=some (.ptr o fo):=by simp[pv,xo,faV]
  have hj':j=0\/j=1\/j=2\/j=3\/j=4\/j=5\/j=6\/j=7:=by omega
  have hsl:(σ0.set i P).length=σ0.length:=TO;rcases hj' with rfl|rfl|rfl|rfl|rfl|rfl|rfl|rfl
  .refine go _ rfl rfl ?_;simp only[cU,fa,putd];refine⟨fun t=>?_,?_,by simpa using hI⟩
   .simp only[gg,ep,hSj];simp;grind
   .unfold sg8;simp
  .have s0:=hed _ rfl 0 (by simp);have s5:=hcl 5 (by omega) (by decide);have s7:=hcl 7 (by omega) (by decide);have x0:ev C (st8 ρ0 T k i o fo b rows r v S) (.t b)=.ptr o fo:=by show get _ b=_;rw[gg];simp[s0]
   have hσ:(sg8 σ0 T k i o fo cs rows r P S)[o]? = some cs:=by
    unfold sg8;rw[s7,hSj];cases S 3<;>simp[hio,ho]
   refine go _ rfl rfl ?_;simp only[cU,x0,hσ,hc,putd];refine⟨fun t=>?_,?_,by simpa using hI⟩
   .simp only[gg,ep,s5,hSj];simp;grind
   .unfold sg8;simp[s7,hSj]
  .refine go _ rfl rfl ?_;have:pv C (.mv (.t p)) (st8 ρ0 T k i o fo b rows r v S) (sg8 σ0 T k i o fo cs rows r P S)=some (.ptr i 0):=by show some (ev C _ (.t p)).copy=_;rw[xp];rfl
   simp only[cU,this,putd];refine⟨fun t=>?_,?_,by simpa using hI⟩
   .simp only[gg,ep,hSj];simp;grind
   .unfold sg8;simp
  .have s2:=hed _ rfl 2 (by simp);have s4:=hcl 4 (by omega) (by decide);have s5:=hcl 5 (by omega) (by decide);have s7:=hcl 7 (by omega) (by decide);have x2:ev C (st8 ρ0 T k i o fo b rows r v S) (.t (b+2))=.ptr i 0:=by show get _ (b+2)=_;rw[gg];simp[s2]
   refine go _ rfl rfl ?_
   have hσ:(sg8 σ0 T k i o fo cs rows r P S)[i]? = σ0[i]? := by
    unfold sg8;rw[s7,hSj];cases S 1<;>simp[Ne.symm hio]
   have hx:(ex.map X.k).map (fun x=>(ev C (st8 ρ0 T k i o fo b rows r v S) x).lend)=ex.map V.lend:=by rw[List.map_map];rfl
   simp only[cU,TY,hx,x2];show Fun C f (.ptr i 0::ex.map V.lend) _ _;refine(hf _ hσ).mono fun out σ' hx=>?_;cases hg:lY with
   | true=>
    rw[hg,if_pos rfl]at hx;obtain⟨rfl,rfl⟩:=hx;refine⟨fun t=>?_,?_,.inl rfl⟩
    .simp only[putd,gg,ep,hSj,s4,s5,s7];simp;grind
    .unfold sg8;rw[s7,hSj];cases hs1:S 1<;>simp[s7,hs1,T3 _ _ hio]
   | false=>
    rw[hg,if_neg (by simp)]at hx;obtain⟨u,P',rfl,rfl,hp⟩:=hx
    have e:∃X,(X=cs\/X=cs.set fo (.d (.sl rows)))/\(sg8 σ0 T k i o fo cs rows r P S).set i P'=(σ0.set i P').set o X:=by
     unfold sg8;rw[s7,hSj];cases S 1 with
     | true=>exact⟨_,.inr rfl,by simp[T3 _ _ hio]⟩
     | false=>
      refine⟨cs,.inl rfl,?_⟩;simp only[TJ,if_false];apply List.ext_getElem?;intro q;by_cases e:q=o
      .subst e;rw[T0 hio,ho,TZ (by simpa using hol)]
      .rw[T0 (Ne.symm e)]
    obtain⟨X,hX,e⟩:=e;rw[e];exact hpan hg u P' _ X hp hX
  .have s3:=hed _ rfl 3 (by simp);have x3:ev C (st8 ρ0 T k i o fo b rows r v S) (.t (b+3))=v:=by show get _ (b+3)=_;rw[gg];simp[s3]
   have hI':lY=true:=by rcases hI with h|h;exact h;rw[s3]at h;cases h
   refine go _ rfl rfl ?_;simp only[cU,TY,List.map_nil,x3,hr,List.all_cons,List.all_nil,hk,putd];refine⟨by simp,fun t=>?_,?_,.inl hI'⟩
   .simp only[gg,ep,hSj];simp;grind
   .unfold sg8;simp
  .have s1:=hed _ rfl 1 (by simp);have s4:=hed _ rfl 4 (by simp);have s3:=hed _ rfl 3 (by simp);have s7:=hcl 7 (by omega) (by decide);have hI':lY=true:=by rcases hI with h|h;exact h;rw[s3]at h;cases h
   have x1:get (st8 ρ0 T k i o fo b rows r v S) (b+1)=.own T k rows:=by rw[gg];simp[s1,hSj]
   have x4:fw (ev C (st8 ρ0 T k i o fo b rows r v S) (.t (b+4)))=some [r]:=by
    have:ev C (st8 ρ0 T k i o fo b rows r v S) (.t (b+4))=.d (.sl [r]):=by show get _ (b+4)=_;rw[gg];simp[s4]
    rw[this];rfl
   refine go _ rfl rfl ?_;simp only[cU,x1,x4,putd];refine⟨⟨trivial,trivial,by simp[hk],by simpa using hby⟩,fun t=>?_,?_,.inl hI'⟩
   .simp only[gg,ep,s7,hSj];simp;grind
   .unfold sg8;simp
  .refine go _ rfl rfl ?_;simp only[cU,fa,putd];refine⟨fun t=>?_,?_,by simpa using hI⟩
   .simp only[gg,ep,hSj];simp;grind
   .unfold sg8;simp
  .have s1:=hed _ rfl 1 (by simp);have s5:=hed _ rfl 5 (by simp);have s3:=hed _ rfl 3 (by simp);have s6:=hed _ rfl 6 (by simp);have hI':lY=true:=by rcases hI with h|h;exact h;rw[s3]at h;cases h
   have x5:get (st8 ρ0 T k i o fo b rows r v S) (b+5)=.own T k (rows++[r]):=by rw[gg];simp[s5,hSj]
   have x6:ev C (st8 ρ0 T k i o fo b rows r v S) (.t (b+6))=.ptr o fo:=by show get _ (b+6)=_;rw[gg];simp[s6]
   have hσ:(sg8 σ0 T k i o fo cs rows r P S)[o]? = some (cs.set fo (.d (.sl rows))):=by
    unfold sg8;simp[hSj,s1,s3,hol]
   refine go _ rfl rfl ?_;simp only[cU,x6,x5,hσ];refine⟨⟨by simpa using hfl,?_⟩,fun t=>?_,?_,.inl hI'⟩
   .exact C7 _ hfl
   .simp only[gg,ep,s5,hSj];simp;grind
   .unfold sg8;simp[hSj,s1,s3,Fn hfl]
end
end Go.Proofs.YtnhphlmblenapaaGreatDoor
namespace Go.Proofs.YtnhphlmblenapaaGreatDoor
open Go.RowKit
def Mid(R:aj->LLV->Prop)(ρ:aj)(σ:LLV)(_:Tag R):Prop:=R ρ σ
theorem Mid.mk{R:aj->LLV->Prop}{ρ:aj}{σ:LLV}(h:R ρ σ):Mid R ρ σ .mk:=h
def fN:Nat->Cd->Cd×Cd
 | n+1,.seq a b=>(.seq a (fN n b).1,(fN n b).2)
 | _,c=>(.skip,c)
theorem AC{C:Cx}{n0:Nat}{Q:bV}:∀(n:Nat) (c:Cd) (ρ:aj) (σ:LLV),awp C n0 (fN n c).1 ρ σ (andThen (fun ρ σ=>awp C n0 (fN n c).2 ρ σ Q) Q)->awp C n0 c ρ σ Q
 | 0,c,ρ,σ,h=>by simpa only[fN,awp,andThen]using h
 | n+1,c,ρ,σ,h=>by
  cases c with
  | seq a b=>
   simp only[fN,awp]at h ⊢;refine jd (fun e ρ' σ' h=>?_) h;cases e with
   | normal=>exact AC n b ρ' σ' h
   | _=>exact h
  | _=>simpa only[fN,awp,andThen]using h
theorem eW{C:Cx}{n0:Nat}{c:Cd}{ρ:aj}{σ:LLV}{Q:bV}{t:Tag Q}(n:Nat)(R:aj->LLV->Prop)(h1:eQ C n0 (fN n c).1 ρ σ (andThen (fun ρ σ=>Mid R ρ σ .mk) Q) .mk)(h2:∀ρ' σ',R ρ' σ'->eQ C n0 (fN n c).2 ρ' σ' Q .mk):eQ C n0 c ρ σ Q t:=by
 refine AC n c ρ σ (jd (fun e ρ' σ' h=>?_) h1);cases e with
 | normal=>exact h2 _ _ h
 | _=>exact h
theorem Iw(σ:LLV)(X:List V):(σ++[X]).length=σ.length+1:=by simp
def w4(lo hi w:Int)(b:Bool):List V:=[.d (ab lo),.d (ab hi),.d (ab w),ao b]
section
variable {ts : List Tok} {a i : Nat} (H : TsV ts) (ha : a ≤ ts.length) (σ : LLV) (hi : σ[i]? = some (pb ts a))
include H ha hi
theorem pB:Fun G 120 [.ptr i 0] σ (CQ (fun w=>.agg ((dwt w).map V.d)) ts i σ (gD (zLs ts) (ts.drop a))):=by
 refine ae Tryz.func120 QT rfl fun hb hw=>?_;have S:=St.init hi hb;obtain⟨x,hx⟩:∃x,x=gD (zLs ts) (ts.drop a):=⟨_,rfl⟩
 rw[<-hx];unfold gD at hx;rw[kD]at hx;unfold PC
 refine eW 5 (fun ρ σ'=>∃(lo hi:Int) (a2:Nat) (σ2:LLV),(ρ=[(0,.ptr i 0),(2,.ptr σ2.length 0),(3,.ptr (σ2.length+1) 0)]\/ρ=[(0,.ptr i 0),(2,.ptr σ2.length 0),(3,.ptr (σ2.length+1) 0),(11,ao false)])/\σ'=σ2++[w4 0 0 0 false,w4 lo hi 0 false]/\St σ i ts a2 σ2/\a2≤ts.length/\
  x=(dF (ba 58 61) (ts.drop a2) (fun r3=>.ok true r3) (bR (zLs ts) (ba 58 47) (ts.drop a2) fun r3=>.ok false r3)).bind fun b r3=>fT (zLs ts) r3 fun w r4=>.ok ⟨lo,hi,w,b⟩ r4) ?_ ?_
 .simp only[fN];simp -dsimp only[aw,seval];rw[Iw];refine aX S ha (jN _) hx (ei H ha _ (ah hi _)) (fun lo a1 hx h1 h2 h3 hy σ1 S1 hl1=>?_) (fun e n b hx σ1 S1 hl1=>?_)
  case refine_2=>
   rw[<-hl1];simp -dsimp only[aw,seval];exact aS S1 hx
  rw[<-hl1];simp -dsimp only[aw,seval];refine kq H (m:=ba 46 46) (by decide +kernel) S1 h2 (fun hs2 hlt2 σ2 S2 hl2=>?_) (fun hs2=>?_)
  .rw[dh (m:=ba 46 46) hs2]at hx;rw[<-hl2];simp -dsimp only[aw,seval];refine aX S2 hlt2 (jN _) hx (ei H hlt2 _ (ah S2.at_ _)) (fun hi2 a3 hx h1 h2 h3 hy σ1 S1 hl1=>?_) (fun e n b hx σ1 S1 hl1=>?_)
   case refine_2=>
    rw[<-hl1];simp -dsimp only[aw,seval];exact aS S1 hx
   rw[<-hl1];simp -dsimp only[aw,seval];exact Mid.mk ⟨lo,hi2,a3,σ1,.inl rfl,rfl,S1,h2,hx⟩
  .rw[cv (m:=ba 46 46) hs2]at hx;simp -dsimp only[aw,seval];exact Mid.mk ⟨lo,lo,a1,σ1,.inr rfl,rfl,S1,h2,hx⟩
 .simp only[fN];rintro ρ' σ' ⟨lo,hi2,a2,σ2,hρ,rfl,S2,h2,hx⟩;rw[<-S2.len];unfold w4
  refine eW 2 (fun ρ σ'=>∃(b:Bool) (a2:Nat) (σ2:LLV),(ρ=[(0,.ptr i 0),(2,.ptr σ2.length 0),(3,.ptr (σ2.length+1) 0)]\/ρ=[(0,.ptr i 0),(2,.ptr σ2.length 0),(3,.ptr (σ2.length+1) 0),(20,ao false)])/\σ'=σ2++[w4 0 0 0 false,w4 lo hi2 0 b]/\St σ i ts a2 σ2/\a2≤ts.length/\
   x=fT (zLs ts) (ts.drop a2) fun w r4=>.ok ⟨lo,hi2,w,b⟩ r4) ?_ ?_
  .simp only[fN];rcases hρ with rfl|rfl
   all_goals
    simp -dsimp only[aw,seval];refine kq H (m:=ba 58 61) (by decide +kernel) S2 h2 (fun hs2 hlt2 σ1 S1 hl1=>?_) (fun hs2=>?_)
    .rw[dh hs2]at hx;rw[<-hl1];simp -dsimp only[aw,seval];exact Mid.mk ⟨true,a2+1,σ1,.inr rfl,rfl,S1,hlt2,hx⟩
    .rw[cv hs2,bL,bind_assoc]at hx;simp -dsimp only[aw,seval];refine aX S2 h2 (cf _) hx (ca H (ba 58 47) h2 (by decide +kernel) _ (ah S2.at_ _)) (fun _ a3 hx h1 h2 h3 hy σ1 S1 hl1=>?_) (fun e n b hx σ1 S1 hl1=>?_)
     case refine_2=>
      rw[<-hl1];simp -dsimp only[aw,seval];exact aS S1 hx
     rw[<-hl1];simp -dsimp only[aw,seval];exact Mid.mk ⟨false,a3,σ1,.inl rfl,rfl,S1,h2,hx⟩
  .simp only[fN];rintro ρ' σ' ⟨b,a3,σ3,hρ,rfl,S3,h3,hx⟩;rw[S2.len,<-S3.len];rw[kD]at hx;unfold w4;rcases hρ with rfl|rfl
   all_goals
    simp -dsimp only[aw,seval];refine aX S3 h3 (jN _) hx (ei H h3 _ (ah S3.at_ _)) (fun w a4 hx h1 h2 h3 hy σ1 S1 hl1=>?_) (fun e n b hx σ1 S1 hl1=>?_)
    case refine_2=>
     rw[<-hl1];simp -dsimp only[aw,seval];exact aS S1 hx
    rw[<-hl1];simp -dsimp only[aw,seval];exact cE S1 h2 hx rfl (by simp[Js,aC,aQ,dwt,aw,seval])
end
end Go.Proofs.YtnhphlmblenapaaGreatDoor
namespace Go.Proofs.YtnhphlmblenapaaGreatDoor
open Go.RowKit
theorem wC:∀l:List D,iZ (l.map V.d)=some l
 | []=>rfl
 | d::l=>by simp only[TY,iZ,V.plain,wC l]
theorem jf(l:List D):dw [.agg (l.map V.d)]=some [l]:=by
 have:(V.agg (l.map V.d)).cells=l.map V.d:=by simp[V.cells,V.copy]
 simp only[dw,this,wC]
section
variable {α β : Type} {mk : β -> V} {σ0 σ : LLV} {i : Nat} {ts : List Tok} {a : Nat} {l l' : LLV} {x : CP α} {y : CP β} {k : β -> List Tok -> CP α} {sz : β -> Nat} {c : Nat} {n0 : Nat} {ρ0 : aj} {Q : bV}
theorem r8{b p os fo f T kk by_ q:Nat}{ex:List V}{cs:List V}{rows:LLD}(row:β->List D)(S:St σ0 i ts a σ)(ha:a≤ts.length)(hT:Tk sz c (ts.drop a) y)(hx:x=y.bind k)(hup:Up (σ++l) (σ++l'))
 (hf:∀σ:LLV,σ[i]? = some (pb ts a)->Fun G f (.ptr i 0::ex.map V.lend) σ (CQ mk ts i σ y))(hp:get ρ0 p=.ptr i 0)(ho:get ρ0 os=.ptr (σ.length+q) 0)(hpb:p<b)(hosb:os<b)(hl:l'[q]? = some cs)(hc:cs[fo]? = some (.own T kk rows))
 (hr:∀v,dw [mk v]=some [row v])(hk:∀v,(row v).length=kk)(hby:(rows.length+1)*by_≤140737488355328)[Inhabited β]
 (ht:∀v a2,x=k v (ts.drop a2)->a≤a2->a2≤ts.length->sz v+(ts.length-a2)≤c->∀σ',St σ0 i ts a2 σ'->σ'.length=σ.length->Q .normal (st8 ρ0 T kk i (σ'.length+q) fo b rows (row v) (mk v) fun _=>true) (σ'++l'.set q (cs.set fo (.own T kk (rows++[row v])))))
 (hb:∀e n b',x=.bad e n->∀σ',St σ0 i ts b' σ'->σ'.length=σ.length->∀ρ' X,Q (.panic (dU e n)) ρ' (σ'++l'.set q X)):ib G n0 (Hy b p os fo f ex T kk by_) es8 ρ0 (σ++l) Q:=by
 refine GL hup ?_;have hil:=S.lt;rw[<-S.len]at hil;have hio:i≠σ.length+q:=by omega
 have hob:(σ++l')[σ.length+q]? = some cs:=by rw[TR (by omega),T4];exact hl
 have hii:(σ++l')[i]? = some (pb ts a):=ah S.at_ _
 have hset:∀(P X:List V),(((σ++l').set i P).set (σ.length+q) X)=σ.set i P++l'.set q X:=fun P X=>by
  rw[List.set_append_left _ _ hil,TS _ _ (by simp),TO,T4]
 cases y with
 | out=>exact hT.elim
 | bad e n=>
  refine ki (ρ0:=ρ0) (σ0:=σ++l') (T:=T) (k:=kk) (i:=i) (o:=σ.length+q) (fo:=fo) (b:=b) (cs:=cs) (rows:=rows) (v:=mk default) (r:=row default) (P:=[]) false (fun u P'=>u=dU e n/\∃b',P'=pb ts b') hp ho hpb hosb hio hob hc (fun σ' h=>(hf σ' (by rw[h,hii])).mono fun out σ'' hq=>?_) (hr _) (hk _) hby (fun h=>by cases h) ?_
  .rw[if_neg (by simp)];obtain⟨rfl,b',rfl⟩:=hq;exact⟨_,_,rfl,rfl,rfl,b',rfl⟩
  .rintro-u P' ρ' X ⟨rfl,b',rfl⟩ -;rw[hset];exact hb e n b' (by rw[hx];rfl) _ (S.step _) (S.slen _) ρ' X
 | ok v r=>
  obtain⟨h1,h2,h3⟩:=kX ha hT.1;refine ki (ρ0:=ρ0) (σ0:=σ++l') (T:=T) (k:=kk) (i:=i) (o:=σ.length+q) (fo:=fo) (b:=b) (cs:=cs) (rows:=rows) (v:=mk v) (r:=row v) (P:=pb ts (ts.length-r.length)) true (fun _ _=>True) hp ho hpb hosb hio hob hc (fun σ' h=>(hf σ' (by rw[h,hii])).mono fun out σ'' hq=>?_) (hr _) (hk _) hby (fun _=>?_) (fun h=>by cases h)
  .rw[if_pos rfl];exact hq
  .rw[hset];have:=ht v (ts.length-r.length) (by rw[hx,<-h1];rfl) h2 h3 (by have:=hT.2;rw[h1,TQ]at this;omega) _ (S.step _) (S.slen _);rw[S.slen]at this;exact this
end
theorem oi{C:Cx}{n0:Nat}{l:List O}{es:List (List Nat)}{keep:List Nat}{ρ:aj}{σ:LLV}{Q:bV}{t:Tag Q}(h:ib C n0 l es ρ σ fun e ρ' σ'=>Q e (aY keep ρ') σ'):eQ C n0 (.raw l es keep) ρ σ Q t:=h
theorem rL{σ l:LLV}{q fo:Nat}{cs:List V}(T k:Nat)(h:l[q]? = some cs)(hc:cs[fo]? = some .nil):Up (σ++l) (σ++l.set q (cs.set fo (.own T k []))):=by
 have h1:(σ++l)[σ.length+q]? = some cs:=by rw[TR (by omega),T4];exact h
 have:=Up.step (off:=fo) T k h1 hc (.refl _);rwa[TS _ _ (by omega),T4]at this
def z12:List V:=[.d (ab 0),.d (ab 0),.d (ab 0),.d (ai ⟨#[]⟩),.nil,.d (ai ⟨#[]⟩),.d (ai ⟨#[]⟩),.nil,.nil,.nil,.nil,.nil]
def d12(s:ByteArray)(c:V):List V:=[.d (ab 3),.d (ab 0),.d (ab 0),.d (ai ⟨#[]⟩),.nil,.d (ai s),.d (ai ⟨#[]⟩),c,.nil,.nil,.nil,.nil]
theorem uK(w:Wt):(dwt w).length=4:=rfl
instance:Inhabited Wt:=⟨⟨0,0,0,false⟩⟩
section
variable {ts : List Tok} {a i : Nat} (H : TsV ts) (ha : a ≤ ts.length) (σ : LLV) (hi : σ[i]? = some (pb ts a))
include H ha hi
theorem CG:Fun G 62 [.ptr i 0] σ (CQ vit ts i σ (mt (zLs ts) (ts.drop a))):=by
 refine ae Tryz.func62 k62 rfl fun hb hw=>?_;have S:=St.init hi hb;have hL:=H.ok.len;obtain⟨x,hx⟩:∃x,x=mt (zLs ts) (ts.drop a):=⟨_,rfl⟩
 rw[<-hx];unfold mt at hx;unfold c62;simp -dsimp only[aw,seval];refine aX S ha (gu _ _) hx (kM H ha _ (ah hi _)) (fun s a1 hx h1 h2 h3 hy σ1 S1 hl1=>?_) (fun e n b hx σ1 S1 hl1=>?_)
 case refine_2=>
  rw[<-hl1];simp -dsimp only[aw,seval];exact aS S1 hx
 rw[<-hl1];rw[bL]at hx;simp -dsimp only[aw,seval];refine aX S1 h2 (cf _) hx (ca H (aa 123) h2 (by decide +kernel) _ (ah S1.at_ _)) (fun _ a2 hx h1 h2 h3 hy σ2 S2 hl2=>?_) (fun e n b hx σ1 S1 hl1=>?_)
 case refine_2=>
  rw[<-hl1];simp -dsimp only[aw,seval];exact aS S1 hx
 rw[<-hl2];unfold od at hx;rw[bind_assoc]at hx;simp -dsimp only[aw,seval];refine oi (show ib _ _ _ _ _ _ _ from r8 (b:=9) (p:=0) (os:=3) (fo:=7) (f:=120) (ex:=[]) (T:=56) (kk:=4) (by_:=32) (q:=1) (rows:=[]) dwt S2 h2 (jo _ _) hx (rL (cs:=d12 s .nil) (fo:=7) (q:=1) 56 4 rfl rfl) (fun σ h=>pB H h2 σ h) rfl rfl (by decide) (by decide) rfl rfl (fun v=>jf _) uK (by decide) (fun w a3 hx h4 h5 h6 σ3 S3 hl3=>?_) (fun e n b hx σ3 S3 hl3 ρ' X=>?_))
 case refine_2=>
  rw[<-hl3];exact aS (rs:=IO) (ρ:=ρ') S3 hx
 rw[<-hl3];simp -dsimp only[aw,seval,st8,d12]
 refine aL [0,2,3] (R:=fun(j:Nat) ρ σ'=>∃(a1:Nat) (l:List Wt) (σ2:LLV),ρ=[(0,.ptr i 0),(2,.ptr σ2.length 0),(3,.ptr (σ2.length+1) 0)]/\σ'=σ2++[z12,d12 s (.own 56 4 (l.map dwt))]/\St σ i ts a1 σ2/\a1≤ts.length/\l.length+j≤a1+1/\j≤a1/\
  x=(fQ (fun l r=>(acc (aa 44) r).map fun r2=>(gD (zLs ts) r2).bind fun s r3=>.ok (l++[s]) r3) l (ts.drop a1)).bind fun l r3=>bR (zLs ts) (aa 125) r3 fun r4=>bR (zLs ts) (aa 59) r4 fun r5=>.ok (.mk 3 exZ s ⟨#[]⟩ l [] [] [] []) r5) ts.length ⟨a3,[w],σ3,rfl,rfl,S3,h5,by simp,by omega,hx⟩ ?_ _
 rintro j ρ' σ' hj ⟨a1,l,σ4,rfl,rfl,S4,h7,h8,h9,hx⟩;rw[ng (lB (jo _)).eats]at hx;rw[S3.len,<-S4.len];unfold z12 d12;simp -dsimp only[aw,seval];refine kq H (m:=aa 44) (by decide +kernel) S4 h7 (fun hs2 hlt2 σ5 S5 hl5=>?_) (fun hs2=>?_)
 .simp only[hs2,T7,bind_assoc]at hx;rw[<-hl5];simp -dsimp only[aw,seval];refine oi (show ib _ _ _ _ _ _ _ from r8 (b:=18) (p:=0) (os:=3) (fo:=7) (f:=120) (ex:=[]) (T:=56) (kk:=4) (by_:=32) (q:=1) (rows:=l.map dwt) dwt S5 hlt2 (jo _ _) hx (.refl _) (fun σ h=>pB H hlt2 σ h) rfl rfl (by decide) (by decide) rfl rfl (fun v=>jf _) uK (by rw[List.length_map];omega) (fun w a5 hx h4 h5 h6 σ3 S3 hl3=>?_) (fun e n b hx σ3 S3 hl3 ρ' X=>?_))
  case refine_2=>
   rw[<-hl3];exact aS (rs:=IO) (ρ:=ρ') S3 hx
  rw[<-hl3];simp -dsimp only[aw,seval,st8];have h10:a1+1<a5:=by unfold gr at h6;rw[TQ]at h6;omega
  refine⟨by omega,Nxt.same (by simp) (aq S3.bb rfl) (by simp[an,V.under,S3.len];have:=S3.lt;omega) ⟨a5,l++[w],σ3,rfl,by simp[z12,d12],S3,h5,by simp;omega,by omega,hx⟩⟩
 .simp only[hs2,T8,CP.bind]at hx;rw[bL]at hx;simp -dsimp only[aw,seval];refine aX S4 h7 (cf _) hx (ca H (aa 125) h7 (by decide +kernel) _ (ah S4.at_ _)) (fun _ a2 hx h1 h2 h3 hy σ2 S2 hl2=>?_) (fun e n b hx σ1 S1 hl1=>?_)
  case refine_2=>
   rw[<-hl1];simp -dsimp only[aw,seval];exact aS S1 hx
  rw[<-hl2];rw[bL]at hx;simp -dsimp only[aw,seval];refine aX S2 h2 (cf _) hx (ca H (aa 59) h2 (by decide +kernel) _ (ah S2.at_ _)) (fun _ a2 hx h1 h2 h3 hy σ3 S3 hl3=>?_) (fun e n b hx σ1 S1 hl1=>?_)
  case refine_2=>
   rw[<-hl1];simp -dsimp only[aw,seval];exact aS S1 hx
  rw[<-hl3];simp -dsimp only[aw,seval];exact cE S3 h2 hx (by rw[aM];rfl) (by rw[aM];simp[IO,aC,aQ,eM,jr,eG,gm,jb,dA,ga,gy,gw,exZ,bt,aU,aH,aI,aw,seval])
end
end Go.Proofs.YtnhphlmblenapaaGreatDoor
