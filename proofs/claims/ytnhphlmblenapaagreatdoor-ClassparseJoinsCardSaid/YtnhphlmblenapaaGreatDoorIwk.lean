import Derived.Test.YtnhphlmblenapaaGreatDoorMark7
set_option linter.unusedVariables false
set_option linter.unusedSimpArgs false
set_option linter.unusedSectionVars false
set_option maxHeartbeats 4000000
open Bool renaming false_eq_true->Pa
open Int renaming reduceEq->Pb,ofNat_lt->Pd
open List renaming append_nil->Pe,take_left->Pf,length_append->Pg,map_append->Ph,map_cons->Pi,map_nil->Pj,length_cons->Pk,getElem_mem->Pl,length_set->Pm,length_nil->Pn,getElem?_eq_getElem->Po,takeWhile_prefix->Pp,append_assoc->Pq,length_drop->Pr,length_map->Ps
open Nat renaming le_refl->Pt
namespace Go.Proofs.YtnhphlmblenapaaGreatDoor
open Go.RowKit
open Nat renaming reduceLeDiff -> jA, reduceBEq -> jB, reduceLT -> jC, reduceEqDiff -> jD, reduceAdd -> jE, reduceSub -> jF, reduceMul -> jG
open V renaming copy -> jV, lend -> jW, lend1 -> jX, cells -> jY, boxable -> jZ
def p9(T:Int)(l:Bs)(i:Nat)(σ:LLV)(o:Out)(σ':LLV):Prop:=match cP l with
 | .err e=>o=.ret (.tup [cy,.d (aa e)])/\∃l',σ'=σ.set i (rdr T l')
 | .tok k n len=>o=.ret (.tup [cS k n (l.take len) (T-(l.count 10:Nat)),.d (aa 0)])/\σ'=σ.set i (rdr T (l.drop len))
theorem vZ(c:UInt8)(r:Bs)(h1:jk c.toNat=false)(h2:fC c.toNat=false):cP (c::r)=if dW (c::r)=0 then .err 5 else .tok 4 0 (dW (c::r)):=by
 simp only[cP,h1,h2,Pa,if_false]
theorem yz(c:Int)(σ:LLV):Fun G 170 [.d (.lit (.int .i32 c))] σ (aO (.d (.lit (.bool (jk c)))) σ):=
 o2 Tryz.func170 (by kernel_rfl) (by kernel_rfl) trivial fun pr w _=>(dQ c w).mono fun e w' ⟨h1,h2⟩=>⟨h1,h2▸Ext.refl _⟩
theorem Al(c:Int)(σ:LLV):Fun G 172 [.d (.lit (.int .i32 c))] σ (aO (.d (.lit (.bool (fC c)))) σ):=
 o2 Tryz.func172 (by kernel_rfl) (by kernel_rfl) trivial fun pr w _=>(fO c w).mono fun e w' ⟨h1,h2⟩=>⟨h1,h2▸Ext.refl _⟩
theorem Ap(n:Nat)(T:Int)(l:Bs)(hn:dW l=n)(i:Nat)(hl:l.length≤1200000)(h0:0≤T)(h1:T≤1000000000)(σ:LLV)(hi:σ[i]? = some (rdr T l)):
 Fun G 174 [.ptr i 0] σ fun o σ'=>o=.ret (.tup (if n=0 then[cy,.d (aa 5)]else[cS 4 0 (l.take n) (T-(l.count 10:Nat)),.d (aa 0)]))/\σ'=σ.set i (rdr T (l.drop n)):=by
 have h:=CT T l i hl h0 h1 σ hi;rw[hn]at h;exact h
theorem Aq(n:Nat)(T:Int)(l0:Bs)(hn:dW l0=n)(c:UInt8)(r:Bs)(he:l0=c::r)(i:Nat)(hl:l0.length≤1200000)(h0:0≤T)(h1:T≤1000000000)(σ:LLV)(hi:σ[i]? = some (rdr T l0)):
 Fun G 116 [.ptr i 0] σ (p9 T l0 i σ):=by
 have hix:ixV (V.d (ae (bs l0))) (V.d (.lit (.int .i64 0)))=some (aC .u8 c.toNat):=by rw[he];exact mt c r
 have hlt:i<σ.length:=(List.getElem?_eq_some_iff.1 hi).1;refine al Tryz.func116 Nq rfl fun hb hw=>?_;unfold Kx;have hio:=fun t=>am hi t;unfold rdr rd at hio;simp -dsimp only[aw,seval,hio,hix];rw[BW _ c.toNat_lt];refine aj (yz _ _) ?_
 have fin1:∀(X:List V) (σ1:LLV) (k n:Int) (tx:Bs) (ln e:Int) (B:List V),σ1.length=σ.length->σ1=σ.set i X->ai σ1.length σ1=true->p9 T l0 i σ (.ret (.tup [cS k n tx ln,.d (aa e)])) σ1->
  fin σ1.length Dt (p9 T l0 i σ) .ret [(2,.ptr σ1.length 0),(3,.d (aa e))] (σ1++[[.d (aa k),.d (aa n),.d (ae (bs tx)),.d (aa ln)]]):=fun X σ1 k n tx ln e B g1 g2 g3 g4=>
  bv (τ:=σ1) g3 (v:=.tup [cS k n tx ln,.d (aa e)]) (by simp[Dt,aL,cv,bc,cS,aw,seval]) rfl Pf g4
 cases hlow:jk c.toNat with
 | true=>
  subst he;simp -dsimp only[aw,seval];refine cY (El T (c::r) i hl h0 h1 _ (am hi _)) ?_;rw[bj hi];obtain⟨σ1,hs1⟩:∃x,x=σ.set i (rdr T ((c::r).drop ((c::r).takeWhile inn).length)):=⟨_,rfl⟩
  have hl1:σ1.length=σ.length:=by rw[hs1,Pm]
  have hb1:ai σ1.length σ1=true:=by rw[hl1,hs1];exact ct hb rfl
  rw[<-hs1,<-hl1];have htk:(c::r).take ((c::r).takeWhile inn).length=(c::r).takeWhile inn:=List.prefix_iff_eq_take.1 (Pp _) |>.symm
  by_cases h16:16<((c::r).takeWhile inn).length
  .rw[if_pos h16];simp -dsimp only[aw,seval,cy,cS];refine fin1 _ σ1 0 0 [] 0 2 [] hl1 hs1 hb1 ?_;unfold p9;simp only[cP,hlow,if_true,h16];exact⟨rfl,_,hs1⟩
  .rw[if_neg h16];simp -dsimp only[aw,seval,cy,cS];refine fin1 _ σ1 _ 0 ((c::r).takeWhile inn) _ 0 [] hl1 hs1 hb1 ?_;unfold p9;simp only[cP,hlow,if_true,h16,if_false];exact⟨by rw[htk];rfl,hs1⟩
 | false=>
  simp -dsimp only[aw,seval];refine aj (Al _ _) ?_;cases hdig:fC c.toNat with
  | true=>
   subst he;simp -dsimp only[aw,seval];refine cY (vS T c r i hl hdig h0 h1 _ (am hi _)) ?_;rw[bj hi];obtain⟨σ1,hs1⟩:∃x,x=σ.set i (rdr T (r.drop (r.takeWhile dig).length)):=⟨_,rfl⟩
   have hl1:σ1.length=σ.length:=by rw[hs1,Pm]
   have hb1:ai σ1.length σ1=true:=by rw[hl1,hs1];exact ct hb rfl
   rw[<-hs1,<-hl1];have htc:(c::r).takeWhile dig=c::r.takeWhile dig:=List.takeWhile_cons_of_pos hdig;have hdr:(c::r).drop ((c::r).takeWhile dig).length=r.drop (r.takeWhile dig).length:=by rw[htc];rfl
   have hall:((c::r).takeWhile inn).all dig=((c::r).takeWhile inn).all fun x=>fC x.toNat:=rfl;have hsp:=tr (c::r);rw[hdr,htc]at hsp;by_cases hA:(1<(c::r.takeWhile dig).length/\c=48)\/(r.drop (r.takeWhile dig).length).takeWhile inn≠[]
   .rw[if_pos hA];simp -dsimp only[aw,seval,cy,cS];refine fin1 _ σ1 0 0 [] 0 5 [] hl1 hs1 hb1 ?_
    have hcond:(((c::r).takeWhile inn).all fun x=>fC x.toNat)=false\/(1<((c::r).takeWhile inn).length/\c=48):=by
     rcases hsp with⟨g1,g2,g3⟩|⟨g1,g2⟩
     .refine .inr ?_;rw[<-g2];exact hA.elim id (fun h=>absurd g3 h)
     .exact .inl g1
    unfold p9;simp only[cP,hlow,hdig,if_true,Pa,if_false,hcond];exact⟨rfl,_,hs1⟩
   .rw[if_neg hA]
    have hsp1:((c::r).takeWhile inn).all dig=true/\c::r.takeWhile dig=(c::r).takeWhile inn:=by
     rcases hsp with⟨g1,g2,g3⟩|⟨g1,g2⟩
     .exact⟨g1,g2⟩
     .exact absurd (.inr g2) hA
    have hcond:¬((((c::r).takeWhile inn).all fun x=>fC x.toNat)=false\/(1<((c::r).takeWhile inn).length/\c=48)):=by
     rintro(h|h)
     .rw[<-hall,hsp1.1]at h;cases h
     .rw[<-hsp1.2]at h;exact hA (.inl h)
    have hdr2:r.drop (r.takeWhile dig).length=(c::r).drop ((c::r).takeWhile inn).length:=by rw[<-hsp1.2];rfl
    have htk:(c::r).take ((c::r).takeWhile inn).length=(c::r).takeWhile inn:=List.prefix_iff_eq_take.1 (Pp _) |>.symm
    rw[hsp1.2];rw[hdr2]at hs1;by_cases hB:2147483647<eG ((c::r).takeWhile inn)
    .rw[if_pos hB];simp -dsimp only[aw,seval,cy,cS];refine fin1 _ σ1 0 0 [] 0 3 [] hl1 hs1 hb1 ?_;unfold p9;simp only[cP,hlow,hdig,if_true,Pa,if_false,hcond,hB];exact⟨rfl,_,hs1⟩
    .rw[if_neg hB];simp -dsimp only[aw,seval,cy,cS];refine fin1 _ σ1 _ _ ((c::r).takeWhile inn) _ 0 [] hl1 hs1 hb1 ?_;unfold p9;simp only[cP,hlow,hdig,if_true,Pa,if_false,hcond,hB];exact⟨by rw[htk],hs1⟩
  | false=>
   simp -dsimp only[aw,seval];have hrd:cP l0=if n=0 then .err 5 else .tok 4 0 n:=by rw[<-hn,he];exact vZ c r hlow hdig
   refine cY (Ap n T l0 hn i hl h0 h1 _ (am hi _)) ?_;rw[bj hi];obtain⟨σ1,hs1⟩:∃x,x=σ.set i (rdr T (l0.drop n)):=⟨_,rfl⟩
   have hl1:σ1.length=σ.length:=by rw[hs1,Pm]
   have hb1:ai σ1.length σ1=true:=by rw[hl1,hs1];exact ct hb rfl
   rw[<-hs1,<-hl1];by_cases hz:n=0
   .rw[if_pos hz];rw[if_pos hz]at hrd;simp -dsimp only[aw,seval,cy,cS];refine fin1 _ σ1 0 0 [] 0 5 [] hl1 hs1 hb1 ?_;unfold p9;rw[hrd];exact⟨rfl,_,hs1⟩
   .rw[if_neg hz];rw[if_neg hz]at hrd;simp -dsimp only[aw,seval,cy,cS];refine fin1 _ σ1 4 0 (l0.take n) _ 0 [] hl1 hs1 hb1 ?_;unfold p9;rw[hrd];exact⟨rfl,hs1⟩
theorem aZ{K P:V->LLV->Prop}{v:V}{σ:LLV}:C4 K P (.ret v) σ=K v σ:=rfl
def kJ(t:Tok):List D:=[aa t.kind,aa t.num,ae t.text,aa t.line]
def lX:Lx->V
 | .ok ts=>.tup [.d (.sl (ts.map kJ)),.d (aa 0),.d (aa 0)]
 | .err n e=>.tup [.d (.sl []),.d (aa n),.d (aa e)]
def nY(l:Bs):V:=if 16384<l.length then .tup [.d (.sl []),.d (aa 0),.d (aa 2)]else lX (dj l)
theorem tJ{l:Bs}{e:Int}(h:cP l=.err e):e≠0:=by
 match l with
 | []=>cases h;decide
 | c::r=>
  simp only[cP]at h;split at h
  .split at h<;>cases h<;>decide
  .split at h
   .split at h
    .cases h;decide
    .split at h<;>cases h<;>decide
   .split at h<;>cases h<;>decide
theorem oP(N:Int)(l:Bs):dL N (bQ l)=dL N l:=by rw[bC,bC N l,m4]
theorem Do(x:Lx)(t:Tok)(a:List Tok):(x.cons t).app a=x.app (a++[t]):=by cases x<;>simp[Lx.cons,Lx.app]
theorem Fm(x:Lx):x.app []=x:=by cases x<;>rfl
theorem lz(l:Bs)(hl:l.length≤1200000)(σ:LLV):Fun G 58 [.d (ae (bs l))] σ (aO (nY l) σ):=by
 have hcl:l.count 10≤l.length:=List.count_le_length;refine al Tryz.func58 k58 rfl fun hb hw=>?_;unfold c58;by_cases hbig:16384<l.length
 .have hbig':(16384:Int)<((l.length:Nat):Int):=by omega
  simp -dsimp only[aw,seval,bW,decide_eq_true hbig'];exact aF hb (v:=nY l) (by unfold nY;rw[if_pos hbig];rfl) (by unfold nY;rw[if_pos hbig];rfl) List.take_length ⟨rfl,rfl⟩
 .have hbig':¬(16384:Int)<((l.length:Nat):Int):=by omega
  have hR:nY l=lX (dj l):=by unfold nY;rw[if_neg hbig]
  rw[hR];obtain⟨T,hT⟩:∃T:Int,T=1+(l.count 10:Nat):=⟨_,rfl⟩
  have hT0:0≤T:=by omega
  have hT1:T≤1000000000:=by omega
  have htk:dj l=dL T l:=by rw[hT];rfl
  have h1:(1:Int)=T-(l.count 10:Nat):=by omega
  have hbox:[V.d (ae (bs l)),V.d (aa 1)]=rdr T l:=by unfold rdr rd;rw[h1]
  simp -dsimp only[aw,seval,bW,decide_eq_false hbig',hbox];refine cY (uq T l σ.length hl hT0 hT1 _ (ko _)) ?_;rw[mu];simp -dsimp only[aw,seval];refine oc (R:=fun(j:Nat) ρ σ'=>∃(acc:List Tok) (r:Bs),bQ r=r/\dj l=(dL T r).app acc/\r.length+j≤l.length/\acc.length≤j/\ρ=[(5,.ptr σ.length 0),(6,.own 121 4 (acc.map kJ))]/\σ'=σ++[rdr T r]) l.length ⟨[],bQ l,m4 l,by rw[Fm,oP,htk],by have:=(dx l).length_le;omega,by simp,rfl,rfl⟩ ?_ _;rintro j ρ' σ' hj ⟨acc,r,hs,hr,hrl,hal,rfl,rfl⟩
  match hre:r with
  | []=>
   simp -dsimp only[aw,seval,rdr,rd,xr];refine aF hb (v:=lX (dj l)) ?_ ?_ Pf ⟨rfl,rfl⟩
   .rw[hr,bC,dP];simp only[Lx.app,Pe,lX];rfl
   .rw[hr,bC,dP];rfl
  | c::r'=>
   have hnil:=D1 c r';simp -dsimp only[aw,seval,rdr,rd,hnil];rw[<-hre]at hs hr hrl ⊢;have hfold:[V.d (ae (bs r)),V.d (aa (T-(r.count 10:Nat)))]=rdr T r:=rfl;rw[hfold];refine aE (Aq (dW r) T r rfl c r' hre σ.length (by omega) hT0 hT1 _ (ko _)) fun o σ' hq=>?_;unfold p9 at hq;have hst:=bC T r;rw[hs]at hst;cases hrd:cP r with
   | err e=>
    rw[hrd]at hq;obtain⟨rfl,l',rfl⟩:=hq;have he0:=tJ hrd;rw[mu];simp -dsimp only[aw,seval,aZ,cy,cS,decide_eq_false he0]
    have hv:dj l=.err (T-(r.count 10:Nat)) e:=by
     rw[hr,hst];rw[hre]at hrd ⊢;simp only[hrd,Lx.app]
    exact aF hb (v:=lX (dj l)) (by rw[hv];rfl) (by rw[hv];rfl) Pf ⟨rfl,rfl⟩
   | tok kd n len=>
    rw[hrd]at hq;obtain⟨rfl,rfl⟩:=hq;obtain⟨g1,g2⟩:=gG hrd;rw[mu];simp -dsimp only[aw,seval,aZ,cS,Ps];refine aU (by omega) ?_;simp -dsimp only[aw,seval];refine cY (uq T (r.drop len) σ.length (by rw[Pr];omega) hT0 hT1 _ (ko _)) ?_;rw[mu];simp -dsimp only[aw,seval];have hsl:=(dx (r.drop len)).length_le;rw[Pr]at hsl
    have hv:dj l=(dL T (bQ (r.drop len))).app (acc++[fN T r kd n len]):=by
     rw[hr,hst,oP,<-Do];rw[hre]at hrd ⊢;simp only[hrd]
    have ha2:∀a b:List V,σ++[a,b]=(σ++[a])++[b]:=fun a b=>by simp
    rw[ha2];refine⟨by omega,Nxt.drop (by simp) (aq hb rfl) (by simp[an,V.under]) ⟨acc++[fN T r kd n len],bQ (r.drop len),m4 _,hv,by omega,by simp;omega,?_,rfl⟩⟩;simp only[Ph,Pi,Pj];rfl
def Gr(vf:V)(args:List V)(σ:LLV)(Q:Out->LLV->Prop):Prop:=
 match vf with
 | .fn f cap=>Fun G f (args++cap) σ Q
 | .bnd f first=>Fun G f (first++args) σ Q
 | _=>False
structure Vst{S:Type}(step:S->It->Nat->List ByteArray->Int×S)(P:It->Nat->List ByteArray->Prop)(vf:V)(J:S->LLV->Prop)(N:Nat):Prop where
 len:∀s τ,J s τ->τ.length=N
 bb:∀s τ,J s τ->ai N τ=true
 und:V.under N vf=true
 val:(∃f c,vf=.fn f c)\/(∃f c,vf=.bnd f c)
 call:∀s τ x d bd,J s τ->P x d bd->∀l,Gr vf [vit x,zw d bd] (τ++l) (fun o σ'=>∃τ',J (step s x d bd).2 τ'/\σ'=τ'++l/\o=.ret (.d (aa (step s x d bd).1)))
theorem Vst.app{S:Type}{step:S->It->Nat->List ByteArray->Int×S}{P:It->Nat->List ByteArray->Prop}{vf:V}{J:S->LLV->Prop}{N:Nat}(h:Vst step P vf J N)(L:LLV)(hL:L.all (fun cs=>V.unders (N+L.length) cs)=true):
 Vst step P vf (fun s σ=>∃τ,J s τ/\σ=τ++L) (N+L.length) where
 len:=fun s σ ⟨τ,h1,e⟩=>by rw[e,Pg,h.len s τ h1]
 bb:=fun s σ ⟨τ,h1,e⟩=>by
  have h2:=h.bb s τ h1;have h3:=h.len s τ h1;rw[<-h3]at h2 hL ⊢;rw[e,<-Pg];exact aq h2 (by rw[Pg];exact hL)
 und:=V.under_mono (by omega) _ h.und
 val:=h.val
 call:=fun s σ x d bd ⟨τ,h1,e⟩ hp l=>by
  subst e;have:=h.call s τ x d bd h1 hp (L++l);rw[Pq]
  have hm:∀o σ',(∃τ',J (step s x d bd).2 τ'/\σ'=τ'++(L++l)/\o=Out.ret (.d (aa (step s x d bd).1)))->∃τ',(∃τ2,J (step s x d bd).2 τ2/\τ'=τ2++L)/\σ'=τ'++l/\o=Out.ret (.d (aa (step s x d bd).1)):=fun o σ' ⟨τ',g1,g2,g3⟩=>
   ⟨τ'++L,⟨τ',g1,rfl⟩,by rw[g2,Pq],g3⟩
  unfold Gr at this ⊢;cases vf<;>first|exact this.elim|exact this.mono hm
def MB(P:It->Nat->List ByteArray->Prop):Prop:=∀x d bd,P x d bd->(∀y,y∈x.items->P y (dep x d) (bnd x bd))/\(∀y,y∈x.els->P y (dep x d) bd)
def Mg{S:Type}(step:S->It->Nat->List ByteArray->Int×S)(J:S->LLV->Prop)(l:List It)(d:Nat)(bd:List ByteArray)(s:S)(L:LLV):Out->LLV->Prop:=
 fun o σ'=>∃τ',J (wks step l d bd s).2 τ'/\σ'=τ'++L/\o=.ret (.d (aa (wks step l d bd s).1))
theorem Em{S:Type}(step:S->It->Nat->List ByteArray->Int×S)(x:It)(r:List It)(d:Nat)(bd:List ByteArray)(s:S):wks step (x::r) d bd s=
 if(step s x d bd).1=0 then(if(wks step x.items (dep x d) (bnd x bd) (step s x d bd).2).1=0 then
  (if(wks step x.els (dep x d) bd (wks step x.items (dep x d) (bnd x bd) (step s x d bd).2).2).1=0 then wks step r d bd (wks step x.els (dep x d) bd (wks step x.items (dep x d) (bnd x bd) (step s x d bd).2).2).2
    else wks step x.els (dep x d) bd (wks step x.items (dep x d) (bnd x bd) (step s x d bd).2).2)
  else wks step x.items (dep x d) (bnd x bd) (step s x d bd).2)else step s x d bd:=by
 rw[wks,G6];by_cases h1:(step s x d bd).1=0
 .rw[if_pos h1,if_pos h1];by_cases h2:(wks step x.items (dep x d) (bnd x bd) (step s x d bd).2).1=0
  .rw[if_pos h2,if_pos h2]
  .rw[if_neg h2,if_neg h2,if_neg h2]
 .rw[if_neg h1,if_neg h1,if_neg h1]
theorem Mr{vf:V}{args:List V}{σ:LLV}{Q:Out->LLV->Prop}(h:Gr vf args σ Q){K P:V->LLV->Prop}{s:Tag K}{t:Tag P}{tg:Tag _}(hk:∀o σ',Q o σ'->C4 K P o σ'):Gs vf args (fun f a=>iq G f a σ K P s t) tg:=by
 unfold Gr at h;cases vf<;>first|exact h.elim|exact h.mono hk
theorem kh{n0 k:Nat}{σ' τ:LLV}{ρ:ac}{rs:List RV}{Q:Out->LLV->Prop}(hk:n0≤k)(ht:σ'.take k=τ)(hb:ai k τ=true){v:V}(h:aL σ' ρ rs=some v)(hv:V.under k v=true)(hq:Q (.ret v) τ):fin n0 rs Q .ret ρ σ':=
 ⟨ρ,σ',.refl _ _ _,v,h,k,hk,by rw[ht];exact hb,hv,by rw[ht];exact hq⟩
theorem Nxt.drop3{n0:Nat}{R:ac->LLV->Prop}{ρ:ac}{σ:LLV}{a b c d:List V}(hn:n0≤σ.length)(hb:ai (σ++[a]).length (σ++[a])=true)(hs:an (σ++[a]).length ρ=true)(hR:R ρ (σ++[a])):Nxt n0 R ρ (σ++[a,b,c,d]) .mk:=by
 have e:σ++[a,b,c,d]=(σ++[a])++[b,c,d]:=by simp
 rw[e];exact Nxt.drop (by rw[Pg];omega) hb hs hR
theorem Dx{S:Type}(step:S->It->Nat->List ByteArray->Int×S)(P:It->Nat->List ByteArray->Prop)(hP:MB P)(vf:V):∀l:List It,bi l≤1200000->∀(d:Nat) (bd:List ByteArray) (J:S->LLV->Prop) (N:Nat),Vst step P vf J N->(∀x,x∈l->P x d bd)->d+bi l≤1200000->bd.length+bi l≤1200000->
 ∀s τ,J s τ->Fun G 67 [.d (cT l),zw d bd,vf] τ (Mg step J l d bd s []):=by
 refine pz fun l ih hs d bd J N hV hl hd hbd s τ hJ=>?_;have hln:=nf l;have hN:=hV.len s τ hJ;refine al Tryz.func67 k67 (by rcases hV.val with⟨f,c,rfl⟩|⟨f,c,rfl⟩<;>rfl) fun hb hw=>?_;have hlend:vf.lend=vf:=by rcases hV.val with⟨f,c,rfl⟩|⟨f,c,rfl⟩<;>rfl
 have hcopy:vf.copy=vf:=by rcases hV.val with⟨f,c,rfl⟩|⟨f,c,rfl⟩<;>rfl
 have hcm:=hcopy;unfold V.copy at hcm;have hlm:=hlend;unfold V.lend at hlm;unfold c67;simp -dsimp only[aw,jW,jV,jX,jY,jZ,reduceIte,jA,reduceCtorEq,jB,jC,jD,jE,jF,jG,Ps,hcm];refine aI [2,4,14,15,16] (R:=fun(j:Nat) ρ σ'=>∃s' τ',ρ=[(2,vf),(4,.ptr N 0),(14,.d (cT l)),(15,aC .i64 l.length),(16,aC .i64 j)]/\J s' τ'/\σ'=τ'++[[.d (aa d),.d (.sl (bd.map fun s=>[ae s]))]]/\wks step l d bd s=wks step (l.drop j) d bd s') l.length ⟨s,τ,by rw[hN];rfl,hJ,rfl,rfl⟩ ?_ _;rintro j ρ' σ' hj ⟨s',τ',rfl,hJ',rfl,hr⟩;have hN':=hV.len s' τ' hJ';by_cases hlt:j<l.length
 .have e:τ.length=τ'.length:=by rw[hN,hN']
  rw[e];subst hN';have hp:=hl _ (Pl hlt);obtain⟨p1,p2⟩:=hP _ d bd hp;obtain⟨i1,i2⟩:=ih _ (Pl hlt);have hbig:=fU l[j];have hm:=gz (Pl hlt);rw[List.drop_eq_getElem_cons hlt,Em]at hr;obtain⟨x,hx⟩:∃x,l[j]? = some x:=⟨_,Po hlt⟩
  have hx':l[j]=x:=by rw[Po hlt]at hx;exact Option.some.inj hx
  rw[hx']at hp p1 p2 i1 i2 hbig hm hr;have hc:=fun l=>hV.call s' τ' x d bd hJ' hp l;simp only[bw]at hc;simp -dsimp only[aw,jW,jV,jX,jY,jZ,reduceIte,jA,reduceCtorEq,jB,jC,jD,jE,jF,jG,Pd,hlt,decide_true,hx,eV x,hcm];refine Mr (hc _) ?_;rintro o σ' ⟨τ2,hJ2,rfl,rfl⟩;have hN2:=hV.len _ τ2 hJ2;rw[<-hN2];by_cases s1:(step s' x d bd).1=0
  case neg=>
   rw[if_neg s1]at hr;rw[aZ];simp -dsimp only[aw,jW,jV,jX,jY,jZ,reduceIte,jA,reduceCtorEq,jB,jC,jD,jE,jF,jG,decide_eq_false s1];refine kh (v:=.d (aa (step s' x d bd).1)) (k:=τ2.length) (τ:=τ2) (Pt _) Pf (by rw[hN2];exact hV.bb _ τ2 hJ2) rfl rfl ⟨τ2,by rw[hr];exact hJ2,(Pe _).symm,by rw[hr]⟩
  rw[if_pos s1]at hr;rw[aZ];have w1:IntKind.i64.wrap ((d:Int)+1)=((d+1:Nat):Int):=by rw[bI (by omega) (by omega)];omega
  have w1:IntKind.i64.wrap ((d:Int)+1)=((d+1:Nat):Int):=by rw[bI (by omega) (by omega)];omega
  have w1:IntKind.i64.wrap ((d:Int)+1)=((d+1:Nat):Int):=by rw[bI (by omega) (by omega)];omega
  have w1:IntKind.i64.wrap ((d:Int)+1)=((d+1:Nat):Int):=by rw[bI (by omega) (by omega)];omega
  by_cases k4:x.kind=4
  case pos=>
   have hd1:dep x d=d+1:=if_pos (.inl k4);have hb1:bnd x bd=bd:=if_neg (by omega);rw[hd1,hb1]at hr p1;rw[hd1]at p2;simp -dsimp only[aw,jW,jV,jX,jY,jZ,reduceIte,jA,reduceCtorEq,jB,jC,jD,jE,jF,jG,hcm,hlm,s1,decide_true,k4,Pb,decide_false,w1];have hA:=hV.app [[V.d (aa d),V.d (.sl (bd.map fun s=>[ae s]))],[.d (aa 4),.d (aa x.ex.op),.d (aa x.ex.num),.d (ae x.ex.name),.d (.sl (x.ex.args.map dex)),.d (ae x.name),.d (ae x.idx),.d (.sl (x.ws.map dwt)),.d (.sl (x.items.map dit)),.d (.sl (x.els.map dit)),.d (.sl (x.bef.map fun s=>[ae s])),.d (.sl (x.aft.map fun s=>[ae s]))],[.d (aa (d+1:Nat)),(.d (.sl (bd.map fun s=>[ae s])))],[.d (aa (d+1:Nat)),(.d (.sl (bd.map fun s=>[ae s])))]] (by simp[V.unders,V.under])
   have g1:=i1 (by omega) (d+1) (bd) _ _ hA p1 (by omega) (by first|omega|(simp only[Pg,Pk,Pn];omega)) _ _ ⟨τ2,hJ2,rfl⟩;have g2:=fun s τ hJ=>i2 (by omega) (d+1) bd _ _ hA p2 (by omega) (by omega) s _ ⟨τ,hJ,rfl⟩;try simp only[zw,Ph,Pi,Pj]at g1
   refine aE g1 ?_;rintro o σ' ⟨_,⟨τ3,hJ3,rfl⟩,rfl,rfl⟩;have hN3:=hV.len _ τ3 hJ3;rw[aZ,Pe,hN2.trans hN3.symm];by_cases s2:(wks step x.items (d+1) (bd) (step s' x d bd).2).1=0
   case neg=>
    rw[if_neg s2]at hr;simp -dsimp only[aw,jW,jV,jX,jY,jZ,reduceIte,jA,reduceCtorEq,jB,jC,jD,jE,jF,jG,decide_eq_false s2];refine kh (v:=.d (aa (wks step x.items (d+1) (bd) (step s' x d bd).2).1)) (k:=τ3.length) (τ:=τ3) (Pt _) Pf (by rw[hN3];exact hV.bb _ τ3 hJ3) rfl rfl ⟨τ3,by rw[hr];exact hJ3,(Pe _).symm,by rw[hr]⟩
   rw[if_pos s2]at hr;simp -dsimp only[aw,jW,jV,jX,jY,jZ,reduceIte,jA,reduceCtorEq,jB,jC,jD,jE,jF,jG,hcm,hlm,s2,decide_true];refine aE (g2 _ τ3 hJ3) ?_;rintro o σ' ⟨_,⟨τ4,hJ4,rfl⟩,rfl,rfl⟩;have hN4:=hV.len _ τ4 hJ4;rw[aZ,Pe,hN3.trans hN4.symm];by_cases s3:(wks step x.els (d+1) bd (wks step x.items (d+1) (bd) (step s' x d bd).2).2).1=0
   case neg=>
    rw[if_neg s3]at hr;simp -dsimp only[aw,jW,jV,jX,jY,jZ,reduceIte,jA,reduceCtorEq,jB,jC,jD,jE,jF,jG,decide_eq_false s3];refine kh (v:=.d (aa (wks step x.els (d+1) bd (wks step x.items (d+1) (bd) (step s' x d bd).2).2).1)) (k:=τ4.length) (τ:=τ4) (Pt _) Pf (by rw[hN4];exact hV.bb _ τ4 hJ4) rfl rfl ⟨τ4,by rw[hr];exact hJ4,(Pe _).symm,by rw[hr]⟩
   rw[if_pos s3]at hr;simp -dsimp only[aw,jW,jV,jX,jY,jZ,reduceIte,jA,reduceCtorEq,jB,jC,jD,jE,jF,jG,hcm,hlm,s3,decide_true,aJ hlt (show l.length≤9223372036854775807 by omega)];have hb4:ai (τ4++[[V.d (aa d),V.d (.sl (bd.map fun s=>[ae s]))]]).length (τ4++[[V.d (aa d),V.d (.sl (bd.map fun s=>[ae s]))]])=true:=aq (by rw[hN4];exact hV.bb _ τ4 hJ4) (by simp[V.unders,V.under]);exact⟨hlt,Nxt.drop3 (by simp) hb4 (by simp[an,V.under];exact V.under_mono (by omega) _ hV.und) ⟨_,τ4,by rw[hN4],hJ4,rfl,hr⟩⟩
  by_cases k5:x.kind=5
  case pos=>
   have hd1:dep x d=d+1:=if_pos (.inr k5);have hb1:bnd x bd=bd++[x.idx]:=if_pos k5;rw[hd1,hb1]at hr p1;rw[hd1]at p2;simp -dsimp only[aw,jW,jV,jX,jY,jZ,reduceIte,jA,reduceCtorEq,jB,jC,jD,jE,jF,jG,hcm,hlm,s1,decide_true,k5,Pb,decide_false,w1];refine uf (rE bd (by omega) _) ?_ ?_
   .simp -dsimp only[aw,jW,jV,jX,jY,jZ,reduceIte,jA,reduceCtorEq,jB,jC,jD,jE,jF,jG]
   simp -dsimp only[aw,jW,jV,jX,jY,jZ,reduceIte,jA,reduceCtorEq,jB,jC,jD,jE,jF,jG,hcm,hlm,k5];refine aU (by omega) ?_;simp -dsimp only[aw,jW,jV,jX,jY,jZ,reduceIte,jA,reduceCtorEq,jB,jC,jD,jE,jF,jG,hcm,hlm,k5];have hA:=hV.app [[V.d (aa d),V.d (.sl (bd.map fun s=>[ae s]))],[.d (aa 5),.d (aa x.ex.op),.d (aa x.ex.num),.d (ae x.ex.name),.d (.sl (x.ex.args.map dex)),.d (ae x.name),.d (ae x.idx),.d (.sl (x.ws.map dwt)),.d (.sl (x.items.map dit)),.d (.sl (x.els.map dit)),.d (.sl (x.bef.map fun s=>[ae s])),.d (.sl (x.aft.map fun s=>[ae s]))],[.d (aa (d+1:Nat)),.own 9 1 ((bd.map fun s=>[ae s])++[[ae x.idx]])],[.d (aa (d+1:Nat)),(.d (.sl (bd.map fun s=>[ae s])))]] (by simp[V.unders,V.under]);have g1:=i1 (by omega) (d+1) (bd++[x.idx]) _ _ hA p1 (by omega) (by first|omega|(simp only[Pg,Pk,Pn];omega)) _ _ ⟨τ2,hJ2,rfl⟩
   have g2:=fun s τ hJ=>i2 (by omega) (d+1) bd _ _ hA p2 (by omega) (by omega) s _ ⟨τ,hJ,rfl⟩;try simp only[zw,Ph,Pi,Pj]at g1
   refine aE g1 ?_;rintro o σ' ⟨_,⟨τ3,hJ3,rfl⟩,rfl,rfl⟩;have hN3:=hV.len _ τ3 hJ3;rw[aZ,Pe,hN2.trans hN3.symm];by_cases s2:(wks step x.items (d+1) (bd++[x.idx]) (step s' x d bd).2).1=0
   case neg=>
    rw[if_neg s2]at hr;simp -dsimp only[aw,jW,jV,jX,jY,jZ,reduceIte,jA,reduceCtorEq,jB,jC,jD,jE,jF,jG,decide_eq_false s2];refine kh (v:=.d (aa (wks step x.items (d+1) (bd++[x.idx]) (step s' x d bd).2).1)) (k:=τ3.length) (τ:=τ3) (Pt _) Pf (by rw[hN3];exact hV.bb _ τ3 hJ3) rfl rfl ⟨τ3,by rw[hr];exact hJ3,(Pe _).symm,by rw[hr]⟩
   rw[if_pos s2]at hr;simp -dsimp only[aw,jW,jV,jX,jY,jZ,reduceIte,jA,reduceCtorEq,jB,jC,jD,jE,jF,jG,hcm,hlm,s2,decide_true];refine aE (g2 _ τ3 hJ3) ?_;rintro o σ' ⟨_,⟨τ4,hJ4,rfl⟩,rfl,rfl⟩;have hN4:=hV.len _ τ4 hJ4;rw[aZ,Pe,hN3.trans hN4.symm];by_cases s3:(wks step x.els (d+1) bd (wks step x.items (d+1) (bd++[x.idx]) (step s' x d bd).2).2).1=0
   case neg=>
    rw[if_neg s3]at hr;simp -dsimp only[aw,jW,jV,jX,jY,jZ,reduceIte,jA,reduceCtorEq,jB,jC,jD,jE,jF,jG,decide_eq_false s3];refine kh (v:=.d (aa (wks step x.els (d+1) bd (wks step x.items (d+1) (bd++[x.idx]) (step s' x d bd).2).2).1)) (k:=τ4.length) (τ:=τ4) (Pt _) Pf (by rw[hN4];exact hV.bb _ τ4 hJ4) rfl rfl ⟨τ4,by rw[hr];exact hJ4,(Pe _).symm,by rw[hr]⟩
   rw[if_pos s3]at hr;simp -dsimp only[aw,jW,jV,jX,jY,jZ,reduceIte,jA,reduceCtorEq,jB,jC,jD,jE,jF,jG,hcm,hlm,s3,decide_true,aJ hlt (show l.length≤9223372036854775807 by omega)];have hb4:ai (τ4++[[V.d (aa d),V.d (.sl (bd.map fun s=>[ae s]))]]).length (τ4++[[V.d (aa d),V.d (.sl (bd.map fun s=>[ae s]))]])=true:=aq (by rw[hN4];exact hV.bb _ τ4 hJ4) (by simp[V.unders,V.under]);exact⟨hlt,Nxt.drop3 (by simp) hb4 (by simp[an,V.under];exact V.under_mono (by omega) _ hV.und) ⟨_,τ4,by rw[hN4],hJ4,rfl,hr⟩⟩
  have hd1:dep x d=d:=if_neg (by omega);have hb1:bnd x bd=bd:=if_neg (by omega);rw[hd1,hb1]at hr p1;rw[hd1]at p2;simp -dsimp only[aw,jW,jV,jX,jY,jZ,reduceIte,jA,reduceCtorEq,jB,jC,jD,jE,jF,jG,hcm,hlm,s1,decide_true,decide_eq_false k4,decide_eq_false k5,Pb,decide_false];have hA:=hV.app [[V.d (aa d),V.d (.sl (bd.map fun s=>[ae s]))],[.d (aa x.kind),.d (aa x.ex.op),.d (aa x.ex.num),.d (ae x.ex.name),.d (.sl (x.ex.args.map dex)),.d (ae x.name),.d (ae x.idx),.d (.sl (x.ws.map dwt)),.d (.sl (x.items.map dit)),.d (.sl (x.els.map dit)),.d (.sl (x.bef.map fun s=>[ae s])),.d (.sl (x.aft.map fun s=>[ae s]))],[.d (aa d),(.d (.sl (bd.map fun s=>[ae s])))],[.d (aa d),(.d (.sl (bd.map fun s=>[ae s])))]] (by simp[V.unders,V.under])
  have g1:=i1 (by omega) (d) (bd) _ _ hA p1 (by omega) (by first|omega|(simp only[Pg,Pk,Pn];omega)) _ _ ⟨τ2,hJ2,rfl⟩;have g2:=fun s τ hJ=>i2 (by omega) (d) bd _ _ hA p2 (by omega) (by omega) s _ ⟨τ,hJ,rfl⟩;try simp only[zw,Ph,Pi,Pj]at g1
  refine aE g1 ?_;rintro o σ' ⟨_,⟨τ3,hJ3,rfl⟩,rfl,rfl⟩;have hN3:=hV.len _ τ3 hJ3;rw[aZ,Pe,hN2.trans hN3.symm];by_cases s2:(wks step x.items (d) (bd) (step s' x d bd).2).1=0
  case neg=>
   rw[if_neg s2]at hr;simp -dsimp only[aw,jW,jV,jX,jY,jZ,reduceIte,jA,reduceCtorEq,jB,jC,jD,jE,jF,jG,decide_eq_false s2];refine kh (v:=.d (aa (wks step x.items (d) (bd) (step s' x d bd).2).1)) (k:=τ3.length) (τ:=τ3) (Pt _) Pf (by rw[hN3];exact hV.bb _ τ3 hJ3) rfl rfl ⟨τ3,by rw[hr];exact hJ3,(Pe _).symm,by rw[hr]⟩
  rw[if_pos s2]at hr;simp -dsimp only[aw,jW,jV,jX,jY,jZ,reduceIte,jA,reduceCtorEq,jB,jC,jD,jE,jF,jG,hcm,hlm,s2,decide_true];refine aE (g2 _ τ3 hJ3) ?_;rintro o σ' ⟨_,⟨τ4,hJ4,rfl⟩,rfl,rfl⟩;have hN4:=hV.len _ τ4 hJ4;rw[aZ,Pe,hN3.trans hN4.symm];by_cases s3:(wks step x.els (d) bd (wks step x.items (d) (bd) (step s' x d bd).2).2).1=0
  case neg=>
   rw[if_neg s3]at hr;simp -dsimp only[aw,jW,jV,jX,jY,jZ,reduceIte,jA,reduceCtorEq,jB,jC,jD,jE,jF,jG,decide_eq_false s3];refine kh (v:=.d (aa (wks step x.els (d) bd (wks step x.items (d) (bd) (step s' x d bd).2).2).1)) (k:=τ4.length) (τ:=τ4) (Pt _) Pf (by rw[hN4];exact hV.bb _ τ4 hJ4) rfl rfl ⟨τ4,by rw[hr];exact hJ4,(Pe _).symm,by rw[hr]⟩
  rw[if_pos s3]at hr;simp -dsimp only[aw,jW,jV,jX,jY,jZ,reduceIte,jA,reduceCtorEq,jB,jC,jD,jE,jF,jG,hcm,hlm,s3,decide_true,aJ hlt (show l.length≤9223372036854775807 by omega)];have hb4:ai (τ4++[[V.d (aa d),V.d (.sl (bd.map fun s=>[ae s]))]]).length (τ4++[[V.d (aa d),V.d (.sl (bd.map fun s=>[ae s]))]])=true:=aq (by rw[hN4];exact hV.bb _ τ4 hJ4) (by simp[V.unders,V.under]);exact⟨hlt,Nxt.drop3 (by simp) hb4 (by simp[an,V.under];exact V.under_mono (by omega) _ hV.und) ⟨_,τ4,by rw[hN4],hJ4,rfl,hr⟩⟩
 .simp -dsimp only[aw,jW,jV,jX,jY,jZ,reduceIte,jA,reduceCtorEq,jB,jC,jD,jE,jF,jG,Pd,hlt,decide_false];rw[List.drop_eq_nil_of_le (by omega)]at hr;refine kh (k:=N) (τ:=τ') (by omega) (by rw[<-hN'];exact Pf) (hV.bb s' τ' hJ') rfl rfl ⟨τ',by rw[hr];exact hJ',(Pe _).symm,by rw[hr];rfl⟩
end Go.Proofs.YtnhphlmblenapaaGreatDoor
