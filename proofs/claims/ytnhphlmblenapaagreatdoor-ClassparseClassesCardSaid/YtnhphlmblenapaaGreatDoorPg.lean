import Derived.Test.YtnhphlmblenapaaGreatDoorToks7
set_option linter.unusedVariables false
set_option linter.unusedSimpArgs false
set_option linter.unusedSectionVars false
set_option maxHeartbeats 1200000
open Bool renaming true_and->TJ,eq_iff_iff->TK,false_and->TL,and_false->TM,and_true->TN
open Int renaming ofNat_lt->TO,reduceEq->TP
open List renaming getElem?_eq_getElem->TQ,take_left->TR,drop_eq_getElem_cons->TS,length_map->TT,take_length->TU,length_take->TV,length_drop->TW,drop_eq_nil_of_le->TX,getElem?_drop->TY,length_cons->TZ,takeWhile_cons_of_pos->T0,take_of_length_le->T1,length_append->T3,take_add_one->T4,getElem?_map->T5,getElem_mem->T6,drop_length->T7,cons_append->T8,map_append->T9,length_nil->Ua,drop_drop->Ub,map_cons->Uc,map_map->Ud
open Nat renaming le_refl->Ue
namespace Go.Proofs.YtnhphlmblenapaaGreatDoor
open Go.RowKit
open Nat renaming reduceLeDiff -> jA, reduceBEq -> jB, reduceLT -> jC, reduceEqDiff -> jD, reduceAdd -> jE, reduceSub -> jF, reduceMul -> jG
open V renaming copy -> jV, lend -> jW, lend1 -> jX, cells -> jY, boxable -> jZ
theorem pf(l:Bs)(a:Nat)(ha:a≤l.length)(hl:l.length≤1200000)(σ:LLV):Fun G 130 [.d (ai (bs l)),.d (ab a)] σ (aN (.d (ab ((l.length-(bE (l.drop a)).length:Nat):Int))) σ):=by
 refine ae Tryz.func130 RG rfl fun hb hw=>?_;unfold MH;simp -dsimp only[aw,jW,jV,jX,jY,jZ,reduceIte,jA,reduceCtorEq,jB,jC,jD,jE,jF,jG];refine aL [0,1] (R:=fun(j:Nat) ρ σ'=>∃b:Nat,b≤l.length/\a+j≤b/\bE (l.drop b)=bE (l.drop a)/\ρ=[(0,.d (ai (bs l))),(1,aF .i64 (b:Nat))]/\σ'=σ) (l.length-a) ⟨a,ha,by omega,rfl,rfl,rfl⟩ ?_ _;rintro j ρ' σ' hj ⟨b,hbl,hab,hsk,rfl,rfl⟩;by_cases hlt:b<l.length
 .have hdb:l.drop b=l[b]::l.drop (b+1):=TS hlt;have hlt':(b:Int)<((l.length:Nat):Int):=by omega
  have hdl:=TW (l:=l) (i:=b);have hbk:xO l[b]=(l[b]==32||l[b]==9||l[b]==10):=rfl;have hnx:IntKind.i64.wrap ((b:Int)+1)=((b+1:Nat):Int):=by rw[aA (by omega) (by omega)];rfl
  cases hbl2:xO l[b]with
  | true=>
   have hs1:bE (l.drop (b+1))=bE (l.drop a):=by rw[<-hsk,hdb,dP,if_pos hbl2]
   have next:a+j<a+(l.length-a)/\Nxt σ'.length (fun ρ σ'=>∃b:Nat,b≤l.length/\a+(j+1)≤b/\bE (l.drop b)=bE (l.drop a)/\ρ=[(0,V.d (ai (bs l))),(1,aF .i64 (b:Nat))]/\σ'=σ') [(0,V.d (ai (bs l))),(1,aF .i64 ((b+1:Nat):Int))] σ' .mk:=⟨by omega,Nxt.same (Ue _) hb rfl ⟨b+1,by omega,by omega,hs1,rfl,rfl⟩⟩
   rw[hbk]at hbl2;cases e1:(l[b]==32)with
   | true=>
    simp -dsimp only[aw,jW,jV,jX,jY,jZ,reduceIte,jA,reduceCtorEq,jB,jC,jD,jE,jF,jG,aG,decide_eq_true hlt',bz,TQ hlt,cm,zA,e1,hnx];exact⟨by omega,Nxt.same (Ue _) hb rfl ⟨b+1,by omega,by omega,hs1,rfl,rfl⟩⟩
   | false=>
    cases e2:(l[b]==9)with
    | true=>
     simp -dsimp only[aw,jW,jV,jX,jY,jZ,reduceIte,jA,reduceCtorEq,jB,jC,jD,jE,jF,jG,aG,decide_eq_true hlt',bz,TQ hlt,cm,zA,JH,e1,e2,hnx];exact⟨by omega,Nxt.same (Ue _) hb rfl ⟨b+1,by omega,by omega,hs1,rfl,rfl⟩⟩
    | false=>
     have e3:(l[b]==10)=true:=by rw[e1,e2]at hbl2;exact hbl2
     simp -dsimp only[aw,jW,jV,jX,jY,jZ,reduceIte,jA,reduceCtorEq,jB,jC,jD,jE,jF,jG,aG,decide_eq_true hlt',bz,TQ hlt,cm,zA,JH,tX,e1,e2,e3,hnx];exact⟨by omega,Nxt.same (Ue _) hb rfl ⟨b+1,by omega,by omega,hs1,rfl,rfl⟩⟩
  | false=>
   have hbl3:=hbl2;rw[hbk]at hbl3;simp only[Bool.or_eq_false_iff]at hbl3;obtain⟨⟨e1,e2⟩,e3⟩:=hbl3;simp -dsimp only[aw,jW,jV,jX,jY,jZ,reduceIte,jA,reduceCtorEq,jB,jC,jD,jE,jF,jG,aG,decide_eq_true hlt',bz,TQ hlt,cm,zA,JH,tX,e1,e2,e3];refine ac (nx l [47,47] b hbl hl (by decide) _) ?_;cases hpre:([47,47]:Bs).isPrefixOf (l.drop b)with
   | true=>
    obtain⟨r2,hr2⟩:=List.isPrefixOf_iff_prefix.1 hpre;have hdw:(l.drop b).drop ((l.drop b).takeWhile (· != 10)).length=(l.drop b).dropWhile (· != 10):=vB _ _
    have hs1:bE (l.drop (b+((l.drop b).takeWhile (· != 10)).length))=bE (l.drop a):=by
     rw[<-Ub,hdw,<-hsk,<-hr2,T8,dP 47,if_neg (by decide),if_pos ⟨rfl,rfl⟩]
    have hle:=x9 (q:=(· != 10)) (l.drop b);have htp:1≤((l.drop b).takeWhile (· != 10)).length:=by rw[<-hr2,T8,T0 (by decide)];simp
    have he:=zj (q:=(· != 10)) (l.drop b);have ht:=fun j=>@FX (· != 10) (l.drop b) j;generalize ((l.drop b).takeWhile (· != 10)).length=K at *;simp -dsimp only[aw,jW,jV,jX,jY,jZ,reduceIte,jA,reduceCtorEq,jB,jC,jD,jE,jF,jG];refine aL [0,1] (R:=fun(i:Nat) ρ σ''=>ρ=[(0,.d (ai (bs l))),(1,aF .i64 ((b+i:Nat):Int))]/\σ''=σ') K ⟨rfl,rfl⟩ ?_ _;rintro i ρ' σ'' hi ⟨rfl,rfl⟩;have w1:IntKind.i64.wrap (((b+i:Nat):Int)+1)=((b+(i+1):Nat):Int):=by rw[aA (by omega) (by omega)];omega
    by_cases hik:i<K
    .obtain⟨c,h1,h2⟩:=ht i hik;rw[TY]at h1;have hx:b+i<l.length:=by omega
     have hc10:(c==10)=false:=by simpa using h2
     simp -dsimp only[aw,jW,jV,jX,jY,jZ,reduceIte,jA,reduceCtorEq,jB,jC,jD,jE,jF,jG,aG,TO,hx,decide_true,bz,h1,cm,tX,hc10,w1];exact⟨hik,Nxt.same (Ue _) hb rfl ⟨rfl,rfl⟩⟩
    .have hik2:i=K:=by omega
     subst hik2;rcases he with he|⟨c,h1,h2⟩
     .have hx:¬b+i<l.length:=by omega
      simp -dsimp only[aw,jW,jV,jX,jY,jZ,reduceIte,jA,reduceCtorEq,jB,jC,jD,jE,jF,jG,aG,TO,hx,decide_false];exact⟨by omega,Nxt.same (Ue _) hb rfl ⟨b+i,by omega,by omega,hs1,rfl,rfl⟩⟩
     .rw[TY]at h1;have hx:b+i<l.length:=(List.getElem?_eq_some_iff.1 h1).1;have hc10:(c==10)=true:=by simpa using h2
      simp -dsimp only[aw,jW,jV,jX,jY,jZ,reduceIte,jA,reduceCtorEq,jB,jC,jD,jE,jF,jG,aG,TO,hx,decide_true,bz,h1,cm,tX,hc10];exact⟨by omega,Nxt.same (Ue _) hb rfl ⟨b+i,by omega,by omega,hs1,rfl,rfl⟩⟩
   | false=>
    simp -dsimp only[aw,jW,jV,jX,jY,jZ,reduceIte,jA,reduceCtorEq,jB,jC,jD,jE,jF,jG]
    have hs:bE (l.drop b)=l.drop b:=by
     rw[hdb,dP,if_neg (by rw[hbl2];decide),if_neg];rintro⟨h1,h2⟩;rw[hdb,h1]at hpre
     match hd2:l.drop (b+1),h2 with
     | d::r3,h2=>
      rw[hd2]at hpre;simp only[List.head?_cons,Option.some.injEq]at h2;subst h2;simp at hpre
    rw[<-hsk,hs,hdl,show l.length-(l.length-b)=b by omega];exact ak hb rfl rfl
 .have hbe:b=l.length:=by omega
  subst hbe;simp -dsimp only[aw,jW,jV,jX,jY,jZ,reduceIte,jA,reduceCtorEq,jB,jC,jD,jE,jF,jG,aG,Int.lt_irrefl,decide_false];rw[<-hsk,T7,gx];exact ak hb rfl rfl
theorem sd(n:Nat)(l:Bs)(a:Nat)(hn:dN (l.drop a)=n)(ha:a≤l.length)(hl:l.length≤1200000)(σ:LLV):Fun G 191 [.d (ai (bs l)),.d (ab a)] σ (aN (.d (ai (bs ((l.drop a).take n)))) σ):=by
 subst hn;have hmk:aP.length=36:=rfl;refine ae Tryz.func191 QZ rfl fun hb hw=>?_;unfold LR;simp -dsimp only[aw,jW,jV,jX,jY,jZ,reduceIte,jA,reduceCtorEq,jB,jC,jD,jE,jF,jG];refine ac (pA _) ?_;simp -dsimp only[aw,jW,jV,jX,jY,jZ,reduceIte,jA,reduceCtorEq,jB,jC,jD,jE,jF,jG];generalize hrows:(f7.map fun s=>[ai s])=rows;have hlen:rows.length=36:=by rw[<-hrows];rfl
 have hd:cV f7=.sl rows:=by rw[<-hrows];rfl
 rw[hd];refine aL [0,1,5,6,7] (R:=fun(j:Nat) ρ σ'=>ρ=[(0,.d (ai (bs l))),(1,aF .i64 a),(5,.d (.sl rows)),(6,.d (ai (bs ((l.drop a).take (gN (aP.take j) 0 (l.drop a)))))),(7,aF .i64 j)]/\σ'=σ) 36 ⟨rfl,rfl⟩ ?_ _;rintro j ρ' σ' hj ⟨rfl,rfl⟩;by_cases hlt:j<36
 .have hjm:j<aP.length:=hlt;have hrj:rows[j]? = some [ai (bs aP[j])]:=by rw[<-hrows,T5,f7,T5,TQ hjm];rfl
  have hlt':(j:Int)<36:=by omega
  have htk:aP.take (j+1)=aP.take j++[aP[j]]:=by rw[T4,TQ hjm];rfl
  have hbs:=mF (l.drop a) (aP.take j) aP[j] 0;have hbin:=nH (aP.take j) 0 (l.drop a);rw[<-htk]at hbs;have hml:aP[j].length≤2:=(by decide:∀m,m∈aP->m.length≤2) _ (T6 hjm);generalize aP[j]=m at *;generalize hbe:gN (aP.take j) 0 (l.drop a)=best at *
  have hbl:((l.drop a).take best).length=best:=by
   rw[TV];rcases hbin with h|⟨m',h1,h2,h3⟩
   .omega
   .have:=(List.isPrefixOf_iff_prefix.1 h2).length_le;omega
  simp -dsimp only[aw,jW,jV,jX,jY,jZ,reduceIte,jA,reduceCtorEq,jB,jC,jD,jE,jF,jG,hlen,TO,hlt,decide_true,hrj];refine ac (nx l m a ha hl (by omega) _) ?_;cases hp:m.isPrefixOf (l.drop a)with
  | true=>
   have hpt:(l.drop a).take m.length=m:=(List.prefix_iff_eq_take.1 (List.isPrefixOf_iff_prefix.1 hp)).symm;by_cases hgt:best<m.length
   .have hgt':(best:Int)<(m.length:Nat):=by omega
    simp -dsimp only[aw,jW,jV,jX,jY,jZ,reduceIte,jA,reduceCtorEq,jB,jC,jD,jE,jF,jG,hrj,aG,hbl,decide_eq_true hgt',aJ hlt (show 36≤9223372036854775807 by decide)];refine⟨hlt,Nxt.same (Ue _) hb rfl ⟨?_,rfl⟩⟩;rw[hbs,if_pos ⟨hgt,hp⟩,hpt]
   .have hgt':¬(best:Int)<(m.length:Nat):=by omega
    simp -dsimp only[aw,jW,jV,jX,jY,jZ,reduceIte,jA,reduceCtorEq,jB,jC,jD,jE,jF,jG,hrj,aG,hbl,decide_eq_false hgt',aJ hlt (show 36≤9223372036854775807 by decide)];refine⟨hlt,Nxt.same (Ue _) hb rfl ⟨?_,rfl⟩⟩;rw[hbs,if_neg (fun h=>hgt h.1)]
  | false=>
   simp -dsimp only[aw,jW,jV,jX,jY,jZ,reduceIte,jA,reduceCtorEq,jB,jC,jD,jE,jF,jG,aJ hlt (show 36≤9223372036854775807 by decide)];refine⟨hlt,Nxt.same (Ue _) hb rfl ⟨?_,rfl⟩⟩;rw[hbs,if_neg (fun h=>by rw[hp]at h;cases h.2)]
 .have hlt':¬(j:Int)<36:=by omega
  have hbe:gN (aP.take j) 0 (l.drop a)=dN (l.drop a):=by rw[T1 (by rw[hmk];omega)];rfl
  rw[hbe];simp -dsimp only[aw,jW,jV,jX,jY,jZ,reduceIte,jA,reduceCtorEq,jB,jC,jD,jE,jF,jG,hlen,TO,hlt,decide_false];exact ak hb rfl rfl
def j0(r:Bs):Rd->V
 | .err e=>.tup [bT,.d (ab e)]
 | .tok k n len=>.tup [cr k n (r.take len) 0,.d (ab 0)]
theorem uz{q:UInt8->Bool}(r:Bs):r.take (r.takeWhile q).length=r.takeWhile q:=(List.prefix_iff_eq_take.1 (List.takeWhile_prefix _)).symm
theorem fF{σ:LLV}{ρ:aj}{rs:List RV}{v:V}{l:LLV}(hb:am σ.length σ=true)(h:aC (σ++l) ρ rs=some v)(hv:V.under σ.length v=true):fin σ.length rs (aN v σ) .ret ρ (σ++l):=
 az hb h hv TR ⟨rfl,rfl⟩
theorem x8(n:Nat)(l r:Bs)(c:UInt8)(s:Bs)(a:Nat)(hr:l.drop a=r)(hc:r=c::s)(hn:dN r=n)(hl:l.length≤1200000)(σ:LLV):Fun G 131 [.d (ai (bs l)),.d (ab a)] σ (aN (j0 r (c7 r)) σ):=by
 have hal:a<l.length:=by
  rcases Nat.lt_or_ge a l.length with h|h
  .exact h
  .rw[TX h]at hr;rw[<-hr]at hc;cases hc
 have hla:l[a]? = some c:=by
  have:=TY (xs:=l) (i:=a) (j:=0);rw[hr,hc]at this;simpa using this.symm
 have hrl:r.length≤l.length-a:=by rw[<-hr,TW];exact Ue _
 have hbh:=ui l a (by omega) hl;rw[hr]at hbh;have hw1:=x9 (q:=inn) r
 have hsub:mC true 0 (V.d (ai (bs l))) (some (V.d (ab (a:Int)))) (some (V.d (ab ((a+(r.takeWhile inn).length:Nat):Int))))=some (V.d (ai (bs (r.takeWhile inn)))):=by
  rw[Fg l a _ (by omega),hr,uz]
 refine ae Tryz.func131 Rs rfl fun hb hw=>?_;unfold Pf;simp -dsimp only[aw,seval,bz,hla,cm];refine ac (kW _ _) ?_;cases hlow:ff c.toNat with
 | true=>
  have hrd:c7 r=if 16<(r.takeWhile inn).length then .err 2 else .tok (if inB (bs (r.takeWhile inn)) cj=true then 2 else 1) 0 (r.takeWhile inn).length:=by
   rw[hc];simp only[c7,hlow,if_true];rfl
  rw[hrd];have htk:=uz (q:=inn) r;generalize r.takeWhile inn=t at *;simp -dsimp only[aw,seval];refine ac (hbh _) ?_;simp -dsimp only[aw,seval,hsub,aG];by_cases h16:16<t.length
  .have h16':(16:Int)<(t.length:Nat):=by omega
   simp -dsimp only[aw,seval,decide_eq_true h16'];rw[if_pos h16];exact fF hb (by simp[mq,aC,bZ,aQ,j0,bT,cr,cJ,aw,seval]) rfl
  .have h16':¬(16:Int)<(t.length:Nat):=by omega
   simp -dsimp only[aw,seval,decide_eq_false h16'];rw[if_neg h16];refine ac (mW _ _) ?_;cases hkw:inB (bs t) cj with
   | true=>
    simp -dsimp only[aw,seval];exact fF hb (by simp[mq,aC,bZ,aQ,j0,bT,cr,cJ,htk,aw,seval]) rfl
   | false=>
    simp -dsimp only[aw,seval];exact fF hb (by simp[mq,aC,bZ,aQ,j0,bT,cr,cJ,htk,aw,seval]) rfl
 | false=>
  simp -dsimp only[aw,seval,bz,hla,cm];refine ac (pw _ _) ?_;cases hdig:dG c.toNat with
  | true=>
   have hrd:c7 r=if((r.takeWhile inn).all fun x=>dG x.toNat)=false\/(1<(r.takeWhile inn).length/\c=48)then .err 5 else if 2147483647<ck (r.takeWhile inn)then .err 3 else .tok 3 (ck (r.takeWhile inn)) (r.takeWhile inn).length:=by
    rw[hc];simp only[c7,hlow,hdig,if_true,Bool.false_eq_true,if_false]
   rw[hrd];have htk:=uz (q:=inn) r;have htc:r.takeWhile inn=c::s.takeWhile inn:=by rw[hc];exact T0 (Aa hdig)
   generalize r.takeWhile inn=t at *;simp -dsimp only[aw,seval];refine ac (hbh _) ?_;simp -dsimp only[aw,seval,hsub];refine ac (w8 c _ t htc hdig (by omega) _) ?_;unfold oP;by_cases h5:t.all dig=false\/(1<t.length/\c=48)
   .rw[if_pos h5,if_pos (show(t.all fun x=>dG x.toNat)=false\/(1<t.length/\c=48)from h5)];simp -dsimp only[aw,seval];exact fF hb (by simp[mq,aC,bZ,aQ,j0,bT,cr,cJ,aw,seval]) rfl
   .rw[if_neg h5,if_neg (show ¬((t.all fun x=>dG x.toNat)=false\/(1<t.length/\c=48))from h5)];by_cases h9:9223372036854775807<ck t
    .rw[if_pos h9,if_pos (by omega)];simp -dsimp only[aw,seval];exact fF hb (by simp[mq,aC,bZ,aQ,j0,bT,cr,cJ,aw,seval]) rfl
    .rw[if_neg h9];by_cases h3:2147483647<ck t
     .have h3':(2147483647:Int)<((ck t:Nat):Int):=by omega
      rw[if_pos h3];simp -dsimp only[aw,seval,TP,decide_eq_true h3',decide_true,decide_false];exact fF hb (by simp[mq,aC,bZ,aQ,j0,bT,cr,cJ,aw,seval]) rfl
     .have h3':¬(2147483647:Int)<((ck t:Nat):Int):=by omega
      rw[if_neg h3];simp -dsimp only[aw,seval,TP,decide_eq_false h3',decide_true,decide_false];exact fF hb (by simp[mq,aC,bZ,aQ,j0,bT,cr,cJ,htk,aw,seval]) rfl
  | false=>
   have hrd:c7 r=if n=0 then .err 5 else .tok 4 0 n:=by rw[<-hn,hc];exact qL c s hlow hdig
   rw[hrd];have hbl:=(uB r).1;rw[hn]at hbl;simp -dsimp only[aw,seval];refine ac (sd n l a (by rw[hr];exact hn) (by omega) hl _) ?_;rw[hr];by_cases hz:n=0
   .have e0:decide (bs (r.take n)=(⟨#[]⟩:ByteArray))=true:=by rw[hz];rfl
    simp -dsimp only[aw,seval,e0];rw[if_pos hz];exact fF hb (by simp[mq,aC,bZ,aQ,j0,bT,cr,cJ,aw,seval]) rfl
   .have e0:decide (bs (r.take n)=(⟨#[]⟩:ByteArray))=false:=by
     rw[decide_eq_false_iff_not];intro h;have h2:=uY.1 (h:bs (r.take n)=bs []);have h3:=congrArg List.length h2;rw[TV,Ua]at h3;omega
    simp -dsimp only[aw,seval,e0];rw[if_neg hz];exact fF hb (by simp[mq,aC,bZ,aQ,j0,bT,cr,cJ,aw,seval]) rfl
theorem vA(l:Bs)(hl:l.length≤1200000)(σ:LLV):Fun G 69 [.d (ai (bs l))] σ (aN (kf l) σ):=by
 refine ae Tryz.func69 k69 rfl fun hb hw=>?_;unfold c69;by_cases hbig:16384<l.length
 .have hbig':(16384:Int)<((l.length:Nat):Int):=by omega
  simp -dsimp only[aw,seval,aG,decide_eq_true hbig'];exact az hb (v:=kf l) (by unfold kf;rw[if_pos hbig];rfl) (by unfold kf;rw[if_pos hbig];rfl) TU ⟨rfl,rfl⟩
 .have hbig':¬(16384:Int)<((l.length:Nat):Int):=by omega
  have hR:kf l=kB (cS l):=by unfold kf;rw[if_neg hbig]
  rw[hR];obtain⟨T,hT⟩:∃T:Int,T=1+(l.count 10:Nat):=⟨_,rfl⟩
  have htk:cS l=fV T l:=by rw[hT];rfl
  have hline:∀a,1+(((l.take a).count 10:Nat):Int)=T-(((l.drop a).count 10:Nat):Int):=fun a=>by
   have:l.count 10=(l.take a).count 10+(l.drop a).count 10:=by rw[<-List.count_append,List.take_append_drop]
   omega
  have hsuf:∀a,a≤l.length->l.drop (l.length-(bE (l.drop a)).length)=bE (l.drop a)/\a≤l.length-(bE (l.drop a)).length:=fun a ha=>by
   have h1:bE (l.drop a) <:+ l:=(dI _).trans (List.drop_suffix _ _);have h2:=(dI (l.drop a)).length_le;rw[TW]at h2;exact⟨(List.suffix_iff_eq_drop.1 h1).symm,by omega⟩
  simp -dsimp only[aw,seval,aG,decide_eq_false hbig'];refine ac (pf l 0 (by omega) hl _) ?_;simp -dsimp only[aw,seval];have hs0:=hsuf 0 (by omega);rw[List.drop_zero]at hs0;refine aL [0,5,6] (R:=fun(j:Nat) ρ σ'=>∃(acc:List Tok) (a:Nat),a≤l.length/\j≤a/\bE (l.drop a)=l.drop a/\cS l=(fV T (l.drop a)).app acc/\acc.length≤j/\ρ=[(0,.d (ai (bs l))),(5,.own 121 4 (acc.map di)),(6,aF .i64 (a:Nat))]/\σ'=σ) l.length ⟨[],l.length-(bE l).length,by omega,by omega,by rw[hs0.1,jk],by rw[Aj,hs0.1,jv,htk],by simp,rfl,rfl⟩ ?_ _;rintro j ρ' σ' hj ⟨acc,a,hal,hja,hs,hr,hacc,rfl,rfl⟩;obtain⟨r,hre⟩:∃r,r=l.drop a:=⟨_,rfl⟩
  rw[<-hre]at hs hr;by_cases hlt:a<l.length
  .obtain⟨c,s,hcs⟩:∃c s,r=c::s:=⟨_,_,hre.trans (TS hlt)⟩
   have hst:=cX T r;rw[hs]at hst;have hln:=hline a;rw[<-hre]at hln;have hrl:r.length=l.length-a:=by rw[hre,TW]
   simp -dsimp only[aw,seval,aG,TO,hlt];refine ac (x8 (dN r) l r c s a hre.symm hcs rfl hl _) ?_;cases hrd:c7 r with
   | err e=>
    have he0:=qR hrd;simp -dsimp only[aw,seval,j0,bT,cr,decide_eq_false he0];refine ac (qH l a hal hl _) ?_;rw[hln];simp -dsimp only[aw,seval]
    have hv:cS l=.err (T-(r.count 10:Nat)) e:=by
     rw[hr,hst];rw[hcs]at hrd ⊢;simp only[hrd,Lx.app]
    exact fF hb (by rw[hv];rfl) (by rw[hv];rfl)
   | tok kd n len=>
    obtain⟨g1,g2⟩:=jh hrd;simp -dsimp only[aw,seval,j0,cr];refine ac (qH l a hal hl _) ?_;rw[hln];have hlt2:(r.take len).length=len:=by rw[TV];omega
    have wa:IntKind.i64.wrap ((a:Int)+(len:Nat))=((a+len:Nat):Int):=by rw[aA (by omega) (by omega)];omega
    simp -dsimp only[aw,seval,TT];refine bg (by omega) ?_;simp -dsimp only[aw,seval,aG,hlt2,wa];refine ac (pf l (a+len) (by omega) hl _) ?_;simp -dsimp only[aw,seval];obtain⟨k1,k2⟩:=hsuf (a+len) (by omega);have hdd:l.drop (a+len)=r.drop len:=by rw[hre,Ub]
    have hv:cS l=(fV T (bE (l.drop (a+len)))).app (acc++[iH T r kd n len]):=by
     rw[hr,hst,jv,<-wB,hdd];rw[hcs]at hrd ⊢;simp only[hrd]
    refine⟨by omega,Nxt.drop (Ue _) hb rfl ⟨acc++[iH T r kd n len],l.length-(bE (l.drop (a+len))).length,by omega,by omega,by rw[k1,jk],by rw[k1];exact hv,by simp;omega,?_,rfl⟩⟩;simp only[T9,Uc,List.map_nil];rfl
  .have hae:a=l.length:=by omega
   have hrn:r=[]:=by rw[hre,hae,T7]
   rw[hrn,cX,gx]at hr;simp -dsimp only[aw,seval,aG,TO,hlt];refine az hb (v:=kB (cS l)) ?_ ?_ TU ⟨rfl,rfl⟩
   .rw[hr];simp only[Lx.app,List.append_nil,kB];rfl
   .rw[hr];rfl
theorem xG(l:Bs)(σ:LLV):Fun G 96 [.d (ai (bs l))] σ (aN (.d (.lit (.bool (bC (bs l))))) σ):=
 nW Tryz.func96 (by kernel_rfl) (by kernel_rfl) trivial fun M bm pr w v hG hM h1=>by
  have hs:(bs l).size≤9223372036854775807:=by
   cases h1 with|d h=>cases h with|lit _ hf=>exact hf
  cases eC h1;exact gh (bs l) w hs (pW hG.1 hM)
theorem CM(l:List ByteArray)(s:ByteArray)(hl:l.length≤1200000)(σ:LLV):Fun G 237 [.d (cV l),.d (ai s)] σ fun o σ'=>∃i:Int,o=.ret (.d (ab i))/\σ'=σ/\decide (0≤i)=inB s l:=by
 refine ae Tryz.func237 Tx rfl fun hb hw=>?_;unfold P0;simp -dsimp only[aw,seval,cV];refine aL [0,1,7,8] (R:=fun(j:Nat) ρ σ'=>ρ=[(0,.d (.sl (l.map fun s=>[ai s]))),(1,.d (ai s)),(7,aF .i64 l.length),(8,aF .i64 j)]/\σ'=σ/\inB s l=inB s (l.drop j)) l.length ⟨rfl,rfl,rfl⟩ ?_ _;rintro j ρ' σ' hj ⟨rfl,rfl,hr⟩;by_cases hlt:j<l.length
 .have hd:inB s (l.drop j)=(decide (l[j]=s)||inB s (l.drop (j+1))):=by rw[TS hlt];rfl
  by_cases he:l[j]=s
  .simp -dsimp only[aw,seval,TO,hlt,decide_true,TQ hlt,decide_eq_true he.symm];rw[hd,decide_eq_true he]at hr;exact az hb rfl rfl TU ⟨j,rfl,rfl,by rw[hr,decide_eq_true (by omega)];rfl⟩
  .simp -dsimp only[aw,seval,TO,hlt,decide_true,TQ hlt,decide_eq_false (Ne.symm he),aJ hlt (show l.length≤9223372036854775807 by omega)];rw[hd,decide_eq_false he,Bool.false_or]at hr;exact Nxt.same (Ue _) hb rfl ⟨rfl,rfl,hr⟩
 .simp -dsimp only[aw,seval,TO,hlt];rw[TX (by omega)]at hr;exact az hb rfl rfl TU ⟨-1,rfl,rfl,by rw[hr];rfl⟩
theorem uN(l:List ByteArray)(s:ByteArray)(hl:l.length≤1200000)(σ:LLV):Fun G 201 [.d (cV l),.d (ai s)] σ (aN (.d (.lit (.bool (inB s l)))) σ):=by
 refine ae Tryz.func201 RF rfl fun hb hw=>?_;unfold LV;simp -dsimp only[aw,seval];refine aB (CM l s hl _) fun o σ' ⟨i,h1,h2,h3⟩=>?_;subst h1;subst h2;simp -dsimp only[aw,seval,aR,h3];exact ak hb rfl rfl
theorem Ax(l:Bs):inB (bs l) f7=aP.contains l:=by
 unfold inB f7;rw[List.any_map,List.contains_eq_any_beq];congr 1;funext x;rw[TK];simp only[Function.comp,decide_eq_true_eq,uY,beq_iff_eq];exact eq_comm
theorem yt(l:Bs)(σ:LLV):Fun G 333 [.d (ai (bs l))] σ (aN (.d (.lit (.bool (aP.contains l)))) σ):=by
 refine ae Tryz.func333 Q0 rfl fun hb hw=>?_;unfold Pe;have hg:∀ρ,ev G ρ (.g 1)=.row [.sl (aP.map fun s=>[.lit (.string (bs s))])] 0:=fun _=>rfl;simp -dsimp only[aw,seval,hg];refine ac (uN f7 (bs l) (by decide) _) ?_;rw[Ax];simp -dsimp only[aw,seval];exact ak hb rfl rfl
theorem sj(l:Bs)(σ:LLV):Fun G 324 [.d (ai (bs l))] σ (aN (.d (.lit (.bool (aP.contains l)))) σ):=by
 rw[<-Ax];exact uy _ _
theorem u6(l:Bs)(σ:LLV):Fun G 142 [.d (ai (bs l))] σ (aN (.d (.lit (.bool (bC (bs l))))) σ):=by
 have hnm:bC (bs l)=(kj l&&decide (l.length≤16) && !inB (bs l) cj):=by unfold bC fm;rw[bz,aG]
 rw[hnm];refine ae Tryz.func142 Tm rfl fun hb hw=>?_;unfold P4
 match l with
 | []=>
  simp -dsimp only[aw,seval,ut];exact ak hb rfl rfl
 | c::r=>
  obtain⟨l,hl⟩:∃l,l=c::r:=⟨_,rfl⟩
  have hnil:=yC c r;have hix:=lU c r;have hwl:kj (c::r)=(ff c.toNat&&(c::r).all inn):=rfl;rw[hwl];rw[<-hl]at hnil hix ⊢;by_cases h16:l.length≤16
  .have h16':¬(16:Int)<((l.length:Nat):Int):=by omega
   simp -dsimp only[aw,seval,hnil,aG,decide_eq_false h16',hix];refine ac (kW _ _) ?_;rw[decide_eq_true h16,TN];cases hlow:ff c.toNat with
   | false=>
    simp -dsimp only[aw,seval];exact ak hb rfl rfl
   | true=>
    simp -dsimp only[aw,seval];refine ac (mW _ _) ?_;cases hkw:inB (bs l) cj with
    | true=>
     simp -dsimp only[aw,seval];rw[TM];exact ak hb rfl rfl
    | false=>
     rw[TJ,Bool.not_false,TN];simp -dsimp only[aw,seval];refine aL [0,3] (R:=fun(j:Nat) ρ σ'=>ρ=[(0,.d (ai (bs l))),(3,aF .i64 j)]/\σ'=σ/\l.all inn=(l.drop j).all inn) l.length ⟨rfl,rfl,rfl⟩ ?_ _;rintro j ρ' σ' hj ⟨rfl,rfl,hr⟩;by_cases hlt:j<l.length
     .have hd:(l.drop j).all inn=(inn l[j]&&(l.drop (j+1)).all inn):=by rw[TS hlt];rfl
      simp -dsimp only[aw,seval,aG,TO,hlt,decide_true,bz,TQ hlt,cm];refine ac (kL _ _) ?_;cases hin:inn l[j]with
      | true=>
       rw[hd,hin,TJ]at hr;rw[show dV (l[j].toNat:Int)=true from hin];simp -dsimp only[aw,seval,aJ hlt (show l.length≤9223372036854775807 by omega)];exact⟨hlt,Nxt.same (Ue _) hb rfl ⟨rfl,rfl,hr⟩⟩
      | false=>
       rw[hd,hin,TL]at hr;rw[show dV (l[j].toNat:Int)=false from hin];simp -dsimp only[aw,seval];rw[hr];exact ak hb rfl rfl
     .simp -dsimp only[aw,seval,aG,TO,hlt];rw[TX (by omega)]at hr;rw[hr];exact ak hb rfl rfl
  .have h16':(16:Int)<((l.length:Nat):Int):=by omega
   simp -dsimp only[aw,seval,hnil,aG,decide_eq_true h16'];rw[decide_eq_false h16,TM,TL];exact ak hb rfl rfl
theorem zR:∀(k u:Nat),u<10^(k+1)->(Lib.decDigits u).length≤k+1
 | 0,u,h=>by rw[Lib.decDigits,dif_pos (by simpa using h)];exact Ue _
 | k+1,u,h=>by
  rw[Lib.decDigits];split
  .simp
  .rw[T3];have:=zR k (u/10) (by rw[Nat.pow_succ]at h;omega);simp;omega
theorem qd(n:Int)(h0:0≤n)(h1:n≤2147483647):(Lib.itoa n).length≤10:=by
 unfold Lib.itoa;rw[if_neg (by omega)];exact zR 9 _ (by omega)
def ea(t:Tok):V:=.agg [.d (ab t.kind),.d (ab t.num),.d (ai t.text),.d (ab t.line)]
theorem vH(n:Int)(l:Bs)(ln:Int)(h0:0≤n):bO ⟨3,n,bs l,ln⟩=(decide (n≤2147483647)&&decide (bs l=bs (Lib.itoa n))):=by
 have e:Lib.itoa n=Lib.decDigits n.toNat:=by unfold Lib.itoa;rw[if_neg (by omega)]
 unfold bO;rw[if_pos rfl,e,bz,vg,decide_eq_true h0,TJ];show(decide (n≤2147483647)&&(l==Lib.decDigits n.toNat))=_;congr 1;rw[TK];simp
theorem w9(n:Int)(l:Bs)(ln:Int)(h0:¬0≤n):bO ⟨3,n,bs l,ln⟩=false:=by
 unfold bO;rw[if_pos rfl,decide_eq_false h0];rfl
theorem Ja(n:Int)(l:Bs)(ln:Int):bO ⟨1,n,bs l,ln⟩=(decide (n=0)&&bC (bs l)):=rfl
theorem Jk(n:Int)(l:Bs)(ln:Int):bO ⟨2,n,bs l,ln⟩=(decide (n=0)&&inB (bs l) cj):=rfl
theorem Jf(n:Int)(l:Bs)(ln:Int):bO ⟨4,n,bs l,ln⟩=(decide (n=0)&&aP.contains l):=by
 unfold bO;rw[if_neg (by show ¬(4:Int)=3;decide),if_neg (by show ¬(4:Int)=1;decide),if_neg (by show ¬(4:Int)=2;decide),if_pos rfl,bz]
theorem Je(k n:Int)(l:Bs)(ln:Int)(h1:¬k=1)(h2:¬k=2)(h3:¬k=3)(h4:¬k=4):bO ⟨k,n,bs l,ln⟩=false:=by
 unfold bO;rw[if_neg h3,if_neg h1,if_neg h2,if_neg h4]
theorem ue(k n:Int)(l:Bs)(ln:Int)(σ:LLV):Fun G 332 [ea ⟨k,n,bs l,ln⟩] σ (aN (.d (.lit (.bool (bO ⟨k,n,bs l,ln⟩)))) σ):=by
 unfold ea;refine ae Tryz.func332 TA rfl fun hb hw=>?_;have hn:=KM (zS (hw 0 (by simp)) 1 (by simp));unfold MU;by_cases h3:k=3
 .subst h3;by_cases h0:0≤n
  .rw[vH n l ln h0];by_cases hm:n≤2147483647
   .simp -dsimp only[aw,seval,TP,decide_true,decide_false,decide_eq_true h0,decide_eq_true hm];refine bo (rm n (by omega) (by omega) (by have:=qd n h0 hm;unfold maxLen;omega) _) ?_;simp -dsimp only[aw,seval,vg];rw[decide_eq_true hm,TJ];exact az hb rfl rfl TR ⟨rfl,rfl⟩
   .simp -dsimp only[aw,seval,TP,decide_true,decide_false,decide_eq_true h0,decide_eq_false hm];exact az hb rfl rfl TR ⟨rfl,rfl⟩
  .rw[w9 n l ln h0];simp -dsimp only[aw,seval,TP,decide_true,decide_false,decide_eq_false h0];exact az hb rfl rfl TR ⟨rfl,rfl⟩
 by_cases h1:k=1
 .subst h1;rw[Ja];by_cases hz:n=0
  .simp -dsimp only[aw,seval,TP,decide_true,decide_false,decide_eq_true hz];refine ac (xG l _) ?_;simp -dsimp only[aw,seval];rw[decide_eq_true hz,TJ];exact az hb rfl rfl TR ⟨rfl,rfl⟩
  .simp -dsimp only[aw,seval,TP,decide_true,decide_false,decide_eq_false hz];exact az hb rfl rfl TR ⟨rfl,rfl⟩
 by_cases h2:k=2
 .subst h2;rw[Jk];by_cases hz:n=0
  .simp -dsimp only[aw,seval,TP,decide_true,decide_false,decide_eq_true hz];refine ac (wR l _) ?_;simp -dsimp only[aw,seval];rw[decide_eq_true hz,TJ];exact az hb rfl rfl TR ⟨rfl,rfl⟩
  .simp -dsimp only[aw,seval,TP,decide_true,decide_false,decide_eq_false hz];exact az hb rfl rfl TR ⟨rfl,rfl⟩
 by_cases h4:k=4
 .subst h4;rw[Jf];by_cases hz:n=0
  .simp -dsimp only[aw,seval,TP,decide_true,decide_false,decide_eq_true hz];refine ac (yt l _) ?_;simp -dsimp only[aw,seval];rw[decide_eq_true hz,TJ];exact az hb rfl rfl TR ⟨rfl,rfl⟩
  .simp -dsimp only[aw,seval,TP,decide_true,decide_false,decide_eq_false hz];exact az hb rfl rfl TR ⟨rfl,rfl⟩
 rw[Je k n l ln h1 h2 h3 h4];simp -dsimp only[aw,seval,decide_eq_false h1,decide_eq_false h2,decide_eq_false h3,decide_eq_false h4];exact az hb rfl rfl TR ⟨rfl,rfl⟩
theorem JR(t:Tok):t=⟨t.kind,t.num,bs t.text.data.toList,t.line⟩:=by rw[jR]
theorem ww(t:Tok)(σ:LLV):Fun G 332 [ea t] σ (aN (.d (.lit (.bool (bO t)))) σ):=by
 rw[JR t];exact ue _ _ _ _ _
theorem IL(t:Tok):ea t=.agg [.d (ab t.kind),.d (ab t.num),.d (ai t.text),.d (ab t.line)]:=rfl
def z7(ts:List Tok):V:=if ts.all bO=true then .tup [.d (ai (bs (lk ts))),.d (ab 0)]else .tup [.d (ai ⟨#[]⟩),.d (ab 1)]
theorem sB(n:Nat):∀(l:List Tok),(∀t,t∈l->t.text.size≤n)->(lk l).length≤(n+1)*l.length
 | [],_=>by simp[lk]
 | [a],h=>by have:=h a (by simp);rw[Lib.size_eq]at this;simp only[lk,TZ,Ua];omega
 | a::b::r,h=>by
  have h1:=h a (by simp);have h2:=sB n (b::r) fun t ht=>h t (by simp at ht ⊢;exact .inr ht);rw[Lib.size_eq]at h1;have e:(n+1)*(a::b::r).length=(n+1)*(b::r).length+(n+1):=by rw[TZ (a:=a),Nat.mul_succ]
  rw[e];simp only[lk,T3,TZ]at h2 ⊢;omega
theorem Az:∀ts:List Tok,Lib.join (ts.map fun t=>t.text.data.toList) [32]=lk ts
 | []=>rfl
 | [t]=>by simp[lk,Lib.join_one]
 | t::u::r=>by
  have:=Az (u::r);simp only[Uc]at this ⊢;rw[Lib.join_cons]at this ⊢;simp only[lk,<-this];simp[Lib.joinTail]
theorem zo(ts:List Tok)(hl:ts.length≤1000)(ht:∀t,t∈ts->t.text.size≤1000)(σ:LLV):Fun G 331 [.d (.sl (ts.map di))] σ (aN (z7 ts) σ):=by
 refine ae Tryz.func331 QG rfl fun hb hw=>?_;unfold Ql;simp -dsimp only[aw,seval];refine bg (by first|omega|(simp only[TT];omega)) ?_;simp -dsimp only[aw,seval];refine aL [4,10,11,12] (R:=fun(j:Nat) ρ σ'=>ρ=[(4,.own 9 1 ((ts.take j).map fun t=>[ai t.text])),(10,.d (.sl (ts.map di))),(11,aF .i64 ts.length),(12,aF .i64 j)]/\σ'=σ/\(ts.take j).all bO=true) ts.length ⟨by simp[TT];rfl,rfl,rfl⟩ ?_ _;rintro j ρ' σ' hj ⟨rfl,rfl,hv⟩;by_cases hlt:j<ts.length
 .have htk:ts.take (j+1)=ts.take j++[ts[j]]:=by rw[T4,TQ hlt];rfl
  have hall:(ts.take (j+1)).all bO=bO ts[j]:=by rw[htk,List.all_append,hv];simp
  simp -dsimp only[aw,seval,TO,hlt,decide_true,TQ hlt,di];rw[<-IL];refine ac (ww ts[j] _) ?_;cases hvj:bO ts[j]with
  | false=>
   simp -dsimp only[aw,seval]
   have:ts.all bO=false:=by
    rw[List.all_eq_false];exact⟨_,T6 hlt,by rw[hvj];decide⟩
   unfold z7;rw[if_neg (by rw[this];decide)];exact fF hb rfl rfl
  | true=>
   rw[hvj]at hall;simp -dsimp only[aw,seval];refine bg (by first|omega|(simp only[TT,TV];omega)) ?_;simp -dsimp only[aw,seval,aJ hlt (show ts.length≤9223372036854775807 by omega)];refine⟨hlt,Nxt.drop (Ue _) hb rfl ⟨?_,rfl,hall⟩⟩;rw[htk,T9];rfl
 .simp -dsimp only[aw,seval,TO,hlt];rw[T1 (by omega)]at hv ⊢;have hd:V.d (.sl (ts.map fun t=>[ai t.text]))=V.d (cV (ts.map Tok.text)):=by unfold cV;rw[Ud];rfl
  have hjl:=sB 1000 ts ht;have hjl2:(lk ts).length≤1001*1000:=Nat.le_trans hjl (Nat.mul_le_mul_left _ hl);have hjq:Lib.join ((ts.map Tok.text).map (·.data.toList)) [32]=lk ts:=by rw[<-Az,Ud];rfl
  rw[hd];refine ac (Gt (ts.map Tok.text) (by rw[TT];omega) (by rw[hjq];omega) _) ?_;rw[hjq];simp -dsimp only[aw,seval];unfold z7;rw[if_pos hv];exact ak hb rfl rfl
inductive PR where
 | out
 | bad (e:Int) (r:List Tok)
 | ok (e:Ex) (r:List Tok)
def PR.bind(x:PR)(f:Ex->List Tok->PR):PR:=match x with
 | .out=>.out
 | .bad e r=>.bad e r
 | .ok e r=>f e r
inductive PK where
 | W
 | I
 | L (k:Nat)
 | Lp (k:Nat) (a:Ex)
 | In (a:Ex)
 | Ip (args:List Ex)
 | U
 | P
def eO:List Tok->PR
 | []=>.bad 6 []
 | t::r=>.bad 5 (t::r)
def aa(c:UInt8):ByteArray:=⟨#[c]⟩
def ba(c d:UInt8):ByteArray:=⟨#[c,d]⟩
def acc(m:ByteArray):List Tok->Option (List Tok)
 | []=>none
 | t::r=>if bO t=true/\(t.kind=4\/t.kind=2)/\t.text=m then some r else none
def aK(o:Int)(l:List Ex):Ex:=.mk o 0 ⟨#[]⟩ l
def cC:List (ByteArray×Int×Nat):=[(ba 61 62,21,2),(ba 124 124,20,3),(ba 38 38,19,4),(aa 124,11,5),(aa 94,12,6),(aa 38,10,7),(ba 61 61,15,8),(ba 33 61,16,8),(aa 60,17,9),(ba 60 61,18,9),(ba 60 60,13,10),(ba 62 62,14,10),(aa 43,7,11),(aa 45,8,11),(aa 42,9,12)]
def jp:List (ByteArray×Int×Nat)->Nat->List Tok->Option (Int×List Tok)
 | [],_,_=>none
 | b::l,k,r=>if b.2.2=k then(match acc b.1 r with|some r1=>some (b.2.1,r1)|none=>jp l k r)else jp l k r
def dM(k:Nat)(r:List Tok):Option (Int×Bool×List Tok):=match jp cC k r with
 | some (o,r1)=>some (o,false,r1)
 | none=>if k=9 then(match acc (aa 62) r with
  | some r1=>some (17,true,r1)
  | none=>match acc (ba 62 61) r with
   | some r1=>some (18,true,r1)
   | none=>none)else none
def ct:ByteArray:=⟨#[105,110,115,105,100,101]⟩
def me:ByteArray:=⟨#[115,117,109]⟩
def gS:ByteArray:=⟨#[111,110,101,115]⟩
def bW:List Tok->Option (ByteArray×List Tok)
 | []=>none
 | t::r=>if bO t=true/\t.kind=1 then some (t.text,r)else none
def cB:List Tok->Option (Int×List Tok)
 | []=>none
 | t::r=>if bO t=true/\t.kind=3 then some (t.num,r)else none
def Hj(n:Int):ByteArray:=⟨(Lib.decDigits n.toNat).toArray⟩
def gX(s:ByteArray)(n:Int):ByteArray:=s++(aa 91++(Hj n++aa 93))
def ic(rec:PK->List Tok->PR)(r:List Tok):PR:=match acc (aa 40) r with
 | some r1=>(rec .W r1).bind fun e r2=>match acc (aa 41) r2 with
  | some r3=>.ok e r3
  | none=>eO r2
 | none=>match cB r with
  | some (n,r1)=>if 65535<n then .bad 3 r else .ok (.mk 1 n ⟨#[]⟩ []) r1
  | none=>match bW r with
   | none=>eO r
   | some (s,r1)=>match (if s=me then acc (aa 40) r1 else none)with
    | some r2=>match bW r2 with
     | none=>eO r2
     | some (a,r3)=>match acc (aa 41) r3 with
      | some r4=>.ok (.mk 24 0 a []) r4
      | none=>eO r3
    | none=>match (if s=gS then acc (aa 40) r1 else none)with
     | some r2=>(rec .W r2).bind fun e r3=>match acc (aa 41) r3 with
      | some r4=>.ok (aK 25 [e]) r4
      | none=>eO r3
     | none=>match acc (aa 91) r1 with
      | some r2=>(rec .W r2).bind fun e r3=>match acc (aa 93) r3 with
       | some r4=>.ok (.mk 3 0 s [e]) r4
       | none=>eO r3
      | none=>match acc (aa 64) r1 with
       | some r2=>match cB r2 with
        | none=>eO r2
        | some (n,r3)=>if 65535<n then .bad 3 r2 else .ok (.mk 2 0 (gX s n) []) r3
       | none=>.ok (.mk 2 0 s []) r1
def bj(rec:PK->List Tok->PR):PK->List Tok->PR
 | .W,r=>(rec .I r).bind fun c r1=>match acc (aa 63) r1 with
  | none=>.ok c r1
  | some r2=>(rec .W r2).bind fun a r3=>match acc (aa 58) r3 with
   | none=>eO r3
   | some r4=>(rec .W r4).bind fun b r5=>.ok (aK 22 [c,a,b]) r5
 | .I,r=>(rec (.L 3) r).bind fun a r1=>match acc (ba 61 62) r1 with
  | none=>.ok a r1
  | some r2=>(rec .I r2).bind fun b r3=>.ok (aK 21 [a,b]) r3
 | .L k,r=>if 12<k then rec .U r else(rec (.L (k+1)) r).bind fun a r1=>rec (.Lp k a) r1
 | .Lp k a,r=>match (if k=9 then acc ct r else none)with
  | some r1=>(rec (.In a) r1).bind fun b r2=>rec (.Lp k b) r2
  | none=>match dM k r with
   | none=>.ok a r
   | some (o,ex,r1)=>(rec (.L (k+1)) r1).bind fun c r2=>rec (.Lp k (if ex then aK o [c,a]else aK o [a,c])) r2
 | .In a,r=>match acc (aa 123) r with
  | none=>eO r
  | some r1=>rec (.Ip [a]) r1
 | .Ip args,r=>(rec .W r).bind fun lo r1=>match acc (ba 46 46) r1 with
  | none=>eO r1
  | some r2=>(rec .W r2).bind fun hi r3=>match acc (aa 44) r3 with
   | some r4=>rec (.Ip (args++[lo,hi])) r4
   | none=>match acc (aa 125) r3 with
    | some r5=>.ok (aK 23 (args++[lo,hi])) r5
    | none=>eO r3
 | .U,r=>match acc (aa 33) r with
  | some r1=>(rec .U r1).bind fun a r2=>.ok (aK 4 [a]) r2
  | none=>match acc (aa 126) r with
   | some r1=>(rec .U r1).bind fun a r2=>.ok (aK 5 [a]) r2
   | none=>match acc (aa 45) r with
    | some r1=>(rec .U r1).bind fun a r2=>.ok (aK 6 [a]) r2
    | none=>rec .P r
 | .P,r=>ic rec r
def fY:Nat->PK->List Tok->PR
 | 0,_,_=>.out
 | n+1,k,r=>bj (fY n) k r
end Go.Proofs.YtnhphlmblenapaaGreatDoor
