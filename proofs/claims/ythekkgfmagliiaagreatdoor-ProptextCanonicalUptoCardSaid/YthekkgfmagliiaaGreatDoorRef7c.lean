import Derived.Test.YthekkgfmagliiaaGreatDoorNum1
import Derived.Test.YthekkgfmagliiaaGreatDoorToks7
set_option maxHeartbeats 1000000
set_option linter.unusedVariables false
set_option linter.unusedSimpArgs false
set_option linter.unusedSectionVars false
open Int renaming ofNat_lt->Rs,reduceEq->Ru
open List renaming getElem?_eq_getElem->Rv,length_drop->Rw,getElem?_drop->Rx,length_take->Ry,takeWhile_cons_of_pos->Rz,drop_eq_getElem_cons->RA,getElem?_map->RB,take_length->RC,drop_length->RD,cons_append->RE,drop_drop->RF
open Nat renaming le_refl->RG
namespace Go.Proofs.YthekkgfmagliiaaGreatDoor
open Go.RowKit
open Nat renaming reduceLeDiff -> jA, reduceBEq -> jB, reduceLT -> jC, reduceEqDiff -> jD, reduceAdd -> jE, reduceSub -> jF, reduceMul -> jG
open V renaming copy -> jV, lend -> jW, lend1 -> jX, cells -> jY, boxable -> jZ
theorem pD(l:Bs)(a:Nat)(ha:a≤l.length)(hl:l.length≤1000000)(σ:LLV):Fun G 27 [.d (ae (bs l)),.d (ab a)] σ (aA (.d (ab ((l.length-(be (l.drop a)).length:Nat):Int))) σ):=by
 refine ai Tryz.func27 k27 rfl fun hb hw=>?_;unfold c27;simp -dsimp only[aw,jV,jW,jX,jY,jZ,jA,reduceIte,reduceCtorEq,jB,jC,jD,jE,jF,jG];refine bj [0,1] (R:=fun(j:Nat) ρ σ'=>∃b:Nat,b≤l.length/\a+j≤b/\be (l.drop b)=be (l.drop a)/\ρ=[(0,.d (ae (bs l))),(1,aL .i64 (b:Nat))]/\σ'=σ) (l.length-a) ⟨a,ha,by omega,rfl,rfl,rfl⟩ ?_ _;rintro j ρ' σ' hj ⟨b,hbl,hab,hsk,rfl,rfl⟩;by_cases hlt:b<l.length
 .have hdb:l.drop b=l[b]::l.drop (b+1):=RA hlt;have hlt':(b:Int)<((l.length:Nat):Int):=by omega
  have hdl:=Rw (l:=l) (i:=b);have hbk:ip l[b]=(l[b]==32||l[b]==9||l[b]==10):=rfl;have hnx:IntKind.i64.wrap ((b:Int)+1)=((b+1:Nat):Int):=by rw[aJ (by omega) (by omega)];rfl
  cases hbl2:ip l[b]with
  | true=>
   have hs1:be (l.drop (b+1))=be (l.drop a):=by rw[<-hsk,hdb,cx,if_pos hbl2]
   have next:a+j<a+(l.length-a)/\Nxt σ'.length (fun ρ σ'=>∃b:Nat,b≤l.length/\a+(j+1)≤b/\be (l.drop b)=be (l.drop a)/\ρ=[(0,V.d (ae (bs l))),(1,aL .i64 (b:Nat))]/\σ'=σ') [(0,V.d (ae (bs l))),(1,aL .i64 ((b+1:Nat):Int))] σ' .mk:=⟨by omega,Nxt.same (RG _) hb rfl ⟨b+1,by omega,by omega,hs1,rfl,rfl⟩⟩
   rw[hbk]at hbl2;cases e1:(l[b]==32)with
   | true=>
    simp -dsimp only[aw,jV,jW,jX,jY,jZ,jA,reduceIte,reduceCtorEq,jB,jC,jD,jE,jF,jG,ay,decide_eq_true hlt',aV,Rv hlt,cJ,Au,e1,hnx];exact⟨by omega,Nxt.same (RG _) hb rfl ⟨b+1,by omega,by omega,hs1,rfl,rfl⟩⟩
   | false=>
    cases e2:(l[b]==9)with
    | true=>
     simp -dsimp only[aw,jV,jW,jX,jY,jZ,jA,reduceIte,reduceCtorEq,jB,jC,jD,jE,jF,jG,ay,decide_eq_true hlt',aV,Rv hlt,cJ,Au,Kl,e1,e2,hnx];exact⟨by omega,Nxt.same (RG _) hb rfl ⟨b+1,by omega,by omega,hs1,rfl,rfl⟩⟩
    | false=>
     have e3:(l[b]==10)=true:=by rw[e1,e2]at hbl2;exact hbl2
     simp -dsimp only[aw,jV,jW,jX,jY,jZ,jA,reduceIte,reduceCtorEq,jB,jC,jD,jE,jF,jG,ay,decide_eq_true hlt',aV,Rv hlt,cJ,Au,Kl,s8,e1,e2,e3,hnx];exact⟨by omega,Nxt.same (RG _) hb rfl ⟨b+1,by omega,by omega,hs1,rfl,rfl⟩⟩
  | false=>
   have hbl3:=hbl2;rw[hbk]at hbl3;simp only[Bool.or_eq_false_iff]at hbl3;obtain⟨⟨e1,e2⟩,e3⟩:=hbl3;simp -dsimp only[aw,jV,jW,jX,jY,jZ,jA,reduceIte,reduceCtorEq,jB,jC,jD,jE,jF,jG,ay,decide_eq_true hlt',aV,Rv hlt,cJ,Au,Kl,s8,e1,e2,e3];refine ac (mQ l [47,47] b hbl hl (by decide) _) ?_;cases hpre:([47,47]:Bs).isPrefixOf (l.drop b)with
   | true=>
    obtain⟨r2,hr2⟩:=List.isPrefixOf_iff_prefix.1 hpre;have hdw:(l.drop b).drop ((l.drop b).takeWhile (· != 10)).length=(l.drop b).dropWhile (· != 10):=tL _ _
    have hs1:be (l.drop (b+((l.drop b).takeWhile (· != 10)).length))=be (l.drop a):=by
     rw[<-RF,hdw,<-hsk,<-hr2,RE,cx 47,if_neg (by decide),if_pos ⟨rfl,rfl⟩]
    have hle:=yL (q:=(· != 10)) (l.drop b);have htp:1≤((l.drop b).takeWhile (· != 10)).length:=by rw[<-hr2,RE,Rz (by decide)];simp
    have he:=xQ (q:=(· != 10)) (l.drop b);have ht:=fun j=>@El (· != 10) (l.drop b) j;generalize ((l.drop b).takeWhile (· != 10)).length=K at *;simp -dsimp only[aw,jV,jW,jX,jY,jZ,jA,reduceIte,reduceCtorEq,jB,jC,jD,jE,jF,jG];refine bj [0,1] (R:=fun(i:Nat) ρ σ''=>ρ=[(0,.d (ae (bs l))),(1,aL .i64 ((b+i:Nat):Int))]/\σ''=σ') K ⟨rfl,rfl⟩ ?_ _;rintro i ρ' σ'' hi ⟨rfl,rfl⟩;have w1:IntKind.i64.wrap (((b+i:Nat):Int)+1)=((b+(i+1):Nat):Int):=by rw[aJ (by omega) (by omega)];omega
    by_cases hik:i<K
    .obtain⟨c,h1,h2⟩:=ht i hik;rw[Rx]at h1;have hx:b+i<l.length:=by omega
     have hc10:(c==10)=false:=by simpa using h2
     simp -dsimp only[aw,jV,jW,jX,jY,jZ,jA,reduceIte,reduceCtorEq,jB,jC,jD,jE,jF,jG,ay,Rs,hx,decide_true,aV,h1,cJ,s8,hc10,w1];exact⟨hik,Nxt.same (RG _) hb rfl ⟨rfl,rfl⟩⟩
    .have hik2:i=K:=by omega
     subst hik2;rcases he with he|⟨c,h1,h2⟩
     .have hx:¬b+i<l.length:=by omega
      simp -dsimp only[aw,jV,jW,jX,jY,jZ,jA,reduceIte,reduceCtorEq,jB,jC,jD,jE,jF,jG,ay,Rs,hx,decide_false];exact⟨by omega,Nxt.same (RG _) hb rfl ⟨b+i,by omega,by omega,hs1,rfl,rfl⟩⟩
     .rw[Rx]at h1;have hx:b+i<l.length:=(List.getElem?_eq_some_iff.1 h1).1;have hc10:(c==10)=true:=by simpa using h2
      simp -dsimp only[aw,jV,jW,jX,jY,jZ,jA,reduceIte,reduceCtorEq,jB,jC,jD,jE,jF,jG,ay,Rs,hx,decide_true,aV,h1,cJ,s8,hc10];exact⟨by omega,Nxt.same (RG _) hb rfl ⟨b+i,by omega,by omega,hs1,rfl,rfl⟩⟩
   | false=>
    simp -dsimp only[aw,jV,jW,jX,jY,jZ,jA,reduceIte,reduceCtorEq,jB,jC,jD,jE,jF,jG]
    have hs:be (l.drop b)=l.drop b:=by
     rw[hdb,cx,if_neg (by rw[hbl2];decide),if_neg];rintro⟨h1,h2⟩;rw[hdb,h1]at hpre
     match hd2:l.drop (b+1),h2 with
     | d::r3,h2=>
      rw[hd2]at hpre;simp only[List.head?_cons,Option.some.injEq]at h2;subst h2;simp at hpre
    rw[<-hsk,hs,hdl,show l.length-(l.length-b)=b by omega];first|exact au hb rfl rfl|exact av hb rfl rfl
 .have hbe:b=l.length:=by omega
  subst hbe;simp -dsimp only[aw,jV,jW,jX,jY,jZ,jA,reduceIte,reduceCtorEq,jB,jC,jD,jE,jF,jG,ay,Int.lt_irrefl,decide_false];rw[<-hsk,RD,db];first|exact au hb rfl rfl|exact av hb rfl rfl
theorem se(n:Nat)(l:Bs)(a:Nat)(hn:ck (l.drop a)=n)(ha:a≤l.length)(hl:l.length≤1000000)(σ:LLV):Fun G 61 [.d (ae (bs l)),.d (ab a)] σ (aA (.d (ae (bs ((l.drop a).take n)))) σ):=by
 subst hn;have hmk:aC.length=36:=rfl;refine ai Tryz.func61 k61 rfl fun hb hw=>?_;unfold c61;simp -dsimp only[aw,jV,jW,jX,jY,jZ,jA,reduceIte,reduceCtorEq,jB,jC,jD,jE,jF,jG];refine ac (pu _) ?_;simp -dsimp only[aw,jV,jW,jX,jY,jZ,jA,reduceIte,reduceCtorEq,jB,jC,jD,jE,jF,jG];generalize hrows:(gC.map fun s=>[ae s])=rows;have hlen:rows.length=36:=by rw[<-hrows];rfl
 have hd:dw gC=.sl rows:=by rw[<-hrows];rfl
 rw[hd];refine bj [0,1,5,6,7] (R:=fun(j:Nat) ρ σ'=>ρ=[(0,.d (ae (bs l))),(1,aL .i64 a),(5,.d (.sl rows)),(6,.d (ae (bs ((l.drop a).take (ef (aC.take j) 0 (l.drop a)))))),(7,aL .i64 j)]/\σ'=σ) 36 ⟨rfl,rfl⟩ ?_ _;rintro j ρ' σ' hj ⟨rfl,rfl⟩;by_cases hlt:j<36
 .have hjm:j<aC.length:=hlt;have hrj:rows[j]? = some [ae (bs aC[j])]:=by rw[<-hrows,RB,gC,RB,Rv hjm];rfl
  have hlt':(j:Int)<36:=by omega
  have htk:aC.take (j+1)=aC.take j++[aC[j]]:=by rw[List.take_add_one,Rv hjm];rfl
  have hbs:=mu (l.drop a) (aC.take j) aC[j] 0;have hbin:=lG (aC.take j) 0 (l.drop a);rw[<-htk]at hbs;have hml:aC[j].length≤2:=(by decide:∀m,m∈aC->m.length≤2) _ (List.getElem_mem hjm);generalize aC[j]=m at *;generalize hbe:ef (aC.take j) 0 (l.drop a)=best at *
  have hbl:((l.drop a).take best).length=best:=by
   rw[Ry];rcases hbin with h|⟨m',h1,h2,h3⟩
   .omega
   .have:=(List.isPrefixOf_iff_prefix.1 h2).length_le;omega
  simp -dsimp only[aw,jV,jW,jX,jY,jZ,jA,reduceIte,reduceCtorEq,jB,jC,jD,jE,jF,jG,hlen,Rs,hlt,decide_true,hrj];refine ac (mQ l m a ha hl (by omega) _) ?_;cases hp:m.isPrefixOf (l.drop a)with
  | true=>
   have hpt:(l.drop a).take m.length=m:=(List.prefix_iff_eq_take.1 (List.isPrefixOf_iff_prefix.1 hp)).symm;by_cases hgt:best<m.length
   .have hgt':(best:Int)<(m.length:Nat):=by omega
    simp -dsimp only[aw,jV,jW,jX,jY,jZ,jA,reduceIte,reduceCtorEq,jB,jC,jD,jE,jF,jG,hrj,ay,hbl,decide_eq_true hgt',ba hlt (show 36≤9223372036854775807 by decide)];refine⟨hlt,Nxt.same (RG _) hb rfl ⟨?_,rfl⟩⟩;rw[hbs,if_pos ⟨hgt,hp⟩,hpt]
   .have hgt':¬(best:Int)<(m.length:Nat):=by omega
    simp -dsimp only[aw,jV,jW,jX,jY,jZ,jA,reduceIte,reduceCtorEq,jB,jC,jD,jE,jF,jG,hrj,ay,hbl,decide_eq_false hgt',ba hlt (show 36≤9223372036854775807 by decide)];refine⟨hlt,Nxt.same (RG _) hb rfl ⟨?_,rfl⟩⟩;rw[hbs,if_neg (fun h=>hgt h.1)]
  | false=>
   simp -dsimp only[aw,jV,jW,jX,jY,jZ,jA,reduceIte,reduceCtorEq,jB,jC,jD,jE,jF,jG,ba hlt (show 36≤9223372036854775807 by decide)];refine⟨hlt,Nxt.same (RG _) hb rfl ⟨?_,rfl⟩⟩;rw[hbs,if_neg (fun h=>by rw[hp]at h;cases h.2)]
 .have hlt':¬(j:Int)<36:=by omega
  have hbe:ef (aC.take j) 0 (l.drop a)=ck (l.drop a):=by rw[List.take_of_length_le (by rw[hmk];omega)];rfl
  rw[hbe];simp -dsimp only[aw,jV,jW,jX,jY,jZ,jA,reduceIte,reduceCtorEq,jB,jC,jD,jE,jF,jG,hlen,Rs,hlt,decide_false];first|exact au hb rfl rfl|exact av hb rfl rfl
def kD(r:Bs):Rd->V
 | .err e=>.tup [cj,.d (ab e)]
 | .tok k n len=>.tup [cT k n (r.take len) 0,.d (ab 0)]
theorem u4{q:UInt8->Bool}(r:Bs):r.take (r.takeWhile q).length=r.takeWhile q:=(List.prefix_iff_eq_take.1 (List.takeWhile_prefix _)).symm
theorem fX{σ:LLV}{ρ:ah}{rs:List RV}{v:V}{l:LLV}(hb:aj σ.length σ=true)(h:aU (σ++l) ρ rs=some v)(hv:V.under σ.length v=true):fin σ.length rs (aA v σ) .ret ρ (σ++l):=
 al hb h hv List.take_left ⟨rfl,rfl⟩
theorem yw(n:Nat)(l r:Bs)(c:UInt8)(s:Bs)(a:Nat)(hr:l.drop a=r)(hc:r=c::s)(hn:ck r=n)(hl:l.length≤1000000)(σ:LLV):Fun G 28 [.d (ae (bs l)),.d (ab a)] σ (aA (kD r (bG r)) σ):=by
 have hal:a<l.length:=by
  rcases Nat.lt_or_ge a l.length with h|h
  .exact h
  .rw[List.drop_eq_nil_of_le h]at hr;rw[<-hr]at hc;cases hc
 have hla:l[a]? = some c:=by
  have:=Rx (xs:=l) (i:=a) (j:=0);rw[hr,hc]at this;simpa using this.symm
 have hrl:r.length≤l.length-a:=by rw[<-hr,Rw];exact RG _
 have hbh:=tY l a (by omega) hl;rw[hr]at hbh;have hw1:=yL (q:=inn) r
 have hsub:nM true 0 (V.d (ae (bs l))) (some (V.d (ab (a:Int)))) (some (V.d (ab ((a+(r.takeWhile inn).length:Nat):Int))))=some (V.d (ae (bs (r.takeWhile inn)))):=by
  rw[F6 l a _ (by omega),hr,u4]
 refine ai Tryz.func28 k28 rfl fun hb hw=>?_;unfold c28;simp -dsimp only[aw,jV,jW,jX,jY,jZ,jA,reduceIte,reduceCtorEq,jB,jC,jD,jE,jF,jG,aV,hla,cJ];refine ac (lj _ _) ?_;cases hlow:fh c.toNat with
 | true=>
  have hrd:bG r=if 16<(r.takeWhile inn).length then .err 2 else .tok (if inB (bs (r.takeWhile inn)) dk=true then 2 else 1) 0 (r.takeWhile inn).length:=by
   rw[hc];simp only[bG,hlow,if_true];rfl
  rw[hrd];have htk:=u4 (q:=inn) r;generalize r.takeWhile inn=t at *;simp -dsimp only[aw,jV,jW,jX,jY,jZ,jA,reduceIte,reduceCtorEq,jB,jC,jD,jE,jF,jG];refine ac (hbh _) ?_;simp -dsimp only[aw,jV,jW,jX,jY,jZ,jA,reduceIte,reduceCtorEq,jB,jC,jD,jE,jF,jG,hsub,ay];by_cases h16:16<t.length
  .have h16':(16:Int)<(t.length:Nat):=by omega
   simp -dsimp only[aw,jV,jW,jX,jY,jZ,jA,reduceIte,reduceCtorEq,jB,jC,jD,jE,jF,jG,decide_eq_true h16'];rw[if_pos h16];exact fX hb (by simp[sf,aU,cY,bq,kD,cj,cT,dj,aw,jV,jW,jX,jY,jZ,jA,reduceIte,reduceCtorEq,jB,jC,jD,jE,jF,jG]) rfl
  .have h16':¬(16:Int)<(t.length:Nat):=by omega
   simp -dsimp only[aw,jV,jW,jX,jY,jZ,jA,reduceIte,reduceCtorEq,jB,jC,jD,jE,jF,jG,decide_eq_false h16'];rw[if_neg h16];refine ac (mo _ _) ?_;cases hkw:inB (bs t) dk with
   | true=>
    simp -dsimp only[aw,jV,jW,jX,jY,jZ,jA,reduceIte,reduceCtorEq,jB,jC,jD,jE,jF,jG];exact fX hb (by simp[sf,aU,cY,bq,kD,cj,cT,dj,htk,aw,jV,jW,jX,jY,jZ,jA,reduceIte,reduceCtorEq,jB,jC,jD,jE,jF,jG]) rfl
   | false=>
    simp -dsimp only[aw,jV,jW,jX,jY,jZ,jA,reduceIte,reduceCtorEq,jB,jC,jD,jE,jF,jG];exact fX hb (by simp[sf,aU,cY,bq,kD,cj,cT,dj,htk,aw,jV,jW,jX,jY,jZ,jA,reduceIte,reduceCtorEq,jB,jC,jD,jE,jF,jG]) rfl
 | false=>
  simp -dsimp only[aw,jV,jW,jX,jY,jZ,jA,reduceIte,reduceCtorEq,jB,jC,jD,jE,jF,jG,aV,hla,cJ];refine ac (py _ _) ?_;cases hdig:da c.toNat with
  | true=>
   have hrd:bG r=if((r.takeWhile inn).all fun x=>da x.toNat)=false\/(1<(r.takeWhile inn).length/\c=48)then .err 5 else if 2147483647<ct (r.takeWhile inn)then .err 3 else .tok 3 (ct (r.takeWhile inn)) (r.takeWhile inn).length:=by
    rw[hc];simp only[bG,hlow,hdig,if_true,Bool.false_eq_true,if_false]
   rw[hrd];have htk:=u4 (q:=inn) r;have htc:r.takeWhile inn=c::s.takeWhile inn:=by rw[hc];exact Rz (AG hdig)
   generalize r.takeWhile inn=t at *;simp -dsimp only[aw,jV,jW,jX,jY,jZ,jA,reduceIte,reduceCtorEq,jB,jC,jD,jE,jF,jG];refine ac (hbh _) ?_;simp -dsimp only[aw,jV,jW,jX,jY,jZ,jA,reduceIte,reduceCtorEq,jB,jC,jD,jE,jF,jG,hsub];refine ac (wi c _ t htc hdig (by omega) _) ?_;unfold oj;by_cases h5:t.all dig=false\/(1<t.length/\c=48)
   .rw[if_pos h5,if_pos (show(t.all fun x=>da x.toNat)=false\/(1<t.length/\c=48)from h5)];simp -dsimp only[aw,jV,jW,jX,jY,jZ,jA,reduceIte,reduceCtorEq,jB,jC,jD,jE,jF,jG,Ru,decide_true,decide_false];exact fX hb (by simp[sf,aU,cY,bq,kD,cj,cT,dj,aw,jV,jW,jX,jY,jZ,jA,reduceIte,reduceCtorEq,jB,jC,jD,jE,jF,jG]) rfl
   .rw[if_neg h5,if_neg (show ¬((t.all fun x=>da x.toNat)=false\/(1<t.length/\c=48))from h5)];by_cases h9:9223372036854775807<ct t
    .rw[if_pos h9,if_pos (by omega)];simp -dsimp only[aw,jV,jW,jX,jY,jZ,jA,reduceIte,reduceCtorEq,jB,jC,jD,jE,jF,jG,Ru,decide_true,decide_false];exact fX hb (by simp[sf,aU,cY,bq,kD,cj,cT,dj,aw,jV,jW,jX,jY,jZ,jA,reduceIte,reduceCtorEq,jB,jC,jD,jE,jF,jG]) rfl
    .rw[if_neg h9];by_cases h3:2147483647<ct t
     .have h3':(2147483647:Int)<((ct t:Nat):Int):=by omega
      rw[if_pos h3];simp -dsimp only[aw,jV,jW,jX,jY,jZ,jA,reduceIte,reduceCtorEq,jB,jC,jD,jE,jF,jG,Ru,decide_eq_true h3',decide_true,decide_false];exact fX hb (by simp[sf,aU,cY,bq,kD,cj,cT,dj,aw,jV,jW,jX,jY,jZ,jA,reduceIte,reduceCtorEq,jB,jC,jD,jE,jF,jG]) rfl
     .have h3':¬(2147483647:Int)<((ct t:Nat):Int):=by omega
      rw[if_neg h3];simp -dsimp only[aw,jV,jW,jX,jY,jZ,jA,reduceIte,reduceCtorEq,jB,jC,jD,jE,jF,jG,Ru,decide_eq_false h3',decide_true,decide_false];exact fX hb (by simp[sf,aU,cY,bq,kD,cj,cT,dj,htk,aw,jV,jW,jX,jY,jZ,jA,reduceIte,reduceCtorEq,jB,jC,jD,jE,jF,jG]) rfl
  | false=>
   have hrd:bG r=if n=0 then .err 5 else .tok 4 0 n:=by rw[<-hn,hc];exact qd c s hlow hdig
   rw[hrd];have hbl:=(tT r).1;rw[hn]at hbl;simp -dsimp only[aw,jV,jW,jX,jY,jZ,jA,reduceIte,reduceCtorEq,jB,jC,jD,jE,jF,jG];refine ac (se n l a (by rw[hr];exact hn) (by omega) hl _) ?_;rw[hr];by_cases hz:n=0
   .have e0:decide (bs (r.take n)=(⟨#[]⟩:ByteArray))=true:=by rw[hz];rfl
    simp -dsimp only[aw,jV,jW,jX,jY,jZ,jA,reduceIte,reduceCtorEq,jB,jC,jD,jE,jF,jG,e0];rw[if_pos hz];exact fX hb (by simp[sf,aU,cY,bq,kD,cj,cT,dj,aw,jV,jW,jX,jY,jZ,jA,reduceIte,reduceCtorEq,jB,jC,jD,jE,jF,jG]) rfl
   .have e0:decide (bs (r.take n)=(⟨#[]⟩:ByteArray))=false:=by
     rw[decide_eq_false_iff_not];intro h;have h2:=oz.1 (h:bs (r.take n)=bs []);have h3:=congrArg List.length h2;rw[Ry,List.length_nil]at h3;omega
    simp -dsimp only[aw,jV,jW,jX,jY,jZ,jA,reduceIte,reduceCtorEq,jB,jC,jD,jE,jF,jG,e0];rw[if_neg hz];exact fX hb (by simp[sf,aU,cY,bq,kD,cj,cT,dj,aw,jV,jW,jX,jY,jZ,jA,reduceIte,reduceCtorEq,jB,jC,jD,jE,jF,jG]) rfl
theorem uH(l:Bs)(hl:l.length≤1000000)(σ:LLV):Fun G 9 [.d (ae (bs l))] σ (aA (jL l) σ):=by
 refine ai Tryz.func9 k9 rfl fun hb hw=>?_;unfold c9;by_cases hbig:16384<l.length
 .have hbig':(16384:Int)<((l.length:Nat):Int):=by omega
  simp -dsimp only[aw,jV,jW,jX,jY,jZ,jA,reduceIte,reduceCtorEq,jB,jC,jD,jE,jF,jG,ay,decide_eq_true hbig'];exact al hb (v:=jL l) (by unfold jL;rw[if_pos hbig];rfl) (by unfold jL;rw[if_pos hbig];rfl) RC ⟨rfl,rfl⟩
 .have hbig':¬(16384:Int)<((l.length:Nat):Int):=by omega
  have hR:jL l=qJ (cS l):=by unfold jL;rw[if_neg hbig]
  rw[hR];obtain⟨T,hT⟩:∃T:Int,T=1+(l.count 10:Nat):=⟨_,rfl⟩
  have htk:cS l=dn T l:=by rw[hT];rfl
  have hline:∀a,1+(((l.take a).count 10:Nat):Int)=T-(((l.drop a).count 10:Nat):Int):=fun a=>by
   have:l.count 10=(l.take a).count 10+(l.drop a).count 10:=by rw[<-List.count_append,List.take_append_drop]
   omega
  have hsuf:∀a,a≤l.length->l.drop (l.length-(be (l.drop a)).length)=be (l.drop a)/\a≤l.length-(be (l.drop a)).length:=fun a ha=>by
   have h1:be (l.drop a) <:+ l:=(dH _).trans (List.drop_suffix _ _);have h2:=(dH (l.drop a)).length_le;rw[Rw]at h2;exact⟨(List.suffix_iff_eq_drop.1 h1).symm,by omega⟩
  simp -dsimp only[aw,jV,jW,jX,jY,jZ,jA,reduceIte,reduceCtorEq,jB,jC,jD,jE,jF,jG,ay,decide_eq_false hbig'];refine ac (pD l 0 (by omega) hl _) ?_;simp -dsimp only[aw,jV,jW,jX,jY,jZ,jA,reduceIte,reduceCtorEq,jB,jC,jD,jE,jF,jG];have hs0:=hsuf 0 (by omega);rw[List.drop_zero]at hs0;refine bj [0,5,6] (R:=fun(j:Nat) ρ σ'=>∃(acc:List Tok) (a:Nat),a≤l.length/\j≤a/\be (l.drop a)=l.drop a/\cS l=(dn T (l.drop a)).app acc/\acc.length≤j/\ρ=[(0,.d (ae (bs l))),(5,.own 61 4 (acc.map dF)),(6,aL .i64 (a:Nat))]/\σ'=σ) l.length ⟨[],l.length-(be l).length,by omega,by omega,by rw[hs0.1,iD],by rw[AQ,hs0.1,kb,htk],by simp,rfl,rfl⟩ ?_ _;rintro j ρ' σ' hj ⟨acc,a,hal,hja,hs,hr,hacc,rfl,rfl⟩;obtain⟨r,hre⟩:∃r,r=l.drop a:=⟨_,rfl⟩
  rw[<-hre]at hs hr;by_cases hlt:a<l.length
  .obtain⟨c,s,hcs⟩:∃c s,r=c::s:=⟨_,_,hre.trans (RA hlt)⟩
   have hst:=aX T r;rw[hs]at hst;have hln:=hline a;rw[<-hre]at hln;have hrl:r.length=l.length-a:=by rw[hre,Rw]
   simp -dsimp only[aw,jV,jW,jX,jY,jZ,jA,reduceIte,reduceCtorEq,jB,jC,jD,jE,jF,jG,ay,Rs,hlt,decide_true];refine ac (yw (ck r) l r c s a hre.symm hcs rfl hl _) ?_;cases hrd:bG r with
   | err e=>
    have he0:=qm hrd;simp -dsimp only[aw,jV,jW,jX,jY,jZ,jA,reduceIte,reduceCtorEq,jB,jC,jD,jE,jF,jG,kD,cj,cT,decide_eq_false he0];refine ac (qe l a hal hl _) ?_;rw[hln];simp -dsimp only[aw,jV,jW,jX,jY,jZ,jA,reduceIte,reduceCtorEq,jB,jC,jD,jE,jF,jG]
    have hv:cS l=.err (T-(r.count 10:Nat)) e:=by
     rw[hr,hst];rw[hcs]at hrd ⊢;simp only[hrd,Lx.app]
    exact fX hb (by rw[hv];rfl) (by rw[hv];rfl)
   | tok kd n len=>
    obtain⟨g1,g2⟩:=iU hrd;simp -dsimp only[aw,jV,jW,jX,jY,jZ,jA,reduceIte,reduceCtorEq,jB,jC,jD,jE,jF,jG,kD,cT,decide_true];refine ac (qe l a hal hl _) ?_;rw[hln];have hlt2:(r.take len).length=len:=by rw[Ry];omega
    have wa:IntKind.i64.wrap ((a:Int)+(len:Nat))=((a+len:Nat):Int):=by rw[aJ (by omega) (by omega)];omega
    simp -dsimp only[aw,jV,jW,jX,jY,jZ,jA,reduceIte,reduceCtorEq,jB,jC,jD,jE,jF,jG,List.length_map];refine bQ (by omega) ?_;simp -dsimp only[aw,jV,jW,jX,jY,jZ,jA,reduceIte,reduceCtorEq,jB,jC,jD,jE,jF,jG,ay,hlt2,wa];refine ac (pD l (a+len) (by omega) hl _) ?_;simp -dsimp only[aw,jV,jW,jX,jY,jZ,jA,reduceIte,reduceCtorEq,jB,jC,jD,jE,jF,jG];obtain⟨k1,k2⟩:=hsuf (a+len) (by omega);have hdd:l.drop (a+len)=r.drop len:=by rw[hre,RF]
    have hv:cS l=(dn T (be (l.drop (a+len)))).app (acc++[eG T r kd n len]):=by
     rw[hr,hst,kb,<-xz,hdd];rw[hcs]at hrd ⊢;simp only[hrd]
    refine⟨by omega,Nxt.drop (RG _) hb rfl ⟨acc++[eG T r kd n len],l.length-(be (l.drop (a+len))).length,by omega,by omega,by rw[k1,iD],by rw[k1];exact hv,by simp;omega,?_,rfl⟩⟩;simp only[List.map_append,List.map_cons,List.map_nil];rfl
  .have hae:a=l.length:=by omega
   have hrn:r=[]:=by rw[hre,hae,RD]
   rw[hrn,aX,db]at hr;simp -dsimp only[aw,jV,jW,jX,jY,jZ,jA,reduceIte,reduceCtorEq,jB,jC,jD,jE,jF,jG,ay,Rs,hlt,decide_false];refine al hb (v:=qJ (cS l)) ?_ ?_ RC ⟨rfl,rfl⟩
   .rw[hr];simp only[Lx.app,List.append_nil,qJ];rfl
   .rw[hr];rfl
end Go.Proofs.YthekkgfmagliiaaGreatDoor
