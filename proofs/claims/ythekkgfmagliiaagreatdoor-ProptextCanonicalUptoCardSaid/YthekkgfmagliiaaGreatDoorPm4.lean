import Derived.Test.YthekkgfmagliiaaGreatDoorPm1
set_option maxHeartbeats 1000000
set_option linter.unusedVariables false
set_option linter.unusedSimpArgs false
set_option linter.unusedSectionVars false
open Bool renaming false_eq_true->Rs
open Classical renaming byContradiction->Ru
open Int renaming ofNat_lt->Rv
open List renaming take_left->Rw,length_set->Rx,drop_eq_getElem_cons->Ry,drop_eq_nil_of_le->Rz,getElem?_eq_getElem->RA,getElem?_set_self->RB,set_set->RC,getElem?_append_right->RD,getElem?_eq_none->RE,length_drop->RF,find?_cons->RG,map_cons->RH,map_nil->RI
namespace Go.Proofs.YthekkgfmagliiaaGreatDoor
open Go.RowKit
open Nat renaming reduceLeDiff -> jA, reduceBEq -> jB, reduceLT -> jC, reduceEqDiff -> jD, reduceAdd -> jE, reduceSub -> jF, reduceMul -> jG
open V renaming copy -> jV, lend -> jW, lend1 -> jX, cells -> jY, boxable -> jZ
theorem dv{σ σ' τ:LLV}{ρ:ah}{rs:List RV}{Q:Out->LLV->Prop}{v:V}(hb:aj σ.length τ=true)(hσ:σ'.take σ.length=τ)(hv:V.under σ.length v=true)(hq:Q (.panic v) τ):fin σ.length rs Q (.panic v) ρ σ':=
 ⟨σ.length,Nat.le_refl _,by rw[hσ];exact hb,hv,by rw[hσ];exact hq⟩
theorem FX{σ σ' τ:LLV}{ρ:ah}{rs:List RV}{Q:Out->LLV->Prop}(hb:aj σ.length τ=true){v:V}(h:aU σ' ρ rs=some v)(hv:V.under σ.length v=true)(hσ:σ'.take σ.length=τ)(hq:Q (.ret v) τ):fin σ.length rs Q .normal ρ σ':=
 ⟨ρ,σ',.refl _ _ _,v,h,σ.length,Nat.le_refl _,by rw[hσ];exact hb,hv,by rw[hσ];exact hq⟩
theorem bz{K P:V->LLV->Prop}{v:V}{σ:LLV}:Ds K P (.panic v) σ=P v σ:=rfl
def mM(ts:List Tok)(a:Nat):Int:=if a<ts.length then 5 else 6
theorem bE{σ:LLV}(hb:aj σ.length σ=true)(i:Nat)(ts:List Tok)(a:Nat):aj σ.length (σ.set i (pb ts a))=true:=ca hb rfl
theorem xC{σ:LLV}(i:Nat)(X:List V):(σ.set i X).take σ.length=σ.set i X:=List.take_of_length_le (by rw[Rx];exact Nat.le_refl _)
theorem cL{σ:LLV}(i:Nat)(X:List V)(l:LLV):(σ.set i X++l).take σ.length=σ.set i X:=by
 rw[List.take_append_of_le_length (by simp),xC]
theorem qS(m:ByteArray)(ts:List Tok)(a i:Nat)(hz:∀t,t∈ts->t.text.size≤1000)(hn:ts.length≤1000000)(ha:a≤ts.length)(σ:LLV)(hi:σ[i]? = some (pb ts a)):
 Fun G 241 [.ptr i 0,.d (ae m)] σ fun o σ'=>if aH m ts a=true then o=.ret (.tup [])/\σ'=σ.set i (pb ts (a+1))else o=.panic (e7 (mM ts a) a)/\σ'=σ:=by
 refine ai Tryz.func241 QM rfl fun hb hw=>?_;unfold OM;have hA:=gA m ts a i hz hn ha σ hi;have hF:=qH ts a i ha σ hi;simp -dsimp only[aw,jV,jW,jX,jY,jZ,jA,reduceIte,reduceCtorEq,jB,jC,jD,jE,jF,jG];refine dq hA ?_;cases hs:aH m ts a with
 | true=>
  simp -dsimp only[aw,jV,jW,jX,jY,jZ,jA,reduceIte,reduceCtorEq,jB,jC,jD,jE,jF,jG,if_true];exact FX (τ:=σ.set i (pb ts (a+1))) (bE hb i ts _) rfl rfl (xC _ _) ⟨rfl,rfl⟩
 | false=>
  simp -dsimp only[aw,jV,jW,jX,jY,jZ,jA,reduceIte,reduceCtorEq,jB,jC,jD,jE,jF,jG,Rs,if_false];refine aR hF fun o σ' ⟨e1,e2⟩=>?_;rw[e1,e2];simp -dsimp only[aw,jV,jW,jX,jY,jZ,jA,reduceIte,reduceCtorEq,jB,jC,jD,jE,jF,jG,bz];exact dv hb List.take_length rfl ⟨rfl,rfl⟩
theorem qX{ts:List Tok}{a:Nat}(h:a<ts.length):bw (ts.drop a)=if bl ts[a]=true/\ts[a].kind=1 then some (ts[a].text,ts.drop (a+1))else none:=by
 rw[Ry h];rfl
theorem pZ{ts:List Tok}{a:Nat}(h:a<ts.length):bW (ts.drop a)=if bl ts[a]=true/\ts[a].kind=3 then some (ts[a].num,ts.drop (a+1))else none:=by
 rw[Ry h];rfl
theorem kZ(t:Tok):eN t=.agg [.d (ab t.kind),.d (ab t.num),.d (ae t.text),.d (ab t.line)]:=rfl
theorem DG(ts:List Tok)(a i:Nat)(hz:∀t,t∈ts->t.text.size≤1000)(hn:ts.length≤1000000)(ha:a≤ts.length)(σ:LLV)(hi:σ[i]? = some (pb ts a)):
 Fun G 253 [.ptr i 0] σ fun o σ'=>match bw (ts.drop a)with
  | some (s,_)=>o=.ret (.d (ae s))/\σ'=σ.set i (pb ts (a+1))
  | none=>o=.panic (e7 (mM ts a) a)/\σ'=σ:=by
 have hlt:=(List.getElem?_eq_some_iff.1 hi).1;have hN:=nG ts a i hz ha σ hi;have hF:=fun l=>qH ts a i ha (σ++l) (ar hi l);have hbx:∀(X cs:List V),(σ.set i X++[cs])[σ.length]? = some cs:=fun X cs=>by rw[RD (by simp)];simp
 have hio:=fun t=>ar hi t;have hso:=fun l x=>aI hi l x;unfold pb at hio;have hw1:IntKind.i64.wrap (((a:Nat):Int)+1)=((a+1:Nat):Int):=by rw[aJ (by omega) (by omega)];omega
 refine ai Tryz.func253 QB rfl fun hb hw=>?_;unfold Of;simp -dsimp only[aw,jV,jW,jX,jY,jZ,jA,reduceIte,reduceCtorEq,jB,jC,jD,jE,jF,jG];refine ac hN ?_;by_cases hla:a<ts.length
 .have hnv:gk ts a=if bl ts[a]=true then .tup [eN ts[a],aq true]else .tup [cj,aq false]:=by unfold gk;rw[RA hla]
  rw[hnv,qX hla];generalize ts[a]=t;by_cases hv:bl t=true
  .rw[if_pos hv];by_cases hk:t.kind=1
   .rw[if_pos ⟨hv,hk⟩];simp -dsimp only[aw,jV,jW,jX,jY,jZ,jA,reduceIte,reduceCtorEq,jB,jC,jD,jE,jF,jG,kZ,decide_eq_true hk,hio,hw1,hso,hbx];exact bH (τ:=σ.set i (pb ts (a+1))) (bE hb i ts _) rfl rfl (cL _ _ _) ⟨rfl,rfl⟩
   .rw[if_neg (fun h=>hk h.2)];simp -dsimp only[aw,jV,jW,jX,jY,jZ,jA,reduceIte,reduceCtorEq,jB,jC,jD,jE,jF,jG,kZ,decide_eq_false hk];refine aR (hF _) fun o σ' ⟨e1,e2⟩=>?_;rw[e1,e2];simp -dsimp only[aw,jV,jW,jX,jY,jZ,jA,reduceIte,reduceCtorEq,jB,jC,jD,jE,jF,jG,bz];exact dv hb Rw rfl ⟨rfl,rfl⟩
  .rw[if_neg hv,if_neg (fun h=>hv h.1)];simp -dsimp only[aw,jV,jW,jX,jY,jZ,jA,reduceIte,reduceCtorEq,jB,jC,jD,jE,jF,jG,cj,cT];refine aR (hF _) fun o σ' ⟨e1,e2⟩=>?_;rw[e1,e2];simp -dsimp only[aw,jV,jW,jX,jY,jZ,jA,reduceIte,reduceCtorEq,jB,jC,jD,jE,jF,jG,bz];exact dv hb Rw rfl ⟨rfl,rfl⟩
 .have hnv:gk ts a=.tup [cj,aq false]:=by unfold gk;rw[RE (by omega)]
  rw[hnv,Rz (show ts.length≤a by omega)];simp only[bw];simp -dsimp only[aw,jV,jW,jX,jY,jZ,jA,reduceIte,reduceCtorEq,jB,jC,jD,jE,jF,jG,cj,cT];refine aR (hF _) fun o σ' ⟨e1,e2⟩=>?_;rw[e1,e2];simp -dsimp only[aw,jV,jW,jX,jY,jZ,jA,reduceIte,reduceCtorEq,jB,jC,jD,jE,jF,jG,bz];exact dv hb Rw rfl ⟨rfl,rfl⟩
theorem vY(ts:List Tok)(a i:Nat)(hz:∀t,t∈ts->t.text.size≤1000)(hn:ts.length≤1000000)(ha:a≤ts.length)(σ:LLV)(hi:σ[i]? = some (pb ts a)):
 Fun G 252 [.ptr i 0] σ fun o σ'=>match bW (ts.drop a)with
  | some (n,_)=>if 65535<n then o=.panic (e7 3 a)/\σ'=σ else o=.ret (.d (ab n))/\σ'=σ.set i (pb ts (a+1))
  | none=>o=.panic (e7 (mM ts a) a)/\σ'=σ:=by
 have hlt:=(List.getElem?_eq_some_iff.1 hi).1;have hN:=nG ts a i hz ha σ hi;have hF:=fun l=>qH ts a i ha (σ++l) (ar hi l);have hbx:∀(X cs:List V),(σ.set i X++[cs])[σ.length]? = some cs:=fun X cs=>by rw[RD (by simp)];simp
 have hio:=fun t=>ar hi t;have hso:=fun l x=>aI hi l x;unfold pb at hio;have hw1:IntKind.i64.wrap (((a:Nat):Int)+1)=((a+1:Nat):Int):=by rw[aJ (by omega) (by omega)];omega
 refine ai Tryz.func252 PG rfl fun hb hw=>?_;unfold MP;simp -dsimp only[aw,jV,jW,jX,jY,jZ,jA,reduceIte,reduceCtorEq,jB,jC,jD,jE,jF,jG];refine ac hN ?_;by_cases hla:a<ts.length
 .have hnv:gk ts a=if bl ts[a]=true then .tup [eN ts[a],aq true]else .tup [cj,aq false]:=by unfold gk;rw[RA hla]
  rw[hnv,pZ hla];generalize ts[a]=t;by_cases hv:bl t=true
  .rw[if_pos hv];by_cases hk:t.kind=3
   .rw[if_pos ⟨hv,hk⟩];simp only;by_cases hbig:65535<t.num
    .simp -dsimp only[aw,jV,jW,jX,jY,jZ,jA,reduceIte,reduceCtorEq,jB,jC,jD,jE,jF,jG,kZ,decide_eq_true hk,hio,decide_eq_true hbig];exact dv hb Rw rfl (by rw[if_pos hbig];exact⟨rfl,rfl⟩)
    .simp -dsimp only[aw,jV,jW,jX,jY,jZ,jA,reduceIte,reduceCtorEq,jB,jC,jD,jE,jF,jG,kZ,decide_eq_true hk,hio,decide_eq_false hbig,hw1,hso,hbx];exact bH (τ:=σ.set i (pb ts (a+1))) (bE hb i ts _) rfl rfl (cL _ _ _) (by rw[if_neg hbig];exact⟨rfl,rfl⟩)
   .rw[if_neg (fun h=>hk h.2)];simp -dsimp only[aw,jV,jW,jX,jY,jZ,jA,reduceIte,reduceCtorEq,jB,jC,jD,jE,jF,jG,kZ,decide_eq_false hk];refine aR (hF _) fun o σ' ⟨e1,e2⟩=>?_;rw[e1,e2];simp -dsimp only[aw,jV,jW,jX,jY,jZ,jA,reduceIte,reduceCtorEq,jB,jC,jD,jE,jF,jG,bz];exact dv hb Rw rfl ⟨rfl,rfl⟩
  .rw[if_neg hv,if_neg (fun h=>hv h.1)];simp -dsimp only[aw,jV,jW,jX,jY,jZ,jA,reduceIte,reduceCtorEq,jB,jC,jD,jE,jF,jG,cj,cT];refine aR (hF _) fun o σ' ⟨e1,e2⟩=>?_;rw[e1,e2];simp -dsimp only[aw,jV,jW,jX,jY,jZ,jA,reduceIte,reduceCtorEq,jB,jC,jD,jE,jF,jG,bz];exact dv hb Rw rfl ⟨rfl,rfl⟩
 .have hnv:gk ts a=.tup [cj,aq false]:=by unfold gk;rw[RE (by omega)]
  rw[hnv,Rz (show ts.length≤a by omega)];simp only[bW];simp -dsimp only[aw,jV,jW,jX,jY,jZ,jA,reduceIte,reduceCtorEq,jB,jC,jD,jE,jF,jG,cj,cT];refine aR (hF _) fun o σ' ⟨e1,e2⟩=>?_;rw[e1,e2];simp -dsimp only[aw,jV,jW,jX,jY,jZ,jA,reduceIte,reduceCtorEq,jB,jC,jD,jE,jF,jG,bz];exact dv hb Rw rfl ⟨rfl,rfl⟩
theorem eV(o:Int)(l:List Ex)(σ:LLV):Fun G 242 [.d (ab o),.d (.sl (l.map dex))] σ (aA (vex (aT o l)) σ):=by
 refine ai Tryz.func242 Pe rfl fun hb hw=>?_;unfold Ng;simp -dsimp only[aw,jV,jW,jX,jY,jZ,jA,reduceIte,reduceCtorEq,jB,jC,jD,jE,jF,jG];exact al (v:=vex (aT o l)) hb (by rw[ak];simp[JN,aU,bq,aT,bS,bi,aN,aO,aw,jV,jW,jX,jY,jZ,jA,reduceIte,reduceCtorEq,jB,jC,jD,jE,jF,jG]) (by rw[ak];rfl) Rw ⟨rfl,rfl⟩
def zb:V:=.agg [.d (ae ⟨#[]⟩),.d (ab 0),.d (ab 0)]
def gu(l:List (ByteArray×Int×Nat))(k:Nat)(ts:List Tok)(a:Nat):Option (ByteArray×Int×Nat):=l.find? fun b=>decide (b.2.2=k)&&aH b.1 ts a
theorem bu{m:ByteArray}{ts:List Tok}{a:Nat}:acc m (ts.drop a)=if aH m ts a=true then some (ts.drop (a+1))else none:=by
 by_cases h:a<ts.length
 .unfold aH;rw[Ry h];simp only[acc];split<;>simp
 .rw[fD h,Rz (by omega)];rfl
theorem mA(k:Nat)(ts:List Tok)(a:Nat):∀l,fy l k (ts.drop a)=(gu l k ts a).map fun b=>(b.2.1,ts.drop (a+1))
 | []=>rfl
 | b::l=>by
  have ih:=mA k ts a l;unfold gu at ih ⊢;simp only[fy,bu,RG];by_cases hk:b.2.2=k
  .rw[if_pos hk];by_cases hs:aH b.1 ts a=true
   .simp[hk,hs]
   .simp only[hs,hk,decide_true,Bool.true_and,if_false];simpa using ih
  .rw[if_neg hk];simp only[hk,decide_false,Bool.false_and];exact ih
def kz(ts:List Tok)(a:Nat)(k:Nat):V:=match gu ci k ts a with
 | some b=>.tup [.agg [.d (ae b.1),.d (ab b.2.1),.d (ab b.2.2)],aq false,aq true]
 | none=>if k=9/\aH (aa 62) ts a=true then .tup [.agg [.d (ae ⟨#[]⟩),.d (ab 17),.d (ab 0)],aq true,aq true]
  else if k=9/\aH (aF 62 61) ts a=true then .tup [.agg [.d (ae ⟨#[]⟩),.d (ab 18),.d (ab 0)],aq true,aq true]
  else .tup [zb,aq false,aq false]
def fH(ts:List Tok)(a:Nat)(k:Nat):Bool:=(gu ci k ts a).isSome||(decide (k=9)&&(aH (aa 62) ts a||aH (aF 62 61) ts a))
theorem u0(k:Nat)(hk:k≤100)(ts:List Tok)(a i:Nat)(hz:∀t,t∈ts->t.text.size≤1000)(hn:ts.length≤1000000)(ha:a≤ts.length)(σ:LLV)(hi:σ[i]? = some (pb ts a)):
 Fun G 248 [.ptr i 0,.d (ab k)] σ fun o σ'=>o=.ret (kz ts a k)/\σ'=if fH ts a k=true then σ.set i (pb ts (a+1))else σ:=by
 have hlt:=(List.getElem?_eq_some_iff.1 hi).1;refine ai Tryz.func248 Qi rfl fun hb hw=>?_;unfold Oo;have hA:=fun m l=>gA m ts a i hz hn ha (σ++l) (ar hi l);have hso:=fun l x=>aI hi l x;obtain⟨σ1,hs1⟩:∃x,x=σ.set i (pb ts (a+1)):=⟨_,rfl⟩
 have hl1:σ1.length=σ.length:=by rw[hs1,Rx]
 have hb1:aj σ1.length σ1=true:=by rw[hl1,hs1];exact bE hb i ts _
 have h15:ci.length≤100:=by decide
 have fin1:∀(v:V) (ρ:ah) (l:LLV),kz ts a k=v->fH ts a k=true->aU (σ1++l) ρ pi=some v->V.under σ1.length v=true->fin σ1.length pi (fun o σ'=>o=.ret (kz ts a k)/\σ'=if fH ts a k=true then σ1 else σ) .ret ρ (σ1++l):=fun v ρ l e1 e2 e3 e4=>
  bH (τ:=σ1) hb1 e3 e4 Rw ⟨by rw[e1],by rw[e2,if_pos rfl]⟩
 simp -dsimp only[aw,jV,jW,jX,jY,jZ,jA,reduceIte,reduceCtorEq,jB,jC,jD,jE,jF,jG];refine ac (me _) ?_;generalize hl:ci=l at *;simp -dsimp only[aw,jV,jW,jX,jY,jZ,jA,reduceIte,reduceCtorEq,jB,jC,jD,jE,jF,jG,jb];refine bj [0,1,4,9,10,11] (R:=fun(j:Nat) ρ σ'=>ρ=[(0,.ptr i 0),(1,.d (ab k)),(4,.ptr σ.length 0),(9,.d (.sl (jb l))),(10,aL .i64 l.length),(11,aL .i64 j)]/\σ'=σ++[[.d (ae ⟨#[]⟩),.d (ab 0),.d (ab 0)]]/\gu l k ts a=gu (l.drop j) k ts a) l.length ⟨rfl,rfl,rfl⟩ ?_ _;rintro j ρ' σ' hj ⟨rfl,rfl,hr⟩;by_cases hlj:j<l.length
 .have hd:gu (l.drop j) k ts a=if l[j].2.2=k/\aH l[j].1 ts a=true then some l[j]else gu (l.drop (j+1)) k ts a:=by
   rw[Ry hlj];unfold gu;rw[RG];by_cases h1:l[j].2.2=k<;>by_cases h2:aH l[j].1 ts a=true<;>simp[h1,h2]
  have next:gu (l.drop j) k ts a=gu (l.drop (j+1)) k ts a->j<l.length/\Nxt σ.length (fun ρ σ'=>ρ=[(0,V.ptr i 0),(1,.d (ab k)),(4,.ptr σ.length 0),(9,.d (.sl (jb l))),(10,aL .i64 l.length),(11,aL .i64 ((j+1:Nat):Int))]/\σ'=σ++[[.d (ae ⟨#[]⟩),.d (ab 0),.d (ab 0)]]/\gu l k ts a=gu (l.drop (j+1)) k ts a) [(0,V.ptr i 0),(1,.d (ab k)),(4,.ptr σ.length 0),(9,.d (.sl (jb l))),(10,aL .i64 l.length),(11,aL .i64 ((j+1:Nat):Int))] (σ++[[.d (ae ⟨#[]⟩),.d (ab 0),.d (ab 0)],[.d (ae l[j].1),.d (ab l[j].2.1),.d (ab l[j].2.2)]]) .mk:=fun e=>
   ⟨hlj,Nxt.to (σ++[[.d (ae ⟨#[]⟩),.d (ab 0),.d (ab 0)]]) [[.d (ae l[j].1),.d (ab l[j].2.1),.d (ab l[j].2.2)]] (by simp) (by simp) (aE hb rfl) (by simp[ao,V.under];omega) ⟨rfl,rfl,by rw[hr,e]⟩⟩
  by_cases h1:l[j].2.2=k
  .have h1':decide (((l[j].2.2:Nat):Int)=((k:Nat):Int))=true:=by rw[decide_eq_true_eq];omega
   simp -dsimp only[aw,jV,jW,jX,jY,jZ,jA,reduceIte,reduceCtorEq,jB,jC,jD,jE,jF,jG,jb,Rv,hlj,decide_true,RA hlj,h1'];refine dq (hA _ _) ?_;cases hs:aH l[j].1 ts a with
   | true=>
    rw[if_pos ⟨h1,hs⟩]at hd;rw[if_pos rfl,hso,<-hs1];rw[<-hl1];simp -dsimp only[aw,jV,jW,jX,jY,jZ,jA,reduceIte,reduceCtorEq,jB,jC,jD,jE,jF,jG];refine fin1 (.tup [.agg [.d (ae l[j].1),.d (ab l[j].2.1),.d (ab l[j].2.2)],aq false,aq true]) _ _ ?_ ?_ ?_ ?_
    .unfold kz;rw[hl,hr,hd]
    .unfold fH;rw[hl,hr,hd];rfl
    .simp[pi,aU,cY,bq,aw,jV,jW,jX,jY,jZ,jA,reduceIte,reduceCtorEq,jB,jC,jD,jE,jF,jG]
    .rfl
   | false=>
    rw[if_neg (fun h=>by rw[hs]at h;cases h.2)]at hd;simp -dsimp only[aw,jV,jW,jX,jY,jZ,jA,reduceIte,reduceCtorEq,jB,jC,jD,jE,jF,jG,Rs,if_false,ba hlj (show l.length≤9223372036854775807 by omega)];exact next hd
  .have h1':decide (((l[j].2.2:Nat):Int)=((k:Nat):Int))=false:=by rw[decide_eq_false_iff_not];omega
   rw[if_neg (fun h=>h1 h.1)]at hd;simp -dsimp only[aw,jV,jW,jX,jY,jZ,jA,reduceIte,reduceCtorEq,jB,jC,jD,jE,jF,jG,jb,Rv,hlj,decide_true,RA hlj,h1',ba hlj (show l.length≤9223372036854775807 by omega)];exact(next hd).2
 .rw[Rz (by omega),show gu [] k ts a=none from rfl]at hr;by_cases h9:k=9
  .subst h9;simp -dsimp only[aw,jV,jW,jX,jY,jZ,jA,reduceIte,reduceCtorEq,jB,jC,jD,jE,jF,jG,Rv,hlj,decide_false,show(((9:Nat):Int))=9 from rfl,decide_true];refine dq (hA _ _) ?_;have hf9:gu ci 9 ts a=none:=by rw[hl];exact hr
   cases hs:aH ⟨#[62]⟩ ts a with
   | true=>
    have hs':aH (aa 62) ts a=true:=hs;rw[if_pos rfl,hso,<-hs1];rw[<-hl1];simp -dsimp only[aw,jV,jW,jX,jY,jZ,jA,reduceIte,reduceCtorEq,jB,jC,jD,jE,jF,jG];refine fin1 (.tup [.agg [.d (ae ⟨#[]⟩),.d (ab 17),.d (ab 0)],aq true,aq true]) _ _ ?_ ?_ ?_ ?_
    .unfold kz;rw[hf9];simp[hs']
    .unfold fH;rw[hf9];simp[hs']
    .simp[pi,aU,cY,bq,aw,jV,jW,jX,jY,jZ,jA,reduceIte,reduceCtorEq,jB,jC,jD,jE,jF,jG]
    .rfl
   | false=>
    have hs':aH (aa 62) ts a=false:=hs;simp -dsimp only[aw,jV,jW,jX,jY,jZ,jA,reduceIte,reduceCtorEq,jB,jC,jD,jE,jF,jG,Rs,if_false];refine dq (hA _ _) ?_;cases hs2:aH ⟨#[62,61]⟩ ts a with
    | true=>
     have hs2':aH (aF 62 61) ts a=true:=hs2;rw[if_pos rfl,hso,<-hs1];rw[<-hl1];simp -dsimp only[aw,jV,jW,jX,jY,jZ,jA,reduceIte,reduceCtorEq,jB,jC,jD,jE,jF,jG];refine fin1 (.tup [.agg [.d (ae ⟨#[]⟩),.d (ab 18),.d (ab 0)],aq true,aq true]) _ _ ?_ ?_ ?_ ?_
     .unfold kz;rw[hf9];simp[hs',hs2']
     .unfold fH;rw[hf9];simp[hs',hs2']
     .simp[pi,aU,cY,bq,aw,jV,jW,jX,jY,jZ,jA,reduceIte,reduceCtorEq,jB,jC,jD,jE,jF,jG]
     .rfl
    | false=>
     have hs2':aH (aF 62 61) ts a=false:=hs2;simp -dsimp only[aw,jV,jW,jX,jY,jZ,jA,reduceIte,reduceCtorEq,jB,jC,jD,jE,jF,jG,Rs,if_false];exact al (v:=.tup [zb,aq false,aq false]) hb (by simp[pi,aU,cY,bq,zb,aw,jV,jW,jX,jY,jZ,jA,reduceIte,reduceCtorEq,jB,jC,jD,jE,jF,jG]) rfl Rw ⟨by unfold kz;rw[hf9];simp[hs',hs2'],by unfold fH;rw[hf9];simp[hs',hs2']⟩
  .have h9':decide (((k:Nat):Int)=9)=false:=by rw[decide_eq_false_iff_not];omega
   simp -dsimp only[aw,jV,jW,jX,jY,jZ,jA,reduceIte,reduceCtorEq,jB,jC,jD,jE,jF,jG,Rv,hlj,decide_false,h9'];exact al (v:=.tup [zb,aq false,aq false]) hb (by simp[pi,aU,cY,bq,zb,aw,jV,jW,jX,jY,jZ,jA,reduceIte,reduceCtorEq,jB,jC,jD,jE,jF,jG]) rfl Rw ⟨by unfold kz;rw[hl,hr];simp[h9],by unfold fH;rw[hl,hr];simp[h9]⟩
def PQ(ts:List Tok)(i:Nat)(σ:LLV)(x:PR)(o:Out)(σ':LLV):Prop:=match x with
 | .ok e r=>o=.ret (vex e)/\σ'=σ.set i (pb ts (ts.length-r.length))
 | .bad c r=>o=.panic (e7 c (ts.length-r.length))/\∃b,σ'=σ.set i (pb ts b)
 | .out=>False
theorem Fn{ts r:List Tok}(h:r <:+ ts):r=ts.drop (ts.length-r.length):=List.suffix_iff_eq_drop.1 h
theorem mt{ts:List Tok}{a:Nat}{k:PK}{e:Ex}{r:List Tok}(ha:a≤ts.length)(h:par k (ts.drop a)=.ok e r):r=ts.drop (ts.length-r.length)/\a≤ts.length-r.length/\ts.length-r.length≤ts.length/\(k.eats=true->a<ts.length-r.length):=by
 have ht:=mO k (ts.drop a);rw[h]at ht;have h1:=ht.1.length_le;have h2:=ht.2;rw[RF]at h1 h2;exact⟨Fn (ht.1.trans (List.drop_suffix _ _)),by omega,by omega,fun e=>by have:=h2 e;omega⟩
theorem s7(ts:List Tok)(a:Nat)(ha:a≤ts.length):ey (ts.drop a)=.bad (mM ts a) (ts.drop a):=by
 unfold mM;by_cases h:a<ts.length
 .rw[if_pos h,Ry h];rfl
 .rw[if_neg h,Rz (by omega)];rfl
theorem ec(ts:List Tok)(a:Nat)(ha:a≤ts.length):ts.length-(ts.drop a).length=a:=by rw[RF];omega
theorem Gs(ts:List Tok)(a i:Nat)(hz:∀t,t∈ts->t.text.size≤1000)(hn:ts.length≤1000000)(ha:a≤ts.length)
 (hL:∀σ:LLV,σ[i]? = some (pb ts a)->Fun G 243 [.ptr i 0,.d (ab 3)] σ (PQ ts i σ (par (.L 3) (ts.drop a))))
 (hI:∀b,a<b->b≤ts.length->∀σ:LLV,σ[i]? = some (pb ts b)->Fun G 239 [.ptr i 0] σ (PQ ts i σ (par .I (ts.drop b))))
 (σ:LLV)(hi:σ[i]? = some (pb ts a)):Fun G 239 [.ptr i 0] σ (PQ ts i σ (par .I (ts.drop a))):=by
 have hlt:=(List.getElem?_eq_some_iff.1 hi).1;have hset:∀X:List V,(σ.set i X)[i]? = some X:=fun X=>by simp[hlt]
 refine ai Tryz.func239 Rn rfl fun hb hw=>?_;unfold NZ;have hL':=fun l=>hL (σ++l) (ar hi l);rw[c6];simp only[aP];simp -dsimp only[aw,jV,jW,jX,jY,jZ,jA,reduceIte,reduceCtorEq,jB,jC,jD,jE,jF,jG];refine aR (hL' _) fun o σ' hq=>?_;cases hx:par (.L 3) (ts.drop a)with
 | out=>exact absurd hx (dB _ _)
 | bad c r=>
  rw[hx]at hq;obtain⟨rfl,b,rfl⟩:=hq;rw[aI hi];simp -dsimp only[aw,jV,jW,jX,jY,jZ,jA,reduceIte,reduceCtorEq,jB,jC,jD,jE,jF,jG,bz];exact dv (τ:=σ.set i (pb ts b)) (bE hb i ts b) (cL _ _ _) rfl ⟨rfl,b,rfl⟩
 | ok e r=>
  rw[hx]at hq;obtain⟨rfl,rfl⟩:=hq;obtain⟨h1,h2,h3,h4⟩:=mt ha hx;have h4:=h4 rfl;generalize ts.length-r.length=a1 at *;subst h1;rw[aI hi];obtain⟨σ1,hs1⟩:∃x,x=σ.set i (pb ts a1):=⟨_,rfl⟩
  have hl1:σ1.length=σ.length:=by rw[hs1,Rx]
  have hb1:aj σ1.length σ1=true:=by rw[hl1,hs1];exact bE hb i ts _
  have hi1:σ1[i]? = some (pb ts a1):=by rw[hs1];exact hset _
  have hA:=fun m l=>gA m ts a1 i hz hn h3 (σ1++l) (ar hi1 l);rw[<-hs1];rw[<-hl1];have hdr:ts.drop a1=ts.drop a1:=rfl;simp -dsimp only[aw,jV,jW,jX,jY,jZ,jA,reduceIte,reduceCtorEq,jB,jC,jD,jE,jF,jG,bc,ak,PR.bind];refine dq (hA _ _) ?_;have hm:(⟨#[61,62]⟩:ByteArray)=aF 61 62:=rfl;rw[hm];cases hs:aH (aF 61 62) ts a1 with
  | false=>
   simp -dsimp only[aw,jV,jW,jX,jY,jZ,jA,reduceIte,reduceCtorEq,jB,jC,jD,jE,jF,jG,Rs,if_false];exact bH (τ:=σ1) hb1 (v:=vex e) (by rw[ak];simp[Ea,aU,bq,aw,jV,jW,jX,jY,jZ,jA,reduceIte,reduceCtorEq,jB,jC,jD,jE,jF,jG]) (by rw[ak];rfl) Rw (by simp only[PR.bind,bu,hs,Rs,if_false];exact⟨rfl,by rw[ec ts a1 h3];exact hs1⟩)
  | true=>
   have ha2:a1+1≤ts.length:=by
    apply Ru;intro h;rw[fD (by omega)]at hs;cases hs
   obtain⟨σ2,hs2⟩:∃x,x=σ1.set i (pb ts (a1+1)):=⟨_,rfl⟩
   have hl2:σ2.length=σ1.length:=by rw[hs2,Rx]
   have hb2:aj σ2.length σ2=true:=by rw[hl2,hs2];exact bE hb1 i ts _
   have hi2:σ2[i]? = some (pb ts (a1+1)):=by rw[hs2,RB (by omega)]
   rw[if_pos rfl,aI hi1,<-hs2];rw[<-hl2];simp -dsimp only[aw,jV,jW,jX,jY,jZ,jA,reduceIte,reduceCtorEq,jB,jC,jD,jE,jF,jG];have hall:∀X:List V,σ2.set i X=σ.set i X:=fun X=>by rw[hs2,hs1,RC,RC]
   cases hx2:par .I (ts.drop (a1+1))with
   | out=>exact absurd hx2 (dB _ _)
   | bad c r2=>
    refine uu ((hI (a1+1) (by omega) ha2 _ (ar hi2 _)).mono fun o σ' hq=>?_);rw[hx2]at hq;obtain⟨rfl,b,rfl⟩:=hq;refine⟨_,rfl,fun ρ'=>?_⟩;rw[aI hi2];simp -dsimp only[aw,jV,jW,jX,jY,jZ,jA,reduceIte,reduceCtorEq,jB,jC,jD,jE,jF,jG];refine dv (τ:=σ2.set i (pb ts b)) (bE hb2 i ts b) (cL _ _ _) rfl ?_;simp only[PR.bind,bu,hs,if_true,hx2];exact⟨rfl,b,hall _⟩
   | ok e2 r2=>
    obtain⟨g1,g2,g3,g4⟩:=mt ha2 hx2;generalize ts.length-r2.length=a2 at *;obtain⟨σ3,hs3⟩:∃x,x=σ2.set i (pb ts a2):=⟨_,rfl⟩
    have hl3:σ3.length=σ2.length:=by rw[hs3,Rx]
    have hb3:aj σ3.length σ3=true:=by rw[hl3,hs3];exact bE hb2 i ts _
    have hP:PQ ts i σ ((PR.ok e (ts.drop a1)).bind fun a r1=>match acc (aF 61 62) r1 with|none=>.ok a r1|some r2=>(par .I r2).bind fun b r3=>.ok (aT 21 [a,b]) r3) (.ret (vex (aT 21 [e,e2]))) σ3:=by
     simp only[PR.bind,bu,hs,if_true,hx2];rw[g1];exact⟨rfl,by rw[ec ts a2 g3,hs3];exact hall _⟩
    have hN:=eV 21 [e,e2];refine ui (σ1:=σ3++[[.d (ab 0),.d (ab 0),.d (ae ⟨#[]⟩),.nil],[.d (ab e.op),.d (ab e.num),.d (ae e.name),.d (.sl (e.args.map dex))]]) (v:=vex e2) ((hI (a1+1) (by omega) ha2 _ (ar hi2 _)).mono fun o σ' hq=>?_) ?_ ?_
    .rw[hx2]at hq;obtain⟨rfl,rfl⟩:=hq;refine⟨rfl,?_⟩;rw[aI hi2,hs3,g1,ec ts a2 g3]
    .rw[<-hl3];simp -dsimp only[aw,jV,jW,jX,jY,jZ,jA,reduceIte,reduceCtorEq,jB,jC,jD,jE,jF,jG]
    .rw[<-hl3];simp -dsimp only[aw,jV,jW,jX,jY,jZ,jA,reduceIte,reduceCtorEq,jB,jC,jD,jE,jF,jG,ak];refine bd (by simpa only[RH,RI,bB]using hN _) ?_;simp -dsimp only[aw,jV,jW,jX,jY,jZ,jA,reduceIte,reduceCtorEq,jB,jC,jD,jE,jF,jG,ak,aT,bS,bi,aN,aO];exact bH (τ:=σ3) hb3 (v:=vex (aT 21 [e,e2])) (by rw[ak];simp[Ea,aU,bq,aT,bS,bi,aN,aO,bB,aw,jV,jW,jX,jY,jZ,jA,reduceIte,reduceCtorEq,jB,jC,jD,jE,jF,jG]) (by rw[ak];rfl) Rw hP
theorem DW(ts:List Tok)(a i:Nat)(hz:∀t,t∈ts->t.text.size≤1000)(hn:ts.length≤1000000)(ha:a≤ts.length)
 (hI:∀σ:LLV,σ[i]? = some (pb ts a)->Fun G 239 [.ptr i 0] σ (PQ ts i σ (par .I (ts.drop a))))
 (hW:∀b,a<b->b≤ts.length->∀σ:LLV,σ[i]? = some (pb ts b)->Fun G 237 [.ptr i 0] σ (PQ ts i σ (par .W (ts.drop b))))
 (σ:LLV)(hi:σ[i]? = some (pb ts a)):Fun G 237 [.ptr i 0] σ (PQ ts i σ (par .W (ts.drop a))):=by
 have hlt:=(List.getElem?_eq_some_iff.1 hi).1;have hset:∀X:List V,(σ.set i X)[i]? = some X:=fun X=>by simp[hlt]
 refine ai Tryz.func237 P2 rfl fun hb hw=>?_;unfold MN;have hI':=fun l=>hI (σ++l) (ar hi l);rw[c6];simp only[aP];simp -dsimp only[aw,jV,jW,jX,jY,jZ,jA,reduceIte,reduceCtorEq,jB,jC,jD,jE,jF,jG];refine aR (hI' _) fun o σ' hq=>?_;cases hx:par .I (ts.drop a)with
 | out=>exact absurd hx (dB _ _)
 | bad c r=>
  rw[hx]at hq;obtain⟨rfl,b,rfl⟩:=hq;rw[aI hi];simp -dsimp only[aw,jV,jW,jX,jY,jZ,jA,reduceIte,reduceCtorEq,jB,jC,jD,jE,jF,jG,bz];exact dv (τ:=σ.set i (pb ts b)) (bE hb i ts b) (cL _ _ _) rfl ⟨rfl,b,rfl⟩
 | ok e r=>
  rw[hx]at hq;obtain⟨rfl,rfl⟩:=hq;obtain⟨h1,h2,h3,h4⟩:=mt ha hx;have h4:=h4 rfl;generalize ts.length-r.length=a1 at *;subst h1;rw[aI hi];obtain⟨σ1,hs1⟩:∃x,x=σ.set i (pb ts a1):=⟨_,rfl⟩
  have hl1:σ1.length=σ.length:=by rw[hs1,Rx]
  have hb1:aj σ1.length σ1=true:=by rw[hl1,hs1];exact bE hb i ts _
  have hi1:σ1[i]? = some (pb ts a1):=by rw[hs1];exact hset _
  have hA:=fun m l=>gA m ts a1 i hz hn h3 (σ1++l) (ar hi1 l);rw[<-hs1];rw[<-hl1];simp -dsimp only[aw,jV,jW,jX,jY,jZ,jA,reduceIte,reduceCtorEq,jB,jC,jD,jE,jF,jG,bc,ak,PR.bind];refine dq (hA _ _) ?_;have hm:(⟨#[63]⟩:ByteArray)=aa 63:=rfl;rw[hm];cases hs:aH (aa 63) ts a1 with
  | false=>
   simp -dsimp only[aw,jV,jW,jX,jY,jZ,jA,reduceIte,reduceCtorEq,jB,jC,jD,jE,jF,jG,Rs,if_false];exact bH (τ:=σ1) hb1 (v:=vex e) (by rw[ak];simp[FQ,aU,bq,aw,jV,jW,jX,jY,jZ,jA,reduceIte,reduceCtorEq,jB,jC,jD,jE,jF,jG]) (by rw[ak];rfl) Rw (by simp only[PR.bind,bu,hs,Rs,if_false];exact⟨rfl,by rw[ec ts a1 h3];exact hs1⟩)
  | true=>
   have ha2:a1+1≤ts.length:=by
    apply Ru;intro h;rw[fD (by omega)]at hs;cases hs
   obtain⟨σ2,hs2⟩:∃x,x=σ1.set i (pb ts (a1+1)):=⟨_,rfl⟩
   have hl2:σ2.length=σ1.length:=by rw[hs2,Rx]
   have hb2:aj σ2.length σ2=true:=by rw[hl2,hs2];exact bE hb1 i ts _
   have hi2:σ2[i]? = some (pb ts (a1+1)):=by rw[hs2,RB (by omega)]
   rw[if_pos rfl,aI hi1,<-hs2];rw[<-hl2];have hall:∀X:List V,σ2.set i X=σ.set i X:=fun X=>by rw[hs2,hs1,RC,RC]
   simp -dsimp only[aw,jV,jW,jX,jY,jZ,jA,reduceIte,reduceCtorEq,jB,jC,jD,jE,jF,jG];refine aR (hW (a1+1) (by omega) ha2 _ (ar hi2 _)) fun o σ' hq=>?_;cases hx2:par .W (ts.drop (a1+1))with
   | out=>exact absurd hx2 (dB _ _)
   | bad c2 r2=>
    rw[hx2]at hq;obtain⟨rfl,b,rfl⟩:=hq;rw[aI hi2];simp -dsimp only[aw,jV,jW,jX,jY,jZ,jA,reduceIte,reduceCtorEq,jB,jC,jD,jE,jF,jG,bz];refine dv (τ:=σ2.set i (pb ts b)) (bE hb2 i ts b) (cL _ _ _) rfl ?_;simp only[PR.bind,bu,hs,if_true,hx2];exact⟨rfl,b,hall _⟩
   | ok e2 r2=>
    rw[hx2]at hq;obtain⟨rfl,rfl⟩:=hq;obtain⟨g1,g2,g3,g4⟩:=mt ha2 hx2;generalize ts.length-r2.length=a2 at *;obtain⟨σ3,hs3⟩:∃x,x=σ2.set i (pb ts a2):=⟨_,rfl⟩
    have hl3:σ3.length=σ2.length:=by rw[hs3,Rx]
    have hb3:aj σ3.length σ3=true:=by rw[hl3,hs3];exact bE hb2 i ts _
    have hi3:σ3[i]? = some (pb ts a2):=by rw[hs3,RB (by omega)]
    have hE:=fun m l=>qS m ts a2 i hz hn g3 (σ3++l) (ar hi3 l);rw[aI hi2,<-hs3];rw[<-hl3];simp -dsimp only[aw,jV,jW,jX,jY,jZ,jA,reduceIte,reduceCtorEq,jB,jC,jD,jE,jF,jG,bc,ak];refine aR (hE _ _) fun o σ' hq=>?_;have hm2:(⟨#[58]⟩:ByteArray)=aa 58:=rfl;rw[hm2]at hq;have hall3:∀X:List V,σ3.set i X=σ.set i X:=fun X=>by rw[hs3,RC];exact hall X
    cases hc:aH (aa 58) ts a2 with
    | false=>
     rw[hc,if_neg (by decide)]at hq;obtain⟨rfl,rfl⟩:=hq;simp -dsimp only[aw,jV,jW,jX,jY,jZ,jA,reduceIte,reduceCtorEq,jB,jC,jD,jE,jF,jG,bz];refine dv (τ:=σ3) hb3 Rw rfl ?_;simp only[PR.bind,bu,hs,if_true,hx2];rw[g1,bu,hc];simp only[Rs,if_false];rw[s7 ts a2 g3];exact⟨by rw[ec ts a2 g3],a2,by rw[hs3];exact hall _⟩
    | true=>
     rw[hc,if_pos rfl]at hq;obtain⟨rfl,rfl⟩:=hq
     have ha3:a2+1≤ts.length:=by
      apply Ru;intro h;rw[fD (by omega)]at hc;cases hc
     obtain⟨σ4,hs4⟩:∃x,x=σ3.set i (pb ts (a2+1)):=⟨_,rfl⟩
     have hl4:σ4.length=σ3.length:=by rw[hs4,Rx]
     have hb4:aj σ4.length σ4=true:=by rw[hl4,hs4];exact bE hb3 i ts _
     have hi4:σ4[i]? = some (pb ts (a2+1)):=by rw[hs4,RB (by omega)]
     have hall4:∀X:List V,σ4.set i X=σ.set i X:=fun X=>by rw[hs4,RC];exact hall3 X
     rw[aI hi3,<-hs4];rw[<-hl4];simp -dsimp only[aw,jV,jW,jX,jY,jZ,jA,reduceIte,reduceCtorEq,jB,jC,jD,jE,jF,jG,bc];cases hx3:par .W (ts.drop (a2+1))with
     | out=>exact absurd hx3 (dB _ _)
     | bad c3 r3=>
      refine uu ((hW (a2+1) (by omega) ha3 _ (ar hi4 _)).mono fun o σ' hq=>?_);rw[hx3]at hq;obtain⟨rfl,b,rfl⟩:=hq;refine⟨_,rfl,fun ρ'=>?_⟩;rw[aI hi4];simp -dsimp only[aw,jV,jW,jX,jY,jZ,jA,reduceIte,reduceCtorEq,jB,jC,jD,jE,jF,jG];refine dv (τ:=σ4.set i (pb ts b)) (bE hb4 i ts b) (cL _ _ _) rfl ?_;simp only[PR.bind,bu,hs,if_true,hx2];rw[g1,bu,hc];simp only[if_true,hx3];exact⟨rfl,b,hall4 _⟩
     | ok e3 r3=>
      obtain⟨k1,k2,k3,k4⟩:=mt ha3 hx3;generalize ts.length-r3.length=a3 at *;obtain⟨σ5,hs5⟩:∃x,x=σ4.set i (pb ts a3):=⟨_,rfl⟩
      have hl5:σ5.length=σ4.length:=by rw[hs5,Rx]
      have hb5:aj σ5.length σ5=true:=by rw[hl5,hs5];exact bE hb4 i ts _
      have hP:PQ ts i σ ((PR.ok e (ts.drop a1)).bind fun c r1=>match acc (aa 63) r1 with|none=>.ok c r1|some r2=>(par .W r2).bind fun a r3=>match acc (aa 58) r3 with|none=>ey r3|some r4=>(par .W r4).bind fun b r5=>.ok (aT 22 [c,a,b]) r5) (.ret (vex (aT 22 [e,e2,e3]))) σ5:=by
       simp only[PR.bind,bu,hs,if_true,hx2];rw[g1,bu,hc];simp only[if_true,hx3];rw[k1];exact⟨rfl,by rw[ec ts a3 k3,hs5];exact hall4 _⟩
      have hN:=eV 22 [e,e2,e3];refine ui (σ1:=σ5++[[.d (ab 0),.d (ab 0),.d (ae ⟨#[]⟩),.nil],[.d (ab e.op),.d (ab e.num),.d (ae e.name),.d (.sl (e.args.map dex))],[.d (ab e2.op),.d (ab e2.num),.d (ae e2.name),.d (.sl (e2.args.map dex))]]) (v:=vex e3) ((hW (a2+1) (by omega) ha3 _ (ar hi4 _)).mono fun o σ' hq=>?_) ?_ ?_
      .rw[hx3]at hq;obtain⟨rfl,rfl⟩:=hq;refine⟨rfl,?_⟩;rw[aI hi4,hs5,k1,ec ts a3 k3]
      .rw[<-hl5];simp -dsimp only[aw,jV,jW,jX,jY,jZ,jA,reduceIte,reduceCtorEq,jB,jC,jD,jE,jF,jG]
      .rw[<-hl5];simp -dsimp only[aw,jV,jW,jX,jY,jZ,jA,reduceIte,reduceCtorEq,jB,jC,jD,jE,jF,jG,ak];refine bd (by simpa only[RH,RI,bB]using hN _) ?_;simp -dsimp only[aw,jV,jW,jX,jY,jZ,jA,reduceIte,reduceCtorEq,jB,jC,jD,jE,jF,jG,ak,aT,bS,bi,aN,aO];exact bH (τ:=σ5) hb5 (v:=vex (aT 22 [e,e2,e3])) (by rw[ak];simp[FQ,aU,bq,aT,bS,bi,aN,aO,bB,aw,jV,jW,jX,jY,jZ,jA,reduceIte,reduceCtorEq,jB,jC,jD,jE,jF,jG]) (by rw[ak];rfl) Rw hP
end Go.Proofs.YthekkgfmagliiaaGreatDoor
