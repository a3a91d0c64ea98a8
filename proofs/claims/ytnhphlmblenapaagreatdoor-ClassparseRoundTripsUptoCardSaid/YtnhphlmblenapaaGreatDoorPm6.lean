import Derived.Test.YtnhphlmblenapaaGreatDoorPm4
set_option linter.unusedVariables false
set_option linter.unusedSimpArgs false
set_option linter.unusedSectionVars false
set_option maxHeartbeats 4000000
open Bool renaming false_eq_true->TU
open Classical renaming byContradiction->TV
open List renaming length_set->TW,drop_eq_nil_of_le->TX,take_left->TY,getElem?_set_self->TZ,map_cons->T0,set_set->T3,map_nil->T4
namespace Go.Proofs.YtnhphlmblenapaaGreatDoor
open Go.RowKit
open Nat renaming reduceLeDiff -> jA, reduceBEq -> jB, reduceLT -> jC, reduceEqDiff -> jD, reduceAdd -> jE, reduceSub -> jF, reduceMul -> jG
open V renaming copy -> jV, lend -> jW, lend1 -> jX, cells -> jY, boxable -> jZ
def zH(j:Nat):ByteArray:=if j=0 then aa 33 else if j=1 then aa 126 else aa 45
theorem Ed(ts:List Tok)(a i:Nat)(hz:∀t,t∈ts->t.text.size≤1000)(hn:ts.length≤1200000)(ha:a≤ts.length)
 (hP:∀σ:LLV,σ[i]? = some (pb ts a)->Fun G 326 [.ptr i 0] σ (PQ ts i σ (par .P (ts.drop a))))
 (hU:∀b,a<b->b≤ts.length->∀σ:LLV,σ[i]? = some (pb ts b)->Fun G 320 [.ptr i 0] σ (PQ ts i σ (par .U (ts.drop b))))
 (σ:LLV)(hi:σ[i]? = some (pb ts a)):Fun G 320 [.ptr i 0] σ (PQ ts i σ (par .U (ts.drop a))):=by
 have hlt:=(List.getElem?_eq_some_iff.1 hi).1;refine ai Tryz.func320 Sj rfl fun hb hw=>?_;unfold Nx;have hP':=fun l=>hP (σ++l) (al hi l);have hA:=fun m l=>lf m ts a i hz hn ha (σ++l) (al hi l);have hpar:=cP .U (ts.drop a);simp only[aJ,bR]at hpar;simp -dsimp only[aw,jV,jW,jX,jY,jZ,jA,reduceIte,reduceCtorEq,jB,jC,jD,jE,jF,jG];refine aN [0,2,5,6,7] (R:=fun(j:Nat) ρ σ'=>ρ=[(0,.ptr i 0),(2,.ptr σ.length 0),(5,.d (.sl [[ac 4],[ac 5],[ac 6]])),(6,.d (ac 3)),(7,aB .i64 j)]/\σ'=σ++[[.d (ac 0),.d (ac 0),.d (ab ⟨#[]⟩),.nil]]/\∀q,q<j->bG (zH q) ts a=false) 3 ⟨rfl,rfl,fun q h=>by omega⟩ ?_ _;rintro j ρ' σ' hj ⟨rfl,rfl,hno⟩;have hj4:j=0\/j=1\/j=2\/j=3:=by omega
 rcases hj4 with rfl|rfl|rfl|rfl
 .
  have e0:iaV 1 (V.d (.sl [[ac 4],[ac 5],[ac 6]])) (aB .i64 ((0:Nat):Int))=some (.row [ac 4] 0):=rfl;have hc:decide (((0:Nat):Int)<3)=true:=rfl;simp -dsimp only[aw,jV,jW,jX,jY,jZ,jA,reduceIte,reduceCtorEq,jB,jC,jD,jE,jF,jG,e0,hc];refine ae (cX 4 _) ?_;simp -dsimp only[aw,jV,jW,jX,jY,jZ,jA,reduceIte,reduceCtorEq,jB,jC,jD,jE,jF,jG];refine dL (hA _ _) ?_;have hm:bs (iY 4)=zH 0:=rfl;rw[hm];cases hs:bG (zH 0) ts a with
  | true=>
   have hs':bG (aa 33) ts a=true:=hs
   have ha2:a+1≤ts.length:=by
    apply TV;intro h;rw[iX (by omega)]at hs;cases hs
   obtain⟨σ2,hs2⟩:∃x,x=σ.set i (pb ts (a+1)):=⟨_,rfl⟩
   have hl2:σ2.length=σ.length:=by rw[hs2,TW]
   have hb2:aj σ2.length σ2=true:=by rw[hl2,hs2];exact dh hb i ts _
   have hi2:σ2[i]? = some (pb ts (a+1)):=by rw[hs2,TZ (by omega)]
   have hall:∀X:List V,σ2.set i X=σ.set i X:=fun X=>by rw[hs2,T3]
   rw[if_pos rfl,bN hi,<-hs2];rw[<-hl2];simp -dsimp only[aw,jV,jW,jX,jY,jZ,jA,reduceIte,reduceCtorEq,jB,jC,jD,jE,jF,jG];refine aC (hU (a+1) (by omega) ha2 _ (al hi2 _)) fun o σ' hq=>?_;simp only[hs',if_true,if_false,TU]at hpar;rw[hpar];cases hx:par .U (ts.drop (a+1))with
   | out=>exact absurd hx (gC _ _)
   | bad c r=>
    rw[hx]at hq;obtain⟨rfl,b,rfl⟩:=hq;rw[bN hi2];simp -dsimp only[aw,jV,jW,jX,jY,jZ,jA,reduceIte,reduceCtorEq,jB,jC,jD,jE,jF,jG,bu];exact fC (τ:=σ2.set i (pb ts b)) (dh hb2 i ts b) (fq _ _ _) rfl ⟨rfl,b,hall _⟩
   | ok e r=>
    rw[hx]at hq;obtain⟨rfl,rfl⟩:=hq;obtain⟨σ3,hs3⟩:∃x,x=σ2.set i (pb ts (ts.length-r.length)):=⟨_,rfl⟩
    have hl3:σ3.length=σ2.length:=by rw[hs3,TW]
    have hb3:aj σ3.length σ3=true:=by rw[hl3,hs3];exact dh hb2 i ts _
    have hN:=eS 4 [e];have hQ:PQ ts i σ ((PR.ok e r).bind fun a r2=>.ok (aU 4 [a]) r2) (.ret (vex (aU 4 [e]))) σ3:=⟨rfl,by rw[hs3];exact hall _⟩
    rw[bN hi2,<-hs3];rw[<-hl3];simp -dsimp only[aw,jV,jW,jX,jY,jZ,jA,reduceIte,reduceCtorEq,jB,jC,jD,jE,jF,jG,bB,an];refine ae (by simpa only[T0,T4,bC]using hN _) ?_;simp -dsimp only[aw,jV,jW,jX,jY,jZ,jA,reduceIte,reduceCtorEq,jB,jC,jD,jE,jF,jG,an,aU,bX,bp,aK,aL];exact bQ (τ:=σ3) hb3 (v:=vex (aU 4 [e])) (by rw[an];simp[yo,be,bL,aU,bX,bp,aK,aL,bC,aw,jV,jW,jX,jY,jZ,jA,reduceIte,reduceCtorEq,jB,jC,jD,jE,jF,jG]) (by rw[an];rfl) TY hQ
  | false=>
   simp -dsimp only[aw,jV,jW,jX,jY,jZ,jA,reduceIte,reduceCtorEq,jB,jC,jD,jE,jF,jG,TU,if_false,ba (show -9223372036854775808≤((0:Nat):Int)+1 by omega) (show((0:Nat):Int)+1≤9223372036854775807 by omega)]
   exact Nxt.to (σ++[[.d (ac 0),.d (ac 0),.d (ab ⟨#[]⟩),.nil]]) [] (by simp) (by simp) (ax hb rfl) (by simp[aq,V.under];try omega) ⟨rfl,rfl,fun q hq=>by
    by_cases e:q=0
    .subst e;exact hs
    .exact hno q (by omega)⟩
 .
  have e0:iaV 1 (V.d (.sl [[ac 4],[ac 5],[ac 6]])) (aB .i64 ((1:Nat):Int))=some (.row [ac 5] 0):=rfl;have hc:decide (((1:Nat):Int)<3)=true:=rfl;simp -dsimp only[aw,jV,jW,jX,jY,jZ,jA,reduceIte,reduceCtorEq,jB,jC,jD,jE,jF,jG,e0,hc];refine ae (cX 5 _) ?_;simp -dsimp only[aw,jV,jW,jX,jY,jZ,jA,reduceIte,reduceCtorEq,jB,jC,jD,jE,jF,jG];refine dL (hA _ _) ?_;have hm:bs (iY 5)=zH 1:=rfl;rw[hm];have f0:bG (aa 33) ts a=false:=hno 0 (by omega);cases hs:bG (zH 1) ts a with
  | true=>
   have hs':bG (aa 126) ts a=true:=hs
   have ha2:a+1≤ts.length:=by
    apply TV;intro h;rw[iX (by omega)]at hs;cases hs
   obtain⟨σ2,hs2⟩:∃x,x=σ.set i (pb ts (a+1)):=⟨_,rfl⟩
   have hl2:σ2.length=σ.length:=by rw[hs2,TW]
   have hb2:aj σ2.length σ2=true:=by rw[hl2,hs2];exact dh hb i ts _
   have hi2:σ2[i]? = some (pb ts (a+1)):=by rw[hs2,TZ (by omega)]
   have hall:∀X:List V,σ2.set i X=σ.set i X:=fun X=>by rw[hs2,T3]
   rw[if_pos rfl,bN hi,<-hs2];rw[<-hl2];simp -dsimp only[aw,jV,jW,jX,jY,jZ,jA,reduceIte,reduceCtorEq,jB,jC,jD,jE,jF,jG];refine aC (hU (a+1) (by omega) ha2 _ (al hi2 _)) fun o σ' hq=>?_;simp only[f0,hs',if_true,if_false,TU]at hpar;rw[hpar];cases hx:par .U (ts.drop (a+1))with
   | out=>exact absurd hx (gC _ _)
   | bad c r=>
    rw[hx]at hq;obtain⟨rfl,b,rfl⟩:=hq;rw[bN hi2];simp -dsimp only[aw,jV,jW,jX,jY,jZ,jA,reduceIte,reduceCtorEq,jB,jC,jD,jE,jF,jG,bu];exact fC (τ:=σ2.set i (pb ts b)) (dh hb2 i ts b) (fq _ _ _) rfl ⟨rfl,b,hall _⟩
   | ok e r=>
    rw[hx]at hq;obtain⟨rfl,rfl⟩:=hq;obtain⟨σ3,hs3⟩:∃x,x=σ2.set i (pb ts (ts.length-r.length)):=⟨_,rfl⟩
    have hl3:σ3.length=σ2.length:=by rw[hs3,TW]
    have hb3:aj σ3.length σ3=true:=by rw[hl3,hs3];exact dh hb2 i ts _
    have hN:=eS 5 [e];have hQ:PQ ts i σ ((PR.ok e r).bind fun a r2=>.ok (aU 5 [a]) r2) (.ret (vex (aU 5 [e]))) σ3:=⟨rfl,by rw[hs3];exact hall _⟩
    rw[bN hi2,<-hs3];rw[<-hl3];simp -dsimp only[aw,jV,jW,jX,jY,jZ,jA,reduceIte,reduceCtorEq,jB,jC,jD,jE,jF,jG,bB,an];refine ae (by simpa only[T0,T4,bC]using hN _) ?_;simp -dsimp only[aw,jV,jW,jX,jY,jZ,jA,reduceIte,reduceCtorEq,jB,jC,jD,jE,jF,jG,an,aU,bX,bp,aK,aL];exact bQ (τ:=σ3) hb3 (v:=vex (aU 5 [e])) (by rw[an];simp[yo,be,bL,aU,bX,bp,aK,aL,bC,aw,jV,jW,jX,jY,jZ,jA,reduceIte,reduceCtorEq,jB,jC,jD,jE,jF,jG]) (by rw[an];rfl) TY hQ
  | false=>
   simp -dsimp only[aw,jV,jW,jX,jY,jZ,jA,reduceIte,reduceCtorEq,jB,jC,jD,jE,jF,jG,TU,if_false,ba (show -9223372036854775808≤((1:Nat):Int)+1 by omega) (show((1:Nat):Int)+1≤9223372036854775807 by omega)]
   exact Nxt.to (σ++[[.d (ac 0),.d (ac 0),.d (ab ⟨#[]⟩),.nil]]) [] (by simp) (by simp) (ax hb rfl) (by simp[aq,V.under];try omega) ⟨rfl,rfl,fun q hq=>by
    by_cases e:q=1
    .subst e;exact hs
    .exact hno q (by omega)⟩
 .
  have e0:iaV 1 (V.d (.sl [[ac 4],[ac 5],[ac 6]])) (aB .i64 ((2:Nat):Int))=some (.row [ac 6] 0):=rfl;have hc:decide (((2:Nat):Int)<3)=true:=rfl;simp -dsimp only[aw,jV,jW,jX,jY,jZ,jA,reduceIte,reduceCtorEq,jB,jC,jD,jE,jF,jG,e0,hc];refine ae (cX 6 _) ?_;simp -dsimp only[aw,jV,jW,jX,jY,jZ,jA,reduceIte,reduceCtorEq,jB,jC,jD,jE,jF,jG];refine dL (hA _ _) ?_;have hm:bs (iY 6)=zH 2:=rfl;rw[hm];have f0:bG (aa 33) ts a=false:=hno 0 (by omega);have f1:bG (aa 126) ts a=false:=hno 1 (by omega);cases hs:bG (zH 2) ts a with
  | true=>
   have hs':bG (aa 45) ts a=true:=hs
   have ha2:a+1≤ts.length:=by
    apply TV;intro h;rw[iX (by omega)]at hs;cases hs
   obtain⟨σ2,hs2⟩:∃x,x=σ.set i (pb ts (a+1)):=⟨_,rfl⟩
   have hl2:σ2.length=σ.length:=by rw[hs2,TW]
   have hb2:aj σ2.length σ2=true:=by rw[hl2,hs2];exact dh hb i ts _
   have hi2:σ2[i]? = some (pb ts (a+1)):=by rw[hs2,TZ (by omega)]
   have hall:∀X:List V,σ2.set i X=σ.set i X:=fun X=>by rw[hs2,T3]
   rw[if_pos rfl,bN hi,<-hs2];rw[<-hl2];simp -dsimp only[aw,jV,jW,jX,jY,jZ,jA,reduceIte,reduceCtorEq,jB,jC,jD,jE,jF,jG];refine aC (hU (a+1) (by omega) ha2 _ (al hi2 _)) fun o σ' hq=>?_;simp only[f0,f1,hs',if_true,if_false,TU]at hpar;rw[hpar];cases hx:par .U (ts.drop (a+1))with
   | out=>exact absurd hx (gC _ _)
   | bad c r=>
    rw[hx]at hq;obtain⟨rfl,b,rfl⟩:=hq;rw[bN hi2];simp -dsimp only[aw,jV,jW,jX,jY,jZ,jA,reduceIte,reduceCtorEq,jB,jC,jD,jE,jF,jG,bu];exact fC (τ:=σ2.set i (pb ts b)) (dh hb2 i ts b) (fq _ _ _) rfl ⟨rfl,b,hall _⟩
   | ok e r=>
    rw[hx]at hq;obtain⟨rfl,rfl⟩:=hq;obtain⟨σ3,hs3⟩:∃x,x=σ2.set i (pb ts (ts.length-r.length)):=⟨_,rfl⟩
    have hl3:σ3.length=σ2.length:=by rw[hs3,TW]
    have hb3:aj σ3.length σ3=true:=by rw[hl3,hs3];exact dh hb2 i ts _
    have hN:=eS 6 [e];have hQ:PQ ts i σ ((PR.ok e r).bind fun a r2=>.ok (aU 6 [a]) r2) (.ret (vex (aU 6 [e]))) σ3:=⟨rfl,by rw[hs3];exact hall _⟩
    rw[bN hi2,<-hs3];rw[<-hl3];simp -dsimp only[aw,jV,jW,jX,jY,jZ,jA,reduceIte,reduceCtorEq,jB,jC,jD,jE,jF,jG,bB,an];refine ae (by simpa only[T0,T4,bC]using hN _) ?_;simp -dsimp only[aw,jV,jW,jX,jY,jZ,jA,reduceIte,reduceCtorEq,jB,jC,jD,jE,jF,jG,an,aU,bX,bp,aK,aL];exact bQ (τ:=σ3) hb3 (v:=vex (aU 6 [e])) (by rw[an];simp[yo,be,bL,aU,bX,bp,aK,aL,bC,aw,jV,jW,jX,jY,jZ,jA,reduceIte,reduceCtorEq,jB,jC,jD,jE,jF,jG]) (by rw[an];rfl) TY hQ
  | false=>
   simp -dsimp only[aw,jV,jW,jX,jY,jZ,jA,reduceIte,reduceCtorEq,jB,jC,jD,jE,jF,jG,TU,if_false,ba (show -9223372036854775808≤((2:Nat):Int)+1 by omega) (show((2:Nat):Int)+1≤9223372036854775807 by omega)]
   exact Nxt.to (σ++[[.d (ac 0),.d (ac 0),.d (ab ⟨#[]⟩),.nil]]) [] (by simp) (by simp) (ax hb rfl) (by simp[aq,V.under];try omega) ⟨rfl,rfl,fun q hq=>by
    by_cases e:q=2
    .subst e;exact hs
    .exact hno q (by omega)⟩
 .have f0:bG (aa 33) ts a=false:=hno 0 (by omega);have f1:bG (aa 126) ts a=false:=hno 1 (by omega);have f2:bG (aa 45) ts a=false:=hno 2 (by omega);have hc:decide (((3:Nat):Int)<3)=false:=rfl;simp only[f0,f1,f2,if_false,TU]at hpar;rw[hpar];simp -dsimp only[aw,jV,jW,jX,jY,jZ,jA,reduceIte,reduceCtorEq,jB,jC,jD,jE,jF,jG,hc];refine aC (hP' _) fun o σ' hq=>?_;cases hx:par .P (ts.drop a)with
  | out=>exact absurd hx (gC _ _)
  | bad c r=>
   rw[hx]at hq;obtain⟨rfl,b,rfl⟩:=hq;rw[bN hi];simp -dsimp only[aw,jV,jW,jX,jY,jZ,jA,reduceIte,reduceCtorEq,jB,jC,jD,jE,jF,jG,bu];exact fC (τ:=σ.set i (pb ts b)) (dh hb i ts b) (fq _ _ _) rfl ⟨rfl,b,rfl⟩
  | ok e r=>
   rw[hx]at hq;obtain⟨rfl,rfl⟩:=hq;obtain⟨σ3,hs3⟩:∃x,x=σ.set i (pb ts (ts.length-r.length)):=⟨_,rfl⟩
   have hl3:σ3.length=σ.length:=by rw[hs3,TW]
   have hb3:aj σ3.length σ3=true:=by rw[hl3,hs3];exact dh hb i ts _
   have hQ:PQ ts i σ (PR.ok e r) (.ret (vex e)) σ3:=⟨rfl,hs3⟩
   rw[bN hi,<-hs3];rw[<-hl3];simp -dsimp only[aw,jV,jW,jX,jY,jZ,jA,reduceIte,reduceCtorEq,jB,jC,jD,jE,jF,jG,bB,an];exact bQ (τ:=σ3) hb3 (v:=vex e) (by rw[an];simp[yo,be,bL,aw,jV,jW,jX,jY,jZ,jA,reduceIte,reduceCtorEq,jB,jC,jD,jE,jF,jG]) (by rw[an];rfl) TY hQ
structure St(σ0:LLV)(i:Nat)(ts:List Tok)(a:Nat)(σ:LLV):Prop where
 eq:σ=σ0.set i (pb ts a)
 below:aj σ0.length σ0=true
 lt:i<σ0.length
structure TsOK(ts:List Tok):Prop where
 size:∀t,t∈ts->t.text.size≤1000
 len:ts.length≤1200000
section
variable {σ0 σ : LLV} {i : Nat} {ts : List Tok} {a : Nat}
theorem St.init(hi:σ[i]? = some (pb ts a))(hb:aj σ.length σ=true):St σ i ts a σ:=⟨(MZ hi).symm,hb,(List.getElem?_eq_some_iff.1 hi).1⟩
theorem St.len(S:St σ0 i ts a σ):σ.length=σ0.length:=by rw[S.eq,TW]
theorem St.at_(S:St σ0 i ts a σ):σ[i]? = some (pb ts a):=by rw[S.eq,TZ S.lt]
theorem St.bb(S:St σ0 i ts a σ):aj σ.length σ=true:=by rw[S.len,S.eq];exact dh S.below i ts a
theorem St.step(S:St σ0 i ts a σ)(b:Nat):St σ0 i ts b (σ.set i (pb ts b)):=⟨by rw[S.eq,T3],S.below,S.lt⟩
theorem St.slen(S:St σ0 i ts a σ)(X:List V):(σ.set i X).length=σ.length:=TW
variable (H : TsOK ts) {l : LLV} {K P : V -> LLV -> Prop} {s : Tag K} {t : Tag P}
include H
theorem dY{m:ByteArray}(S:St σ0 i ts a σ)(ha:a≤ts.length)(ht:bG m ts a=true->a+1≤ts.length->∀σ',St σ0 i ts (a+1) σ'->σ'.length=σ.length->K (ak true) (σ'++l))(hf:bG m ts a=false->K (ak false) (σ++l)):
 kf G 285 [.ptr i 0,.d (ab m)] (σ++l) K P s t:=by
 refine aC (lf m ts a i H.size H.len ha (σ++l) (al S.at_ l)) fun o σ' ⟨e1,e2⟩=>?_;subst e1;rw[bB];cases hs:bG m ts a with
 | true=>
  rw[hs,if_pos rfl,bN S.at_]at e2;subst e2
  exact ht hs (by
   apply TV;intro h;rw[iX (by omega)]at hs;cases hs) _ (S.step _) (S.slen _)
 | false=>
  rw[hs,if_neg (by decide)]at e2;subst e2;exact hf hs
theorem fI{m:ByteArray}(S:St σ0 i ts a σ)(ha:a≤ts.length)(ht:bG m ts a=true->a+1≤ts.length->∀σ',St σ0 i ts (a+1) σ'->σ'.length=σ.length->K (.tup []) (σ'++l))(hf:bG m ts a=false->P (eU (fM ts a) a) (σ++l)):
 kf G 286 [.ptr i 0,.d (ab m)] (σ++l) K P s t:=by
 refine aC (zc m ts a i H.size H.len ha (σ++l) (al S.at_ l)) fun o σ' hq=>?_;cases hs:bG m ts a with
 | true=>
  rw[hs,if_pos rfl,bN S.at_]at hq;obtain⟨rfl,rfl⟩:=hq;rw[bB]
  exact ht hs (by
   apply TV;intro h;rw[iX (by omega)]at hs;cases hs) _ (S.step _) (S.slen _)
 | false=>
  rw[hs,if_neg (by decide)]at hq;obtain⟨rfl,rfl⟩:=hq;rw[bu];exact hf hs
theorem FF{s:ByteArray}{r1:List Tok}(h:bW (ts.drop a)=some (s,r1)):r1=ts.drop (a+1)/\a+1≤ts.length:=by
 by_cases hla:a<ts.length
 .rw[sC hla]at h;split at h
  .cases h;exact⟨rfl,hla⟩
  .cases h
 .rw[TX (by omega)]at h;cases h
theorem Jh{n:Int}{r1:List Tok}(h:ct (ts.drop a)=some (n,r1)):r1=ts.drop (a+1)/\a+1≤ts.length:=by
 by_cases hla:a<ts.length
 .rw[oR hla]at h;split at h
  .cases h;exact⟨rfl,hla⟩
  .cases h
 .rw[TX (by omega)]at h;cases h
theorem FU(S:St σ0 i ts a σ)(ha:a≤ts.length)(ht:∀s,bW (ts.drop a)=some (s,ts.drop (a+1))->a+1≤ts.length->∀σ',St σ0 i ts (a+1) σ'->σ'.length=σ.length->K (.d (ab s)) (σ'++l))(hf:bW (ts.drop a)=none->P (eU (fM ts a) a) (σ++l)):
 kf G 330 [.ptr i 0] (σ++l) K P s t:=by
 refine aC (D2 ts a i H.size H.len ha (σ++l) (al S.at_ l)) fun o σ' hq=>?_;cases hs:bW (ts.drop a)with
 | some p=>
  obtain⟨s,r1⟩:=p;obtain⟨rfl,h1⟩:=FF H hs;rw[hs]at hq;simp only[bN S.at_]at hq;obtain⟨rfl,rfl⟩:=hq;rw[bB];exact ht s hs h1 _ (S.step _) (S.slen _)
 | none=>
  rw[hs]at hq;obtain⟨rfl,rfl⟩:=hq;rw[bu];exact hf hs
theorem B3(S:St σ0 i ts a σ)(ha:a≤ts.length)(ht:∀n,ct (ts.drop a)=some (n,ts.drop (a+1))->¬65535<n->a+1≤ts.length->∀σ',St σ0 i ts (a+1) σ'->σ'.length=σ.length->K (.d (ac n)) (σ'++l))(hb:∀n,ct (ts.drop a)=some (n,ts.drop (a+1))->65535<n->P (eU 3 a) (σ++l))(hf:ct (ts.drop a)=none->P (eU (fM ts a) a) (σ++l)):
 kf G 329 [.ptr i 0] (σ++l) K P s t:=by
 refine aC (yE ts a i H.size H.len ha (σ++l) (al S.at_ l)) fun o σ' hq=>?_;cases hs:ct (ts.drop a)with
 | some p=>
  obtain⟨n,r1⟩:=p;obtain⟨rfl,h1⟩:=Jh H hs;rw[hs]at hq;simp only[bN S.at_]at hq;by_cases hbig:65535<n
  .rw[if_pos hbig]at hq;obtain⟨rfl,rfl⟩:=hq;rw[bu];exact hb n hs hbig
  .rw[if_neg hbig]at hq;obtain⟨rfl,rfl⟩:=hq;rw[bB];exact ht n hs hbig h1 _ (S.step _) (S.slen _)
 | none=>
  rw[hs]at hq;obtain⟨rfl,rfl⟩:=hq;rw[bu];exact hf hs
theorem IR{k:PK}(S:St σ0 i ts a σ)(ha:a≤ts.length){o:Out}{σ':LLV}(hq:PQ ts i (σ++l) (par k (ts.drop a)) o σ'):
 (∃e a2,par k (ts.drop a)=.ok e (ts.drop a2)/\a≤a2/\a2≤ts.length/\(k.eats=true->a<a2)/\o=.ret (vex e)/\∃σ1,σ'=σ1++l/\St σ0 i ts a2 σ1/\σ1.length=σ.length)\/
 (∃c r b,par k (ts.drop a)=.bad c r/\o=.panic (eU c (ts.length-r.length))/\∃σ1,σ'=σ1++l/\St σ0 i ts b σ1/\σ1.length=σ.length):=by
 cases hx:par k (ts.drop a)with
 | out=>exact absurd hx (gC _ _)
 | bad c r=>
  rw[hx]at hq;obtain⟨rfl,b,rfl⟩:=hq;exact .inr ⟨c,r,b,rfl,rfl,_,bN S.at_ l _,S.step b,S.slen _⟩
 | ok e r=>
  rw[hx]at hq;obtain⟨rfl,rfl⟩:=hq;obtain⟨h1,h2,h3,h4⟩:=EU ha hx;exact .inl ⟨e,ts.length-r.length,by rw[<-h1],h2,h3,h4,rfl,_,bN S.at_ l _,S.step _,S.slen _⟩
theorem jR{f:FuncId}{args:List V}{k:PK}(S:St σ0 i ts a σ)(ha:a≤ts.length)(h:Fun G f args (σ++l) (PQ ts i (σ++l) (par k (ts.drop a))))
 (ht:∀e a2,par k (ts.drop a)=.ok e (ts.drop a2)->a≤a2->a2≤ts.length->(k.eats=true->a<a2)->∀σ',St σ0 i ts a2 σ'->σ'.length=σ.length->K (vex e) (σ'++l))(hf:∀c r b,par k (ts.drop a)=.bad c r->∀σ',St σ0 i ts b σ'->σ'.length=σ.length->P (eU c (ts.length-r.length)) (σ'++l)):kf G f args (σ++l) K P s t:=by
 refine aC h fun o σ' hq=>?_;rcases IR H S ha hq with⟨e,a2,h1,h2,h3,h4,rfl,σ1,rfl,h5,h6⟩|⟨c,r,b,h1,rfl,σ1,rfl,h5,h6⟩
 .rw[bB];exact ht e a2 h1 h2 h3 h4 σ1 h5 h6
 .rw[bu];exact hf c r b h1 σ1 h5 h6
theorem FE{f:FuncId}{args:List V}{k:PK}{R:LLV->Prop}{pn:Unit->Prop}{tR:Tag R}{tp:Tag pn}(S:St σ0 i ts a σ)(ha:a≤ts.length)(h:Fun G f args (σ++l) (PQ ts i (σ++l) (par k (ts.drop a))))
 (ht:∀e a2,par k (ts.drop a)=.ok e (ts.drop a2)->a≤a2->a2≤ts.length->(k.eats=true->a<a2)->∀σ',St σ0 i ts a2 σ'->σ'.length=σ.length->R (σ'++l)/\K (vex e) (σ'++l))(hf:∀c r b,par k (ts.drop a)=.bad c r->∀σ',St σ0 i ts b σ'->σ'.length=σ.length->P (eU c (ts.length-r.length)) (σ'++l))(hp:(∃c r,par k (ts.drop a)=.bad c r)->pn ()):zt G f args (σ++l) R K P pn tR s t tp:=by
 cases hx:par k (ts.drop a)with
 | out=>exact absurd hx (gC _ _)
 | bad c r=>
  rw[hx]at h;refine G7 (h.mono fun o σ' hq=>?_) (hp ⟨c,r,hx⟩);obtain⟨rfl,b,rfl⟩:=hq;rw[bN S.at_];exact⟨_,rfl,hf c r b hx _ (S.step b) (S.slen _)⟩
 | ok e r=>
  obtain⟨h1,h2,h3,h4⟩:=EU ha hx;obtain⟨k1,k2⟩:=ht e _ (by rw[<-h1];exact hx) h2 h3 h4 _ (S.step (ts.length-r.length)) (S.slen _);rw[hx]at h;refine fm (σ1:=σ.set i (pb ts (ts.length-r.length))++l) (v:=vex e) (h.mono fun o σ' hq=>?_) k1 k2;obtain⟨rfl,rfl⟩:=hq;exact⟨rfl,bN S.at_ l _⟩
omit H
theorem dM{rs:List RV}{ρ:ah}{x:PR}{e:Ex}(S:St σ0 i ts a σ)(ha:a≤ts.length)(hx:x=.ok e (ts.drop a))(h:be (σ++l) ρ rs=some (vex e)):fin σ.length rs (PQ ts i σ0 x) .ret ρ (σ++l):=by
 subst hx;exact bQ (τ:=σ) S.bb h (by rw[an];rfl) TY ⟨rfl,by rw[jJ ts a ha];exact S.eq⟩
theorem dD{rs:List RV}{ρ:ah}{x:PR}{c:Int}{r:List Tok}{n:Nat}(S:St σ0 i ts a σ)(hx:x=.bad c r)(hn:n=ts.length-r.length):fin σ.length rs (PQ ts i σ0 x) (.panic (eU c n)) ρ (σ++l):=by
 subst hx;subst hn;exact fC (τ:=σ) S.bb TY rfl ⟨rfl,a,S.eq⟩
theorem eu{rs:List RV}{ρ:ah}{x:PR}(S:St σ0 i ts a σ)(ha:a≤ts.length)(hx:x=eL (ts.drop a)):fin σ.length rs (PQ ts i σ0 x) (.panic (eU (fM ts a) a)) ρ (σ++l):=
 dD (r:=ts.drop a) S (by rw[hx,Do ts a ha]) (jJ ts a ha).symm
end
end Go.Proofs.YtnhphlmblenapaaGreatDoor
namespace Go.Proofs.YtnhphlmblenapaaGreatDoor
open Go.RowKit
open Nat renaming reduceLeDiff -> jA, reduceBEq -> jB, reduceLT -> jC, reduceEqDiff -> jD, reduceAdd -> jE, reduceSub -> jF, reduceMul -> jG
open V renaming copy -> jV, lend -> jW, lend1 -> jX, cells -> jY, boxable -> jZ
theorem IU(ts:List Tok)(a:Nat):∃(kd nm:Int) (tx:ByteArray) (ln:Int) (ok:Bool),gx ts a=.tup [.agg [.d (ac kd),.d (ac nm),.d (ab tx),.d (ac ln)],ak ok]/\((ok=true/\kd=3/\∃n,ct (ts.drop a)=some (n,ts.drop (a+1)))\/(ct (ts.drop a)=none/\(ok=false\/ok=true/\kd≠3))):=by
 unfold gx;by_cases hla:a<ts.length
 .rw[List.getElem?_eq_getElem hla,oR hla];simp only;by_cases hv:bq ts[a]=true
  .rw[if_pos hv];refine⟨_,_,_,_,_,rfl,?_⟩;by_cases hk:ts[a].kind=3
   .exact .inl ⟨rfl,hk,_,if_pos ⟨hv,hk⟩⟩
   .exact .inr ⟨if_neg (fun h=>hk h.2),.inr ⟨rfl,hk⟩⟩
  .rw[if_neg hv];exact⟨_,_,_,_,_,rfl,.inr ⟨if_neg (fun h=>hv h.1),.inl rfl⟩⟩
 .rw[List.getElem?_eq_none (by omega),TX (by omega)];exact⟨_,_,_,_,_,rfl,.inr ⟨rfl,.inl rfl⟩⟩
theorem kN{ts:List Tok}{a:Nat}(H:TsOK ts){s:ByteArray}{r:List Tok}(h:bW (ts.drop a)=some (s,r)):s.size≤1000:=by
 by_cases hla:a<ts.length
 .rw[sC hla]at h;split at h
  .cases h;exact H.size _ (List.getElem_mem hla)
  .cases h
 .rw[TX (by omega)]at h;cases h
theorem tA{ts:List Tok}{a:Nat}(H:TsOK ts){n:Int}{r:List Tok}(h:ct (ts.drop a)=some (n,r))(hn:¬65535<n):0≤n/\(Lib.decDigits n.toNat).length≤5:=by
 by_cases hla:a<ts.length
 .rw[oR hla]at h;split at h
  .rename_i hv;cases h;have:=hv.1;unfold bq at this;rw[if_pos hv.2]at this;simp only[Bool.and_eq_true,decide_eq_true_eq]at this;exact⟨this.1.1,jl _ (by omega)⟩
  .cases h
 .rw[TX (by omega)]at h;cases h
theorem wu(x:Bs)(n:Int):iP (bs x) n=bs (x++91::(Lib.decDigits n.toNat++[93])):=by
 unfold iP;rw[show aa 91=bs [91]from rfl,show aa 93=bs [93]from rfl,show rH n=bs (Lib.decDigits n.toNat)from rfl,nl,nl,nl];simp
theorem xN(ts:List Tok)(a i:Nat)(H:TsOK ts)(ha:a≤ts.length)
 (hW:∀b,a<b->b≤ts.length->∀σ:LLV,σ[i]? = some (pb ts b)->Fun G 255 [.ptr i 0] σ (PQ ts i σ (par .W (ts.drop b))))
 (σ:LLV)(hi:σ[i]? = some (pb ts a)):Fun G 326 [.ptr i 0] σ (PQ ts i σ (par .P (ts.drop a))):=by
 refine ai Tryz.func326 RI rfl fun hb hw=>?_;have S:=St.init hi hb;have hpar:par .P (ts.drop a)=dO par (ts.drop a):=cP .P (ts.drop a);unfold dO at hpar;rw[bR]at hpar;unfold PC;simp -dsimp only[aw,jV,jW,jX,jY,jZ,jA,reduceIte,reduceCtorEq,jB,jC,jD,jE,jF,jG];refine dY H (m:=aa 40) S ha (fun hs ha1 σ1 S1 hl1=>?_) (fun hs=>?_)
 .rw[hs,if_pos rfl]at hpar;simp only at hpar;rw[<-hl1];simp -dsimp only[aw,jV,jW,jX,jY,jZ,jA,reduceIte,reduceCtorEq,jB,jC,jD,jE,jF,jG];refine jR H S1 ha1 (hW _ (by omega) ha1 _ (al S1.at_ _)) (fun e a2 hx h1 h2 h3 σ2 S2 hl2=>?_) (fun c r b hx σ2 S2 hl2=>?_)
  .rw[hx,PR.bind,bR]at hpar;rw[<-hl2];simp -dsimp only[aw,jV,jW,jX,jY,jZ,jA,reduceIte,reduceCtorEq,jB,jC,jD,jE,jF,jG,an];refine fI H (m:=aa 41) S2 h2 (fun hs3 ha3 σ3 S3 hl3=>?_) (fun hs3=>?_)
   .rw[hs3,if_pos rfl]at hpar;rw[<-hl3];simp -dsimp only[aw,jV,jW,jX,jY,jZ,jA,reduceIte,reduceCtorEq,jB,jC,jD,jE,jF,jG];exact dM S3 ha3 hpar (by rw[an];simp[jS,be,bL,aw,jV,jW,jX,jY,jZ,jA,reduceIte,reduceCtorEq,jB,jC,jD,jE,jF,jG])
   .rw[hs3,if_neg (by decide)]at hpar;simp -dsimp only[aw,jV,jW,jX,jY,jZ,jA,reduceIte,reduceCtorEq,jB,jC,jD,jE,jF,jG];exact eu S2 h2 hpar
  .rw[hx,PR.bind]at hpar;rw[<-hl2];simp -dsimp only[aw,jV,jW,jX,jY,jZ,jA,reduceIte,reduceCtorEq,jB,jC,jD,jE,jF,jG];exact dD S2 hpar rfl
 rw[hs,if_neg (by decide)]at hpar;simp only at hpar;simp -dsimp only[aw,jV,jW,jX,jY,jZ,jA,reduceIte,reduceCtorEq,jB,jC,jD,jE,jF,jG];refine ae (o2 ts a i H.size ha _ (al hi _)) ?_;obtain⟨kd,nm,tx,ln,ok,hnv,hcase⟩:=IU ts a;rw[hnv];rcases hcase with⟨rfl,rfl,n,hnum⟩|⟨hnum,hok⟩
 .rw[hnum]at hpar;simp only at hpar;simp -dsimp only[aw,jV,jW,jX,jY,jZ,jA,reduceIte,reduceCtorEq,jB,jC,jD,jE,jF,jG,Int.reduceEq,decide_true];refine B3 H S ha (fun n' hn hle ha1 σ1 S1 hl1=>?_) (fun n' hn hbig=>?_) (fun hn=>by rw[hnum]at hn;cases hn)
  .rw[hnum]at hn;cases hn;rw[if_neg hle]at hpar;rw[<-hl1];simp -dsimp only[aw,jV,jW,jX,jY,jZ,jA,reduceIte,reduceCtorEq,jB,jC,jD,jE,jF,jG];exact dM S1 ha1 hpar (by rw[an];simp[jS,be,bL,bX,bp,aK,aL,aw,jV,jW,jX,jY,jZ,jA,reduceIte,reduceCtorEq,jB,jC,jD,jE,jF,jG])
  .rw[hnum]at hn;cases hn;rw[if_pos hbig]at hpar;simp -dsimp only[aw,jV,jW,jX,jY,jZ,jA,reduceIte,reduceCtorEq,jB,jC,jD,jE,jF,jG];exact dD S hpar (jJ ts a ha).symm
 rw[hnum]at hpar;simp only at hpar;rcases hok with rfl|⟨rfl,hk⟩
 case' inl=>simp -dsimp only[aw,jV,jW,jX,jY,jZ,jA,reduceIte,reduceCtorEq,jB,jC,jD,jE,jF,jG]
 case' inr=>simp -dsimp only[aw,jV,jW,jX,jY,jZ,jA,reduceIte,reduceCtorEq,jB,jC,jD,jE,jF,jG,decide_eq_false hk]
 all_goals
  refine FU H S ha (fun s hs1 ha1 σ1 S1 hl1=>?_) (fun hs1=>?_)
  case refine_2=>
   rw[hs1]at hpar;simp -dsimp only[aw,jV,jW,jX,jY,jZ,jA,reduceIte,reduceCtorEq,jB,jC,jD,jE,jF,jG];exact eu S ha hpar
  rw[hs1]at hpar;simp only at hpar;rw[<-hl1];by_cases hsum:s=mD
  .have hd:decide (s=(⟨#[115,117,109]⟩:ByteArray))=true:=decide_eq_true hsum;have hones:¬s=gV:=by rw[hsum];decide
   have hd2:decide (s=(⟨#[111,110,101,115]⟩:ByteArray))=false:=decide_eq_false hones;rw[if_pos hsum,bR]at hpar;simp -dsimp only[aw,jV,jW,jX,jY,jZ,jA,reduceIte,reduceCtorEq,jB,jC,jD,jE,jF,jG,hd];refine dY H (m:=aa 40) S1 ha1 (fun h40 ha2 σ2 S2 hl2=>?_) (fun h40=>?_)
   .rw[h40,if_pos rfl]at hpar;simp only at hpar;rw[<-hl2];simp -dsimp only[aw,jV,jW,jX,jY,jZ,jA,reduceIte,reduceCtorEq,jB,jC,jD,jE,jF,jG];refine FU H S2 ha2 (fun s2 hs2 ha3 σ3 S3 hl3=>?_) (fun hs2=>?_)
    .rw[hs2]at hpar;simp only[bR]at hpar;rw[<-hl3];simp -dsimp only[aw,jV,jW,jX,jY,jZ,jA,reduceIte,reduceCtorEq,jB,jC,jD,jE,jF,jG];refine fI H (m:=aa 41) S3 ha3 (fun hs3 ha4 σ4 S4 hl4=>?_) (fun hs3=>?_)
     .rw[hs3,if_pos rfl]at hpar;rw[<-hl4];simp -dsimp only[aw,jV,jW,jX,jY,jZ,jA,reduceIte,reduceCtorEq,jB,jC,jD,jE,jF,jG];exact dM S4 ha4 hpar (by rw[an];simp[jS,be,bL,bX,bp,aK,aL,aw,jV,jW,jX,jY,jZ,jA,reduceIte,reduceCtorEq,jB,jC,jD,jE,jF,jG])
     .rw[hs3,if_neg (by decide)]at hpar;simp -dsimp only[aw,jV,jW,jX,jY,jZ,jA,reduceIte,reduceCtorEq,jB,jC,jD,jE,jF,jG];exact eu S3 ha3 hpar
    .rw[hs2]at hpar;simp -dsimp only[aw,jV,jW,jX,jY,jZ,jA,reduceIte,reduceCtorEq,jB,jC,jD,jE,jF,jG];exact eu S2 ha2 hpar
   rw[h40,if_neg (by decide),if_neg hones]at hpar;simp only[bR]at hpar;simp -dsimp only[aw,jV,jW,jX,jY,jZ,jA,reduceIte,reduceCtorEq,jB,jC,jD,jE,jF,jG,hd2];refine dY H (m:=aa 91) S1 ha1 (fun h91 ha2 σ2 S2 hl2=>?_) (fun h91=>?_)
   .rw[h91,if_pos rfl]at hpar;simp only at hpar;rw[<-hl2];simp -dsimp only[aw,jV,jW,jX,jY,jZ,jA,reduceIte,reduceCtorEq,jB,jC,jD,jE,jF,jG];refine jR H S2 ha2 (hW _ (by omega) ha2 _ (al S2.at_ _)) (fun e a3 hx h1 h2 h3 σ3 S3 hl3=>?_) (fun c r b hx σ3 S3 hl3=>?_)
    .rw[hx,PR.bind,bR]at hpar;rw[<-hl3];simp -dsimp only[aw,jV,jW,jX,jY,jZ,jA,reduceIte,reduceCtorEq,jB,jC,jD,jE,jF,jG,an];refine fI H (m:=aa 93) S3 h2 (fun hs3 ha4 σ4 S4 hl4=>?_) (fun hs3=>?_)
     .rw[hs3,if_pos rfl]at hpar;rw[<-hl4];simp -dsimp only[aw,jV,jW,jX,jY,jZ,jA,reduceIte,reduceCtorEq,jB,jC,jD,jE,jF,jG];exact dM S4 ha4 hpar (by rw[an];simp[jS,be,bL,aU,bX,bp,aK,aL,bC,aw,jV,jW,jX,jY,jZ,jA,reduceIte,reduceCtorEq,jB,jC,jD,jE,jF,jG])
     .rw[hs3,if_neg (by decide)]at hpar;simp -dsimp only[aw,jV,jW,jX,jY,jZ,jA,reduceIte,reduceCtorEq,jB,jC,jD,jE,jF,jG];exact eu S3 h2 hpar
    .rw[hx,PR.bind]at hpar;rw[<-hl3];simp -dsimp only[aw,jV,jW,jX,jY,jZ,jA,reduceIte,reduceCtorEq,jB,jC,jD,jE,jF,jG];exact dD S3 hpar rfl
   rw[h91,if_neg (by decide)]at hpar;simp only at hpar;simp -dsimp only[aw,jV,jW,jX,jY,jZ,jA,reduceIte,reduceCtorEq,jB,jC,jD,jE,jF,jG];refine dY H (m:=aa 64) S1 ha1 (fun h64 ha2 σ2 S2 hl2=>?_) (fun h64=>?_)
   .rw[h64,if_pos rfl]at hpar;simp only at hpar;rw[<-hl2];have hsz:=kN H hs1;obtain⟨x,rfl⟩:∃x,s=bs x:=⟨_,(ec s).symm⟩
    rw[bF]at hsz;have a1:bE .add (V.d (ab (bs x))) (V.d (ab ⟨#[91]⟩))=some (V.d (ab (bs (x++[91])))):=bK x [91] (by simp;omega);simp -dsimp only[aw,jV,jW,jX,jY,jZ,jA,reduceIte,reduceCtorEq,jB,jC,jD,jE,jF,jG,a1];refine B3 H S2 ha2 (fun n hn hle ha3 σ3 S3 hl3=>?_) (fun n hn hbig=>?_) (fun hn=>?_)
    .obtain⟨h0,h5⟩:=tA H hn hle
     have a2:bE .add (V.d (ab (bs (x++[91])))) (V.d (ab (bs (Lib.decDigits n.toNat))))=some (V.d (ab (bs (x++91::Lib.decDigits n.toNat)))):=by
      rw[show x++91::Lib.decDigits n.toNat=(x++[91])++Lib.decDigits n.toNat by simp];exact bK (x++[91]) _ (by simp;omega)
     have a3:bE .add (V.d (ab (bs (x++91::Lib.decDigits n.toNat)))) (V.d (ab ⟨#[93]⟩))=some (V.d (ab (bs (x++91::(Lib.decDigits n.toNat++[93]))))):=by
      rw[show x++91::(Lib.decDigits n.toNat++[93])=(x++91::Lib.decDigits n.toNat)++[93]by simp];exact bK (x++91::Lib.decDigits n.toNat) [93] (by simp;omega)
     rw[hn]at hpar;simp only at hpar;rw[if_neg hle,wu]at hpar;rw[<-hl3];simp -dsimp only[aw,jV,jW,jX,jY,jZ,jA,reduceIte,reduceCtorEq,jB,jC,jD,jE,jF,jG];refine ae (il n h0 (by omega) _) ?_;simp -dsimp only[aw,jV,jW,jX,jY,jZ,jA,reduceIte,reduceCtorEq,jB,jC,jD,jE,jF,jG,a2,a3];exact dM S3 ha3 hpar (by rw[an];simp[jS,be,bL,bX,bp,aK,aL,aw,jV,jW,jX,jY,jZ,jA,reduceIte,reduceCtorEq,jB,jC,jD,jE,jF,jG])
    .rw[hn]at hpar;simp only at hpar;rw[if_pos hbig]at hpar;simp -dsimp only[aw,jV,jW,jX,jY,jZ,jA,reduceIte,reduceCtorEq,jB,jC,jD,jE,jF,jG];exact dD S2 hpar (jJ ts _ ha2).symm
    .rw[hn]at hpar;simp -dsimp only[aw,jV,jW,jX,jY,jZ,jA,reduceIte,reduceCtorEq,jB,jC,jD,jE,jF,jG];exact eu S2 ha2 hpar
   rw[h64,if_neg (by decide)]at hpar;simp only at hpar;simp -dsimp only[aw,jV,jW,jX,jY,jZ,jA,reduceIte,reduceCtorEq,jB,jC,jD,jE,jF,jG];exact dM S1 ha1 hpar (by rw[an];simp[jS,be,bL,bX,bp,aK,aL,aw,jV,jW,jX,jY,jZ,jA,reduceIte,reduceCtorEq,jB,jC,jD,jE,jF,jG])
  have hd:decide (s=(⟨#[115,117,109]⟩:ByteArray))=false:=decide_eq_false hsum;rw[if_neg hsum]at hpar;simp only at hpar;by_cases hones:s=gV
  .have hd2:decide (s=(⟨#[111,110,101,115]⟩:ByteArray))=true:=decide_eq_true hones;rw[if_pos hones,bR]at hpar;simp -dsimp only[aw,jV,jW,jX,jY,jZ,jA,reduceIte,reduceCtorEq,jB,jC,jD,jE,jF,jG,hd,hd2];refine dY H (m:=aa 40) S1 ha1 (fun h40 ha2 σ2 S2 hl2=>?_) (fun h40=>?_)
   .rw[h40,if_pos rfl]at hpar;simp only at hpar;rw[<-hl2];simp -dsimp only[aw,jV,jW,jX,jY,jZ,jA,reduceIte,reduceCtorEq,jB,jC,jD,jE,jF,jG];refine jR H S2 ha2 (hW _ (by omega) ha2 _ (al S2.at_ _)) (fun e a3 hx h1 h2 h3 σ3 S3 hl3=>?_) (fun c r b hx σ3 S3 hl3=>?_)
    .rw[hx,PR.bind,bR]at hpar;rw[<-hl3];simp -dsimp only[aw,jV,jW,jX,jY,jZ,jA,reduceIte,reduceCtorEq,jB,jC,jD,jE,jF,jG,an];refine fI H (m:=aa 41) S3 h2 (fun hs3 ha4 σ4 S4 hl4=>?_) (fun hs3=>?_)
     .rw[hs3,if_pos rfl]at hpar;rw[<-hl4];have hNd:=eS 25 [e];simp -dsimp only[aw,jV,jW,jX,jY,jZ,jA,reduceIte,reduceCtorEq,jB,jC,jD,jE,jF,jG];refine ae (by simpa only[T0,T4,bC]using hNd _) ?_;simp -dsimp only[aw,jV,jW,jX,jY,jZ,jA,reduceIte,reduceCtorEq,jB,jC,jD,jE,jF,jG,an,aU,bX,bp,aK,aL];exact dM S4 ha4 hpar (by rw[an];simp[jS,be,bL,aU,bX,bp,aK,aL,bC,aw,jV,jW,jX,jY,jZ,jA,reduceIte,reduceCtorEq,jB,jC,jD,jE,jF,jG])
     .rw[hs3,if_neg (by decide)]at hpar;simp -dsimp only[aw,jV,jW,jX,jY,jZ,jA,reduceIte,reduceCtorEq,jB,jC,jD,jE,jF,jG];exact eu S3 h2 hpar
    .rw[hx,PR.bind]at hpar;rw[<-hl3];simp -dsimp only[aw,jV,jW,jX,jY,jZ,jA,reduceIte,reduceCtorEq,jB,jC,jD,jE,jF,jG];exact dD S3 hpar rfl
   rw[h40,if_neg (by decide)]at hpar;simp only[bR]at hpar;simp -dsimp only[aw,jV,jW,jX,jY,jZ,jA,reduceIte,reduceCtorEq,jB,jC,jD,jE,jF,jG];refine dY H (m:=aa 91) S1 ha1 (fun h91 ha2 σ2 S2 hl2=>?_) (fun h91=>?_)
   .rw[h91,if_pos rfl]at hpar;simp only at hpar;rw[<-hl2];simp -dsimp only[aw,jV,jW,jX,jY,jZ,jA,reduceIte,reduceCtorEq,jB,jC,jD,jE,jF,jG];refine jR H S2 ha2 (hW _ (by omega) ha2 _ (al S2.at_ _)) (fun e a3 hx h1 h2 h3 σ3 S3 hl3=>?_) (fun c r b hx σ3 S3 hl3=>?_)
    .rw[hx,PR.bind,bR]at hpar;rw[<-hl3];simp -dsimp only[aw,jV,jW,jX,jY,jZ,jA,reduceIte,reduceCtorEq,jB,jC,jD,jE,jF,jG,an];refine fI H (m:=aa 93) S3 h2 (fun hs3 ha4 σ4 S4 hl4=>?_) (fun hs3=>?_)
     .rw[hs3,if_pos rfl]at hpar;rw[<-hl4];simp -dsimp only[aw,jV,jW,jX,jY,jZ,jA,reduceIte,reduceCtorEq,jB,jC,jD,jE,jF,jG];exact dM S4 ha4 hpar (by rw[an];simp[jS,be,bL,aU,bX,bp,aK,aL,bC,aw,jV,jW,jX,jY,jZ,jA,reduceIte,reduceCtorEq,jB,jC,jD,jE,jF,jG])
     .rw[hs3,if_neg (by decide)]at hpar;simp -dsimp only[aw,jV,jW,jX,jY,jZ,jA,reduceIte,reduceCtorEq,jB,jC,jD,jE,jF,jG];exact eu S3 h2 hpar
    .rw[hx,PR.bind]at hpar;rw[<-hl3];simp -dsimp only[aw,jV,jW,jX,jY,jZ,jA,reduceIte,reduceCtorEq,jB,jC,jD,jE,jF,jG];exact dD S3 hpar rfl
   rw[h91,if_neg (by decide)]at hpar;simp only at hpar;simp -dsimp only[aw,jV,jW,jX,jY,jZ,jA,reduceIte,reduceCtorEq,jB,jC,jD,jE,jF,jG];refine dY H (m:=aa 64) S1 ha1 (fun h64 ha2 σ2 S2 hl2=>?_) (fun h64=>?_)
   .rw[h64,if_pos rfl]at hpar;simp only at hpar;rw[<-hl2];have hsz:=kN H hs1;obtain⟨x,rfl⟩:∃x,s=bs x:=⟨_,(ec s).symm⟩
    rw[bF]at hsz;have a1:bE .add (V.d (ab (bs x))) (V.d (ab ⟨#[91]⟩))=some (V.d (ab (bs (x++[91])))):=bK x [91] (by simp;omega);simp -dsimp only[aw,jV,jW,jX,jY,jZ,jA,reduceIte,reduceCtorEq,jB,jC,jD,jE,jF,jG,a1];refine B3 H S2 ha2 (fun n hn hle ha3 σ3 S3 hl3=>?_) (fun n hn hbig=>?_) (fun hn=>?_)
    .obtain⟨h0,h5⟩:=tA H hn hle
     have a2:bE .add (V.d (ab (bs (x++[91])))) (V.d (ab (bs (Lib.decDigits n.toNat))))=some (V.d (ab (bs (x++91::Lib.decDigits n.toNat)))):=by
      rw[show x++91::Lib.decDigits n.toNat=(x++[91])++Lib.decDigits n.toNat by simp];exact bK (x++[91]) _ (by simp;omega)
     have a3:bE .add (V.d (ab (bs (x++91::Lib.decDigits n.toNat)))) (V.d (ab ⟨#[93]⟩))=some (V.d (ab (bs (x++91::(Lib.decDigits n.toNat++[93]))))):=by
      rw[show x++91::(Lib.decDigits n.toNat++[93])=(x++91::Lib.decDigits n.toNat)++[93]by simp];exact bK (x++91::Lib.decDigits n.toNat) [93] (by simp;omega)
     rw[hn]at hpar;simp only at hpar;rw[if_neg hle,wu]at hpar;rw[<-hl3];simp -dsimp only[aw,jV,jW,jX,jY,jZ,jA,reduceIte,reduceCtorEq,jB,jC,jD,jE,jF,jG];refine ae (il n h0 (by omega) _) ?_;simp -dsimp only[aw,jV,jW,jX,jY,jZ,jA,reduceIte,reduceCtorEq,jB,jC,jD,jE,jF,jG,a2,a3];exact dM S3 ha3 hpar (by rw[an];simp[jS,be,bL,bX,bp,aK,aL,aw,jV,jW,jX,jY,jZ,jA,reduceIte,reduceCtorEq,jB,jC,jD,jE,jF,jG])
    .rw[hn]at hpar;simp only at hpar;rw[if_pos hbig]at hpar;simp -dsimp only[aw,jV,jW,jX,jY,jZ,jA,reduceIte,reduceCtorEq,jB,jC,jD,jE,jF,jG];exact dD S2 hpar (jJ ts _ ha2).symm
    .rw[hn]at hpar;simp -dsimp only[aw,jV,jW,jX,jY,jZ,jA,reduceIte,reduceCtorEq,jB,jC,jD,jE,jF,jG];exact eu S2 ha2 hpar
   rw[h64,if_neg (by decide)]at hpar;simp only at hpar;simp -dsimp only[aw,jV,jW,jX,jY,jZ,jA,reduceIte,reduceCtorEq,jB,jC,jD,jE,jF,jG];exact dM S1 ha1 hpar (by rw[an];simp[jS,be,bL,bX,bp,aK,aL,aw,jV,jW,jX,jY,jZ,jA,reduceIte,reduceCtorEq,jB,jC,jD,jE,jF,jG])
  have hd2:decide (s=(⟨#[111,110,101,115]⟩:ByteArray))=false:=decide_eq_false hones;rw[if_neg hones]at hpar;simp only[bR]at hpar;simp -dsimp only[aw,jV,jW,jX,jY,jZ,jA,reduceIte,reduceCtorEq,jB,jC,jD,jE,jF,jG,hd,hd2];refine dY H (m:=aa 91) S1 ha1 (fun h91 ha2 σ2 S2 hl2=>?_) (fun h91=>?_)
  .rw[h91,if_pos rfl]at hpar;simp only at hpar;rw[<-hl2];simp -dsimp only[aw,jV,jW,jX,jY,jZ,jA,reduceIte,reduceCtorEq,jB,jC,jD,jE,jF,jG];refine jR H S2 ha2 (hW _ (by omega) ha2 _ (al S2.at_ _)) (fun e a3 hx h1 h2 h3 σ3 S3 hl3=>?_) (fun c r b hx σ3 S3 hl3=>?_)
   .rw[hx,PR.bind,bR]at hpar;rw[<-hl3];simp -dsimp only[aw,jV,jW,jX,jY,jZ,jA,reduceIte,reduceCtorEq,jB,jC,jD,jE,jF,jG,an];refine fI H (m:=aa 93) S3 h2 (fun hs3 ha4 σ4 S4 hl4=>?_) (fun hs3=>?_)
    .rw[hs3,if_pos rfl]at hpar;rw[<-hl4];simp -dsimp only[aw,jV,jW,jX,jY,jZ,jA,reduceIte,reduceCtorEq,jB,jC,jD,jE,jF,jG];exact dM S4 ha4 hpar (by rw[an];simp[jS,be,bL,aU,bX,bp,aK,aL,bC,aw,jV,jW,jX,jY,jZ,jA,reduceIte,reduceCtorEq,jB,jC,jD,jE,jF,jG])
    .rw[hs3,if_neg (by decide)]at hpar;simp -dsimp only[aw,jV,jW,jX,jY,jZ,jA,reduceIte,reduceCtorEq,jB,jC,jD,jE,jF,jG];exact eu S3 h2 hpar
   .rw[hx,PR.bind]at hpar;rw[<-hl3];simp -dsimp only[aw,jV,jW,jX,jY,jZ,jA,reduceIte,reduceCtorEq,jB,jC,jD,jE,jF,jG];exact dD S3 hpar rfl
  rw[h91,if_neg (by decide)]at hpar;simp only at hpar;simp -dsimp only[aw,jV,jW,jX,jY,jZ,jA,reduceIte,reduceCtorEq,jB,jC,jD,jE,jF,jG];refine dY H (m:=aa 64) S1 ha1 (fun h64 ha2 σ2 S2 hl2=>?_) (fun h64=>?_)
  .rw[h64,if_pos rfl]at hpar;simp only at hpar;rw[<-hl2];have hsz:=kN H hs1;obtain⟨x,rfl⟩:∃x,s=bs x:=⟨_,(ec s).symm⟩
   rw[bF]at hsz;have a1:bE .add (V.d (ab (bs x))) (V.d (ab ⟨#[91]⟩))=some (V.d (ab (bs (x++[91])))):=bK x [91] (by simp;omega);simp -dsimp only[aw,jV,jW,jX,jY,jZ,jA,reduceIte,reduceCtorEq,jB,jC,jD,jE,jF,jG,a1];refine B3 H S2 ha2 (fun n hn hle ha3 σ3 S3 hl3=>?_) (fun n hn hbig=>?_) (fun hn=>?_)
   .obtain⟨h0,h5⟩:=tA H hn hle
    have a2:bE .add (V.d (ab (bs (x++[91])))) (V.d (ab (bs (Lib.decDigits n.toNat))))=some (V.d (ab (bs (x++91::Lib.decDigits n.toNat)))):=by
     rw[show x++91::Lib.decDigits n.toNat=(x++[91])++Lib.decDigits n.toNat by simp];exact bK (x++[91]) _ (by simp;omega)
    have a3:bE .add (V.d (ab (bs (x++91::Lib.decDigits n.toNat)))) (V.d (ab ⟨#[93]⟩))=some (V.d (ab (bs (x++91::(Lib.decDigits n.toNat++[93]))))):=by
     rw[show x++91::(Lib.decDigits n.toNat++[93])=(x++91::Lib.decDigits n.toNat)++[93]by simp];exact bK (x++91::Lib.decDigits n.toNat) [93] (by simp;omega)
    rw[hn]at hpar;simp only at hpar;rw[if_neg hle,wu]at hpar;rw[<-hl3];simp -dsimp only[aw,jV,jW,jX,jY,jZ,jA,reduceIte,reduceCtorEq,jB,jC,jD,jE,jF,jG];refine ae (il n h0 (by omega) _) ?_;simp -dsimp only[aw,jV,jW,jX,jY,jZ,jA,reduceIte,reduceCtorEq,jB,jC,jD,jE,jF,jG,a2,a3];exact dM S3 ha3 hpar (by rw[an];simp[jS,be,bL,bX,bp,aK,aL,aw,jV,jW,jX,jY,jZ,jA,reduceIte,reduceCtorEq,jB,jC,jD,jE,jF,jG])
   .rw[hn]at hpar;simp only at hpar;rw[if_pos hbig]at hpar;simp -dsimp only[aw,jV,jW,jX,jY,jZ,jA,reduceIte,reduceCtorEq,jB,jC,jD,jE,jF,jG];exact dD S2 hpar (jJ ts _ ha2).symm
   .rw[hn]at hpar;simp -dsimp only[aw,jV,jW,jX,jY,jZ,jA,reduceIte,reduceCtorEq,jB,jC,jD,jE,jF,jG];exact eu S2 ha2 hpar
  rw[h64,if_neg (by decide)]at hpar;simp only at hpar;simp -dsimp only[aw,jV,jW,jX,jY,jZ,jA,reduceIte,reduceCtorEq,jB,jC,jD,jE,jF,jG];exact dM S1 ha1 hpar (by rw[an];simp[jS,be,bL,bX,bp,aK,aL,aw,jV,jW,jX,jY,jZ,jA,reduceIte,reduceCtorEq,jB,jC,jD,jE,jF,jG])
end Go.Proofs.YtnhphlmblenapaaGreatDoor
