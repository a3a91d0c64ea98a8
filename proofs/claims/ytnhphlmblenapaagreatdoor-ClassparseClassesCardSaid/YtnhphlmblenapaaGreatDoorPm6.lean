import Derived.Test.YtnhphlmblenapaaGreatDoorPm4
set_option linter.unusedVariables false
set_option linter.unusedSimpArgs false
set_option linter.unusedSectionVars false
set_option maxHeartbeats 4000000
open Bool renaming false_eq_true->TJ
open Classical renaming byContradiction->TK
open List renaming length_set->TL,drop_eq_nil_of_le->TM,take_left->TN,getElem?_set_self->TO,map_cons->TP,set_set->TQ,map_nil->TR
namespace Go.Proofs.YtnhphlmblenapaaGreatDoor
open Go.RowKit
open Nat renaming reduceLeDiff -> jA, reduceBEq -> jB, reduceLT -> jC, reduceEqDiff -> jD, reduceAdd -> jE, reduceSub -> jF, reduceMul -> jG
open V renaming copy -> jV, lend -> jW, lend1 -> jX, cells -> jY, boxable -> jZ
def xH(j:Nat):ByteArray:=if j=0 then aa 33 else if j=1 then aa 126 else aa 45
theorem De(ts:List Tok)(a i:Nat)(hz:∀t,t∈ts->t.text.size≤1000)(hn:ts.length≤1200000)(ha:a≤ts.length)
 (hP:∀σ:LLV,σ[i]? = some (pb ts a)->Fun G 326 [.ptr i 0] σ (PQ ts i σ (par .P (ts.drop a))))
 (hU:∀b,a<b->b≤ts.length->∀σ:LLV,σ[i]? = some (pb ts b)->Fun G 320 [.ptr i 0] σ (PQ ts i σ (par .U (ts.drop b))))
 (σ:LLV)(hi:σ[i]? = some (pb ts a)):Fun G 320 [.ptr i 0] σ (PQ ts i σ (par .U (ts.drop a))):=by
 have hlt:=(List.getElem?_eq_some_iff.1 hi).1;refine ae Tryz.func320 QI rfl fun hb hw=>?_;unfold Nf;have hP':=fun l=>hP (σ++l) (ah hi l);have hA:=fun m l=>jy m ts a i hz hn ha (σ++l) (ah hi l);have hpar:=lm .U (ts.drop a);simp only[bj,aT]at hpar;simp -dsimp only[aw,jW,jV,jX,jY,jZ,reduceIte,jA,reduceCtorEq,jB,jC,jD,jE,jF,jG];refine aL [0,2,5,6,7] (R:=fun(j:Nat) ρ σ'=>ρ=[(0,.ptr i 0),(2,.ptr σ.length 0),(5,.d (.sl [[ab 4],[ab 5],[ab 6]])),(6,.d (ab 3)),(7,aF .i64 j)]/\σ'=σ++[[.d (ab 0),.d (ab 0),.d (ai ⟨#[]⟩),.nil]]/\∀q,q<j->ax (xH q) ts a=false) 3 ⟨rfl,rfl,fun q h=>by omega⟩ ?_ _;rintro j ρ' σ' hj ⟨rfl,rfl,hno⟩;have hj4:j=0\/j=1\/j=2\/j=3:=by omega
 rcases hj4 with rfl|rfl|rfl|rfl
 .
  have e0:iaV 1 (V.d (.sl [[ab 4],[ab 5],[ab 6]])) (aF .i64 ((0:Nat):Int))=some (.row [ab 4] 0):=rfl;have hc:decide (((0:Nat):Int)<3)=true:=rfl;simp -dsimp only[aw,jW,jV,jX,jY,jZ,reduceIte,jA,reduceCtorEq,jB,jC,jD,jE,jF,jG,e0,hc];refine ac (mG 4 _) ?_;simp -dsimp only[aw,jW,jV,jX,jY,jZ,reduceIte,jA,reduceCtorEq,jB,jC,jD,jE,jF,jG];refine dm (hA _ _) ?_;have hm:bs (wJ 4)=xH 0:=rfl;rw[hm];cases hs:ax (xH 0) ts a with
  | true=>
   have hs':ax (aa 33) ts a=true:=hs
   have ha2:a+1≤ts.length:=by
    apply TK;intro h;rw[fH (by omega)]at hs;cases hs
   obtain⟨σ2,hs2⟩:∃x,x=σ.set i (pb ts (a+1)):=⟨_,rfl⟩
   have hl2:σ2.length=σ.length:=by rw[hs2,TL]
   have hb2:am σ2.length σ2=true:=by rw[hl2,hs2];exact cM hb i ts _
   have hi2:σ2[i]? = some (pb ts (a+1)):=by rw[hs2,TO (by omega)]
   have hall:∀X:List V,σ2.set i X=σ.set i X:=fun X=>by rw[hs2,TQ]
   rw[if_pos rfl,be hi,<-hs2];rw[<-hl2];simp -dsimp only[aw,jW,jV,jX,jY,jZ,reduceIte,jA,reduceCtorEq,jB,jC,jD,jE,jF,jG];refine aB (hU (a+1) (by omega) ha2 _ (ah hi2 _)) fun o σ' hq=>?_;simp only[hs',if_true,if_false,TJ]at hpar;rw[hpar];cases hx:par .U (ts.drop (a+1))with
   | out=>exact absurd hx (fA _ _)
   | bad c r=>
    rw[hx]at hq;obtain⟨rfl,b,rfl⟩:=hq;rw[be hi2];simp -dsimp only[aw,jW,jV,jX,jY,jZ,reduceIte,jA,reduceCtorEq,jB,jC,jD,jE,jF,jG,bi];exact ey (τ:=σ2.set i (pb ts b)) (cM hb2 i ts b) (cO _ _ _) rfl ⟨rfl,b,hall _⟩
   | ok e r=>
    rw[hx]at hq;obtain⟨rfl,rfl⟩:=hq;obtain⟨σ3,hs3⟩:∃x,x=σ2.set i (pb ts (ts.length-r.length)):=⟨_,rfl⟩
    have hl3:σ3.length=σ2.length:=by rw[hs3,TL]
    have hb3:am σ3.length σ3=true:=by rw[hl3,hs3];exact cM hb2 i ts _
    have hN:=eo 4 [e];have hQ:PQ ts i σ ((PR.ok e r).bind fun a r2=>.ok (aK 4 [a]) r2) (.ret (vex (aK 4 [e]))) σ3:=⟨rfl,by rw[hs3];exact hall _⟩
    rw[be hi2,<-hs3];rw[<-hl3];simp -dsimp only[aw,jW,jV,jX,jY,jZ,reduceIte,jA,reduceCtorEq,jB,jC,jD,jE,jF,jG,aR,au];refine ac (by simpa only[TP,TR,bF]using hN _) ?_;simp -dsimp only[aw,jW,jV,jX,jY,jZ,reduceIte,jA,reduceCtorEq,jB,jC,jD,jE,jF,jG,au,aK,bt,aU,aH,aI];exact bp (τ:=σ3) hb3 (v:=vex (aK 4 [e])) (by rw[au];simp[xC,aC,aQ,aK,bt,aU,aH,aI,bF,aw,jW,jV,jX,jY,jZ,reduceIte,jA,reduceCtorEq,jB,jC,jD,jE,jF,jG]) (by rw[au];rfl) TN hQ
  | false=>
   simp -dsimp only[aw,jW,jV,jX,jY,jZ,reduceIte,jA,reduceCtorEq,jB,jC,jD,jE,jF,jG,TJ,if_false,aA (show -9223372036854775808≤((0:Nat):Int)+1 by omega) (show((0:Nat):Int)+1≤9223372036854775807 by omega)]
   exact Nxt.to (σ++[[.d (ab 0),.d (ab 0),.d (ai ⟨#[]⟩),.nil]]) [] (by simp) (by simp) (aq hb rfl) (by simp[an,V.under];try omega) ⟨rfl,rfl,fun q hq=>by
    by_cases e:q=0
    .subst e;exact hs
    .exact hno q (by omega)⟩
 .
  have e0:iaV 1 (V.d (.sl [[ab 4],[ab 5],[ab 6]])) (aF .i64 ((1:Nat):Int))=some (.row [ab 5] 0):=rfl;have hc:decide (((1:Nat):Int)<3)=true:=rfl;simp -dsimp only[aw,jW,jV,jX,jY,jZ,reduceIte,jA,reduceCtorEq,jB,jC,jD,jE,jF,jG,e0,hc];refine ac (mG 5 _) ?_;simp -dsimp only[aw,jW,jV,jX,jY,jZ,reduceIte,jA,reduceCtorEq,jB,jC,jD,jE,jF,jG];refine dm (hA _ _) ?_;have hm:bs (wJ 5)=xH 1:=rfl;rw[hm];have f0:ax (aa 33) ts a=false:=hno 0 (by omega);cases hs:ax (xH 1) ts a with
  | true=>
   have hs':ax (aa 126) ts a=true:=hs
   have ha2:a+1≤ts.length:=by
    apply TK;intro h;rw[fH (by omega)]at hs;cases hs
   obtain⟨σ2,hs2⟩:∃x,x=σ.set i (pb ts (a+1)):=⟨_,rfl⟩
   have hl2:σ2.length=σ.length:=by rw[hs2,TL]
   have hb2:am σ2.length σ2=true:=by rw[hl2,hs2];exact cM hb i ts _
   have hi2:σ2[i]? = some (pb ts (a+1)):=by rw[hs2,TO (by omega)]
   have hall:∀X:List V,σ2.set i X=σ.set i X:=fun X=>by rw[hs2,TQ]
   rw[if_pos rfl,be hi,<-hs2];rw[<-hl2];simp -dsimp only[aw,jW,jV,jX,jY,jZ,reduceIte,jA,reduceCtorEq,jB,jC,jD,jE,jF,jG];refine aB (hU (a+1) (by omega) ha2 _ (ah hi2 _)) fun o σ' hq=>?_;simp only[f0,hs',if_true,if_false,TJ]at hpar;rw[hpar];cases hx:par .U (ts.drop (a+1))with
   | out=>exact absurd hx (fA _ _)
   | bad c r=>
    rw[hx]at hq;obtain⟨rfl,b,rfl⟩:=hq;rw[be hi2];simp -dsimp only[aw,jW,jV,jX,jY,jZ,reduceIte,jA,reduceCtorEq,jB,jC,jD,jE,jF,jG,bi];exact ey (τ:=σ2.set i (pb ts b)) (cM hb2 i ts b) (cO _ _ _) rfl ⟨rfl,b,hall _⟩
   | ok e r=>
    rw[hx]at hq;obtain⟨rfl,rfl⟩:=hq;obtain⟨σ3,hs3⟩:∃x,x=σ2.set i (pb ts (ts.length-r.length)):=⟨_,rfl⟩
    have hl3:σ3.length=σ2.length:=by rw[hs3,TL]
    have hb3:am σ3.length σ3=true:=by rw[hl3,hs3];exact cM hb2 i ts _
    have hN:=eo 5 [e];have hQ:PQ ts i σ ((PR.ok e r).bind fun a r2=>.ok (aK 5 [a]) r2) (.ret (vex (aK 5 [e]))) σ3:=⟨rfl,by rw[hs3];exact hall _⟩
    rw[be hi2,<-hs3];rw[<-hl3];simp -dsimp only[aw,jW,jV,jX,jY,jZ,reduceIte,jA,reduceCtorEq,jB,jC,jD,jE,jF,jG,aR,au];refine ac (by simpa only[TP,TR,bF]using hN _) ?_;simp -dsimp only[aw,jW,jV,jX,jY,jZ,reduceIte,jA,reduceCtorEq,jB,jC,jD,jE,jF,jG,au,aK,bt,aU,aH,aI];exact bp (τ:=σ3) hb3 (v:=vex (aK 5 [e])) (by rw[au];simp[xC,aC,aQ,aK,bt,aU,aH,aI,bF,aw,jW,jV,jX,jY,jZ,reduceIte,jA,reduceCtorEq,jB,jC,jD,jE,jF,jG]) (by rw[au];rfl) TN hQ
  | false=>
   simp -dsimp only[aw,jW,jV,jX,jY,jZ,reduceIte,jA,reduceCtorEq,jB,jC,jD,jE,jF,jG,TJ,if_false,aA (show -9223372036854775808≤((1:Nat):Int)+1 by omega) (show((1:Nat):Int)+1≤9223372036854775807 by omega)]
   exact Nxt.to (σ++[[.d (ab 0),.d (ab 0),.d (ai ⟨#[]⟩),.nil]]) [] (by simp) (by simp) (aq hb rfl) (by simp[an,V.under];try omega) ⟨rfl,rfl,fun q hq=>by
    by_cases e:q=1
    .subst e;exact hs
    .exact hno q (by omega)⟩
 .
  have e0:iaV 1 (V.d (.sl [[ab 4],[ab 5],[ab 6]])) (aF .i64 ((2:Nat):Int))=some (.row [ab 6] 0):=rfl;have hc:decide (((2:Nat):Int)<3)=true:=rfl;simp -dsimp only[aw,jW,jV,jX,jY,jZ,reduceIte,jA,reduceCtorEq,jB,jC,jD,jE,jF,jG,e0,hc];refine ac (mG 6 _) ?_;simp -dsimp only[aw,jW,jV,jX,jY,jZ,reduceIte,jA,reduceCtorEq,jB,jC,jD,jE,jF,jG];refine dm (hA _ _) ?_;have hm:bs (wJ 6)=xH 2:=rfl;rw[hm];have f0:ax (aa 33) ts a=false:=hno 0 (by omega);have f1:ax (aa 126) ts a=false:=hno 1 (by omega);cases hs:ax (xH 2) ts a with
  | true=>
   have hs':ax (aa 45) ts a=true:=hs
   have ha2:a+1≤ts.length:=by
    apply TK;intro h;rw[fH (by omega)]at hs;cases hs
   obtain⟨σ2,hs2⟩:∃x,x=σ.set i (pb ts (a+1)):=⟨_,rfl⟩
   have hl2:σ2.length=σ.length:=by rw[hs2,TL]
   have hb2:am σ2.length σ2=true:=by rw[hl2,hs2];exact cM hb i ts _
   have hi2:σ2[i]? = some (pb ts (a+1)):=by rw[hs2,TO (by omega)]
   have hall:∀X:List V,σ2.set i X=σ.set i X:=fun X=>by rw[hs2,TQ]
   rw[if_pos rfl,be hi,<-hs2];rw[<-hl2];simp -dsimp only[aw,jW,jV,jX,jY,jZ,reduceIte,jA,reduceCtorEq,jB,jC,jD,jE,jF,jG];refine aB (hU (a+1) (by omega) ha2 _ (ah hi2 _)) fun o σ' hq=>?_;simp only[f0,f1,hs',if_true,if_false,TJ]at hpar;rw[hpar];cases hx:par .U (ts.drop (a+1))with
   | out=>exact absurd hx (fA _ _)
   | bad c r=>
    rw[hx]at hq;obtain⟨rfl,b,rfl⟩:=hq;rw[be hi2];simp -dsimp only[aw,jW,jV,jX,jY,jZ,reduceIte,jA,reduceCtorEq,jB,jC,jD,jE,jF,jG,bi];exact ey (τ:=σ2.set i (pb ts b)) (cM hb2 i ts b) (cO _ _ _) rfl ⟨rfl,b,hall _⟩
   | ok e r=>
    rw[hx]at hq;obtain⟨rfl,rfl⟩:=hq;obtain⟨σ3,hs3⟩:∃x,x=σ2.set i (pb ts (ts.length-r.length)):=⟨_,rfl⟩
    have hl3:σ3.length=σ2.length:=by rw[hs3,TL]
    have hb3:am σ3.length σ3=true:=by rw[hl3,hs3];exact cM hb2 i ts _
    have hN:=eo 6 [e];have hQ:PQ ts i σ ((PR.ok e r).bind fun a r2=>.ok (aK 6 [a]) r2) (.ret (vex (aK 6 [e]))) σ3:=⟨rfl,by rw[hs3];exact hall _⟩
    rw[be hi2,<-hs3];rw[<-hl3];simp -dsimp only[aw,jW,jV,jX,jY,jZ,reduceIte,jA,reduceCtorEq,jB,jC,jD,jE,jF,jG,aR,au];refine ac (by simpa only[TP,TR,bF]using hN _) ?_;simp -dsimp only[aw,jW,jV,jX,jY,jZ,reduceIte,jA,reduceCtorEq,jB,jC,jD,jE,jF,jG,au,aK,bt,aU,aH,aI];exact bp (τ:=σ3) hb3 (v:=vex (aK 6 [e])) (by rw[au];simp[xC,aC,aQ,aK,bt,aU,aH,aI,bF,aw,jW,jV,jX,jY,jZ,reduceIte,jA,reduceCtorEq,jB,jC,jD,jE,jF,jG]) (by rw[au];rfl) TN hQ
  | false=>
   simp -dsimp only[aw,jW,jV,jX,jY,jZ,reduceIte,jA,reduceCtorEq,jB,jC,jD,jE,jF,jG,TJ,if_false,aA (show -9223372036854775808≤((2:Nat):Int)+1 by omega) (show((2:Nat):Int)+1≤9223372036854775807 by omega)]
   exact Nxt.to (σ++[[.d (ab 0),.d (ab 0),.d (ai ⟨#[]⟩),.nil]]) [] (by simp) (by simp) (aq hb rfl) (by simp[an,V.under];try omega) ⟨rfl,rfl,fun q hq=>by
    by_cases e:q=2
    .subst e;exact hs
    .exact hno q (by omega)⟩
 .have f0:ax (aa 33) ts a=false:=hno 0 (by omega);have f1:ax (aa 126) ts a=false:=hno 1 (by omega);have f2:ax (aa 45) ts a=false:=hno 2 (by omega);have hc:decide (((3:Nat):Int)<3)=false:=rfl;simp only[f0,f1,f2,if_false,TJ]at hpar;rw[hpar];simp -dsimp only[aw,jW,jV,jX,jY,jZ,reduceIte,jA,reduceCtorEq,jB,jC,jD,jE,jF,jG,hc];refine aB (hP' _) fun o σ' hq=>?_;cases hx:par .P (ts.drop a)with
  | out=>exact absurd hx (fA _ _)
  | bad c r=>
   rw[hx]at hq;obtain⟨rfl,b,rfl⟩:=hq;rw[be hi];simp -dsimp only[aw,jW,jV,jX,jY,jZ,reduceIte,jA,reduceCtorEq,jB,jC,jD,jE,jF,jG,bi];exact ey (τ:=σ.set i (pb ts b)) (cM hb i ts b) (cO _ _ _) rfl ⟨rfl,b,rfl⟩
  | ok e r=>
   rw[hx]at hq;obtain⟨rfl,rfl⟩:=hq;obtain⟨σ3,hs3⟩:∃x,x=σ.set i (pb ts (ts.length-r.length)):=⟨_,rfl⟩
   have hl3:σ3.length=σ.length:=by rw[hs3,TL]
   have hb3:am σ3.length σ3=true:=by rw[hl3,hs3];exact cM hb i ts _
   have hQ:PQ ts i σ (PR.ok e r) (.ret (vex e)) σ3:=⟨rfl,hs3⟩
   rw[be hi,<-hs3];rw[<-hl3];simp -dsimp only[aw,jW,jV,jX,jY,jZ,reduceIte,jA,reduceCtorEq,jB,jC,jD,jE,jF,jG,aR,au];exact bp (τ:=σ3) hb3 (v:=vex e) (by rw[au];simp[xC,aC,aQ,aw,jW,jV,jX,jY,jZ,reduceIte,jA,reduceCtorEq,jB,jC,jD,jE,jF,jG]) (by rw[au];rfl) TN hQ
structure St(σ0:LLV)(i:Nat)(ts:List Tok)(a:Nat)(σ:LLV):Prop where
 eq:σ=σ0.set i (pb ts a)
 below:am σ0.length σ0=true
 lt:i<σ0.length
structure TsOK(ts:List Tok):Prop where
 size:∀t,t∈ts->t.text.size≤1000
 len:ts.length≤1200000
section
variable {σ0 σ : LLV} {i : Nat} {ts : List Tok} {a : Nat}
theorem St.init(hi:σ[i]? = some (pb ts a))(hb:am σ.length σ=true):St σ i ts a σ:=⟨(JM hi).symm,hb,(List.getElem?_eq_some_iff.1 hi).1⟩
theorem St.len(S:St σ0 i ts a σ):σ.length=σ0.length:=by rw[S.eq,TL]
theorem St.at_(S:St σ0 i ts a σ):σ[i]? = some (pb ts a):=by rw[S.eq,TO S.lt]
theorem St.bb(S:St σ0 i ts a σ):am σ.length σ=true:=by rw[S.len,S.eq];exact cM S.below i ts a
theorem St.step(S:St σ0 i ts a σ)(b:Nat):St σ0 i ts b (σ.set i (pb ts b)):=⟨by rw[S.eq,TQ],S.below,S.lt⟩
theorem St.slen(S:St σ0 i ts a σ)(X:List V):(σ.set i X).length=σ.length:=TL
variable (H : TsOK ts) {l : LLV} {K P : V -> LLV -> Prop} {s : Tag K} {t : Tag P}
include H
theorem dH{m:ByteArray}(S:St σ0 i ts a σ)(ha:a≤ts.length)(ht:ax m ts a=true->a+1≤ts.length->∀σ',St σ0 i ts (a+1) σ'->σ'.length=σ.length->K (ao true) (σ'++l))(hf:ax m ts a=false->K (ao false) (σ++l)):
 fk G 285 [.ptr i 0,.d (ai m)] (σ++l) K P s t:=by
 refine aB (jy m ts a i H.size H.len ha (σ++l) (ah S.at_ l)) fun o σ' ⟨e1,e2⟩=>?_;subst e1;rw[aR];cases hs:ax m ts a with
 | true=>
  rw[hs,if_pos rfl,be S.at_]at e2;subst e2
  exact ht hs (by
   apply TK;intro h;rw[fH (by omega)]at hs;cases hs) _ (S.step _) (S.slen _)
 | false=>
  rw[hs,if_neg (by decide)]at e2;subst e2;exact hf hs
theorem eX{m:ByteArray}(S:St σ0 i ts a σ)(ha:a≤ts.length)(ht:ax m ts a=true->a+1≤ts.length->∀σ',St σ0 i ts (a+1) σ'->σ'.length=σ.length->K (.tup []) (σ'++l))(hf:ax m ts a=false->P (ef (bQ ts a) a) (σ++l)):
 fk G 286 [.ptr i 0,.d (ai m)] (σ++l) K P s t:=by
 refine aB (xZ m ts a i H.size H.len ha (σ++l) (ah S.at_ l)) fun o σ' hq=>?_;cases hs:ax m ts a with
 | true=>
  rw[hs,if_pos rfl,be S.at_]at hq;obtain⟨rfl,rfl⟩:=hq;rw[aR]
  exact ht hs (by
   apply TK;intro h;rw[fH (by omega)]at hs;cases hs) _ (S.step _) (S.slen _)
 | false=>
  rw[hs,if_neg (by decide)]at hq;obtain⟨rfl,rfl⟩:=hq;rw[bi];exact hf hs
theorem vQ{s:ByteArray}{r1:List Tok}(h:bW (ts.drop a)=some (s,r1)):r1=ts.drop (a+1)/\a+1≤ts.length:=by
 by_cases hla:a<ts.length
 .rw[fM hla]at h;split at h
  .cases h;exact⟨rfl,hla⟩
  .cases h
 .rw[TM (by omega)]at h;cases h
theorem Ad{n:Int}{r1:List Tok}(h:cB (ts.drop a)=some (n,r1)):r1=ts.drop (a+1)/\a+1≤ts.length:=by
 by_cases hla:a<ts.length
 .rw[ez hla]at h;split at h
  .cases h;exact⟨rfl,hla⟩
  .cases h
 .rw[TM (by omega)]at h;cases h
theorem Eh(S:St σ0 i ts a σ)(ha:a≤ts.length)(ht:∀s,bW (ts.drop a)=some (s,ts.drop (a+1))->a+1≤ts.length->∀σ',St σ0 i ts (a+1) σ'->σ'.length=σ.length->K (.d (ai s)) (σ'++l))(hf:bW (ts.drop a)=none->P (ef (bQ ts a) a) (σ++l)):
 fk G 330 [.ptr i 0] (σ++l) K P s t:=by
 refine aB (Ct ts a i H.size H.len ha (σ++l) (ah S.at_ l)) fun o σ' hq=>?_;cases hs:bW (ts.drop a)with
 | some p=>
  obtain⟨s,r1⟩:=p;obtain⟨rfl,h1⟩:=vQ H hs;rw[hs]at hq;simp only[be S.at_]at hq;obtain⟨rfl,rfl⟩:=hq;rw[aR];exact ht s hs h1 _ (S.step _) (S.slen _)
 | none=>
  rw[hs]at hq;obtain⟨rfl,rfl⟩:=hq;rw[bi];exact hf hs
theorem Ay(S:St σ0 i ts a σ)(ha:a≤ts.length)(ht:∀n,cB (ts.drop a)=some (n,ts.drop (a+1))->¬65535<n->a+1≤ts.length->∀σ',St σ0 i ts (a+1) σ'->σ'.length=σ.length->K (.d (ab n)) (σ'++l))(hb:∀n,cB (ts.drop a)=some (n,ts.drop (a+1))->65535<n->P (ef 3 a) (σ++l))(hf:cB (ts.drop a)=none->P (ef (bQ ts a) a) (σ++l)):
 fk G 329 [.ptr i 0] (σ++l) K P s t:=by
 refine aB (xE ts a i H.size H.len ha (σ++l) (ah S.at_ l)) fun o σ' hq=>?_;cases hs:cB (ts.drop a)with
 | some p=>
  obtain⟨n,r1⟩:=p;obtain⟨rfl,h1⟩:=Ad H hs;rw[hs]at hq;simp only[be S.at_]at hq;by_cases hbig:65535<n
  .rw[if_pos hbig]at hq;obtain⟨rfl,rfl⟩:=hq;rw[bi];exact hb n hs hbig
  .rw[if_neg hbig]at hq;obtain⟨rfl,rfl⟩:=hq;rw[aR];exact ht n hs hbig h1 _ (S.step _) (S.slen _)
 | none=>
  rw[hs]at hq;obtain⟨rfl,rfl⟩:=hq;rw[bi];exact hf hs
theorem DS{k:PK}(S:St σ0 i ts a σ)(ha:a≤ts.length){o:Out}{σ':LLV}(hq:PQ ts i (σ++l) (par k (ts.drop a)) o σ'):
 (∃e a2,par k (ts.drop a)=.ok e (ts.drop a2)/\a≤a2/\a2≤ts.length/\(k.eats=true->a<a2)/\o=.ret (vex e)/\∃σ1,σ'=σ1++l/\St σ0 i ts a2 σ1/\σ1.length=σ.length)\/
 (∃c r b,par k (ts.drop a)=.bad c r/\o=.panic (ef c (ts.length-r.length))/\∃σ1,σ'=σ1++l/\St σ0 i ts b σ1/\σ1.length=σ.length):=by
 cases hx:par k (ts.drop a)with
 | out=>exact absurd hx (fA _ _)
 | bad c r=>
  rw[hx]at hq;obtain⟨rfl,b,rfl⟩:=hq;exact .inr ⟨c,r,b,rfl,rfl,_,be S.at_ l _,S.step b,S.slen _⟩
 | ok e r=>
  rw[hx]at hq;obtain⟨rfl,rfl⟩:=hq;obtain⟨h1,h2,h3,h4⟩:=FK ha hx;exact .inl ⟨e,ts.length-r.length,by rw[<-h1],h2,h3,h4,rfl,_,be S.at_ l _,S.step _,S.slen _⟩
theorem iR{f:FuncId}{args:List V}{k:PK}(S:St σ0 i ts a σ)(ha:a≤ts.length)(h:Fun G f args (σ++l) (PQ ts i (σ++l) (par k (ts.drop a))))
 (ht:∀e a2,par k (ts.drop a)=.ok e (ts.drop a2)->a≤a2->a2≤ts.length->(k.eats=true->a<a2)->∀σ',St σ0 i ts a2 σ'->σ'.length=σ.length->K (vex e) (σ'++l))(hf:∀c r b,par k (ts.drop a)=.bad c r->∀σ',St σ0 i ts b σ'->σ'.length=σ.length->P (ef c (ts.length-r.length)) (σ'++l)):fk G f args (σ++l) K P s t:=by
 refine aB h fun o σ' hq=>?_;rcases DS H S ha hq with⟨e,a2,h1,h2,h3,h4,rfl,σ1,rfl,h5,h6⟩|⟨c,r,b,h1,rfl,σ1,rfl,h5,h6⟩
 .rw[aR];exact ht e a2 h1 h2 h3 h4 σ1 h5 h6
 .rw[bi];exact hf c r b h1 σ1 h5 h6
theorem Ei{f:FuncId}{args:List V}{k:PK}{R:LLV->Prop}{pn:Unit->Prop}{tR:Tag R}{tp:Tag pn}(S:St σ0 i ts a σ)(ha:a≤ts.length)(h:Fun G f args (σ++l) (PQ ts i (σ++l) (par k (ts.drop a))))
 (ht:∀e a2,par k (ts.drop a)=.ok e (ts.drop a2)->a≤a2->a2≤ts.length->(k.eats=true->a<a2)->∀σ',St σ0 i ts a2 σ'->σ'.length=σ.length->R (σ'++l)/\K (vex e) (σ'++l))(hf:∀c r b,par k (ts.drop a)=.bad c r->∀σ',St σ0 i ts b σ'->σ'.length=σ.length->P (ef c (ts.length-r.length)) (σ'++l))(hp:(∃c r,par k (ts.drop a)=.bad c r)->pn ()):GA G f args (σ++l) R K P pn tR s t tp:=by
 cases hx:par k (ts.drop a)with
 | out=>exact absurd hx (fA _ _)
 | bad c r=>
  rw[hx]at h;refine Gg (h.mono fun o σ' hq=>?_) (hp ⟨c,r,hx⟩);obtain⟨rfl,b,rfl⟩:=hq;rw[be S.at_];exact⟨_,rfl,hf c r b hx _ (S.step b) (S.slen _)⟩
 | ok e r=>
  obtain⟨h1,h2,h3,h4⟩:=FK ha hx;obtain⟨k1,k2⟩:=ht e _ (by rw[<-h1];exact hx) h2 h3 h4 _ (S.step (ts.length-r.length)) (S.slen _);rw[hx]at h;refine vS (σ1:=σ.set i (pb ts (ts.length-r.length))++l) (v:=vex e) (h.mono fun o σ' hq=>?_) k1 k2;obtain⟨rfl,rfl⟩:=hq;exact⟨rfl,be S.at_ l _⟩
omit H
theorem dr{rs:List RV}{ρ:aj}{x:PR}{e:Ex}(S:St σ0 i ts a σ)(ha:a≤ts.length)(hx:x=.ok e (ts.drop a))(h:aC (σ++l) ρ rs=some (vex e)):fin σ.length rs (PQ ts i σ0 x) .ret ρ (σ++l):=by
 subst hx;exact bp (τ:=σ) S.bb h (by rw[au];rfl) TN ⟨rfl,by rw[iE ts a ha];exact S.eq⟩
theorem db{rs:List RV}{ρ:aj}{x:PR}{c:Int}{r:List Tok}{n:Nat}(S:St σ0 i ts a σ)(hx:x=.bad c r)(hn:n=ts.length-r.length):fin σ.length rs (PQ ts i σ0 x) (.panic (ef c n)) ρ (σ++l):=by
 subst hx;subst hn;exact ey (τ:=σ) S.bb TN rfl ⟨rfl,a,S.eq⟩
theorem dS{rs:List RV}{ρ:aj}{x:PR}(S:St σ0 i ts a σ)(ha:a≤ts.length)(hx:x=eO (ts.drop a)):fin σ.length rs (PQ ts i σ0 x) (.panic (ef (bQ ts a) a)) ρ (σ++l):=
 db (r:=ts.drop a) S (by rw[hx,dC ts a ha]) (iE ts a ha).symm
end
end Go.Proofs.YtnhphlmblenapaaGreatDoor
namespace Go.Proofs.YtnhphlmblenapaaGreatDoor
open Go.RowKit
open Nat renaming reduceLeDiff -> jA, reduceBEq -> jB, reduceLT -> jC, reduceEqDiff -> jD, reduceAdd -> jE, reduceSub -> jF, reduceMul -> jG
open V renaming copy -> jV, lend -> jW, lend1 -> jX, cells -> jY, boxable -> jZ
theorem GI(ts:List Tok)(a:Nat):∃(kd nm:Int) (tx:ByteArray) (ln:Int) (ok:Bool),fJ ts a=.tup [.agg [.d (ab kd),.d (ab nm),.d (ai tx),.d (ab ln)],ao ok]/\((ok=true/\kd=3/\∃n,cB (ts.drop a)=some (n,ts.drop (a+1)))\/(cB (ts.drop a)=none/\(ok=false\/ok=true/\kd≠3))):=by
 unfold fJ;by_cases hla:a<ts.length
 .rw[List.getElem?_eq_getElem hla,ez hla];simp only;by_cases hv:bO ts[a]=true
  .rw[if_pos hv];refine⟨_,_,_,_,_,rfl,?_⟩;by_cases hk:ts[a].kind=3
   .exact .inl ⟨rfl,hk,_,if_pos ⟨hv,hk⟩⟩
   .exact .inr ⟨if_neg (fun h=>hk h.2),.inr ⟨rfl,hk⟩⟩
  .rw[if_neg hv];exact⟨_,_,_,_,_,rfl,.inr ⟨if_neg (fun h=>hv h.1),.inl rfl⟩⟩
 .rw[List.getElem?_eq_none (by omega),TM (by omega)];exact⟨_,_,_,_,_,rfl,.inr ⟨rfl,.inl rfl⟩⟩
theorem jz{ts:List Tok}{a:Nat}(H:TsOK ts){s:ByteArray}{r:List Tok}(h:bW (ts.drop a)=some (s,r)):s.size≤1000:=by
 by_cases hla:a<ts.length
 .rw[fM hla]at h;split at h
  .cases h;exact H.size _ (List.getElem_mem hla)
  .cases h
 .rw[TM (by omega)]at h;cases h
theorem rv{ts:List Tok}{a:Nat}(H:TsOK ts){n:Int}{r:List Tok}(h:cB (ts.drop a)=some (n,r))(hn:¬65535<n):0≤n/\(Lib.decDigits n.toNat).length≤5:=by
 by_cases hla:a<ts.length
 .rw[ez hla]at h;split at h
  .rename_i hv;cases h;have:=hv.1;unfold bO at this;rw[if_pos hv.2]at this;simp only[Bool.and_eq_true,decide_eq_true_eq]at this;exact⟨this.1.1,wI _ (by omega)⟩
  .cases h
 .rw[TM (by omega)]at h;cases h
theorem p4(x:Bs)(n:Int):gX (bs x) n=bs (x++91::(Lib.decDigits n.toNat++[93])):=by
 unfold gX;rw[show aa 91=bs [91]from rfl,show aa 93=bs [93]from rfl,show Hj n=bs (Lib.decDigits n.toNat)from rfl,gp,gp,gp];simp
theorem vR(ts:List Tok)(a i:Nat)(H:TsOK ts)(ha:a≤ts.length)
 (hW:∀b,a<b->b≤ts.length->∀σ:LLV,σ[i]? = some (pb ts b)->Fun G 255 [.ptr i 0] σ (PQ ts i σ (par .W (ts.drop b))))
 (σ:LLV)(hi:σ[i]? = some (pb ts a)):Fun G 326 [.ptr i 0] σ (PQ ts i σ (par .P (ts.drop a))):=by
 refine ae Tryz.func326 Tw rfl fun hb hw=>?_;have S:=St.init hi hb;have hpar:par .P (ts.drop a)=ic par (ts.drop a):=lm .P (ts.drop a);unfold ic at hpar;rw[aT]at hpar;unfold Nx;simp -dsimp only[aw,seval];refine dH H (m:=aa 40) S ha (fun hs ha1 σ1 S1 hl1=>?_) (fun hs=>?_)
 .rw[hs,if_pos rfl]at hpar;simp only at hpar;rw[<-hl1];simp -dsimp only[aw,seval];refine iR H S1 ha1 (hW _ (by omega) ha1 _ (ah S1.at_ _)) (fun e a2 hx h1 h2 h3 σ2 S2 hl2=>?_) (fun c r b hx σ2 S2 hl2=>?_)
  .rw[hx,PR.bind,aT]at hpar;rw[<-hl2];simp -dsimp only[aw,seval,au];refine eX H (m:=aa 41) S2 h2 (fun hs3 ha3 σ3 S3 hl3=>?_) (fun hs3=>?_)
   .rw[hs3,if_pos rfl]at hpar;rw[<-hl3];simp -dsimp only[aw,seval];exact dr S3 ha3 hpar (by rw[au];simp[iM,aC,aQ,aw,seval])
   .rw[hs3,if_neg (by decide)]at hpar;simp -dsimp only[aw,seval];exact dS S2 h2 hpar
  .rw[hx,PR.bind]at hpar;rw[<-hl2];simp -dsimp only[aw,seval];exact db S2 hpar rfl
 rw[hs,if_neg (by decide)]at hpar;simp only at hpar;simp -dsimp only[aw,seval];refine ac (nG ts a i H.size ha _ (ah hi _)) ?_;obtain⟨kd,nm,tx,ln,ok,hnv,hcase⟩:=GI ts a;rw[hnv];rcases hcase with⟨rfl,rfl,n,hnum⟩|⟨hnum,hok⟩
 .rw[hnum]at hpar;simp only at hpar;simp -dsimp only[aw,seval];refine Ay H S ha (fun n' hn hle ha1 σ1 S1 hl1=>?_) (fun n' hn hbig=>?_) (fun hn=>by rw[hnum]at hn;cases hn)
  .rw[hnum]at hn;cases hn;rw[if_neg hle]at hpar;rw[<-hl1];simp -dsimp only[aw,seval];exact dr S1 ha1 hpar (by rw[au];simp[iM,aC,aQ,bt,aU,aH,aI,aw,seval])
  .rw[hnum]at hn;cases hn;rw[if_pos hbig]at hpar;simp -dsimp only[aw,seval];exact db S hpar (iE ts a ha).symm
 rw[hnum]at hpar;simp only at hpar;rcases hok with rfl|⟨rfl,hk⟩
 case' inl=>simp -dsimp only[aw,seval]
 case' inr=>simp -dsimp only[aw,seval,decide_eq_false hk]
 all_goals
  refine Eh H S ha (fun s hs1 ha1 σ1 S1 hl1=>?_) (fun hs1=>?_)
  case refine_2=>
   rw[hs1]at hpar;simp -dsimp only[aw,seval];exact dS S ha hpar
  rw[hs1]at hpar;simp only at hpar;rw[<-hl1];by_cases hsum:s=me
  .have hd:decide (s=(⟨#[115,117,109]⟩:ByteArray))=true:=decide_eq_true hsum;have hones:¬s=gS:=by rw[hsum];decide
   have hd2:decide (s=(⟨#[111,110,101,115]⟩:ByteArray))=false:=decide_eq_false hones;rw[if_pos hsum,aT]at hpar;simp -dsimp only[aw,seval,hd];refine dH H (m:=aa 40) S1 ha1 (fun h40 ha2 σ2 S2 hl2=>?_) (fun h40=>?_)
   .rw[h40,if_pos rfl]at hpar;simp only at hpar;rw[<-hl2];simp -dsimp only[aw,seval];refine Eh H S2 ha2 (fun s2 hs2 ha3 σ3 S3 hl3=>?_) (fun hs2=>?_)
    .rw[hs2]at hpar;simp only[aT]at hpar;rw[<-hl3];simp -dsimp only[aw,seval];refine eX H (m:=aa 41) S3 ha3 (fun hs3 ha4 σ4 S4 hl4=>?_) (fun hs3=>?_)
     .rw[hs3,if_pos rfl]at hpar;rw[<-hl4];simp -dsimp only[aw,seval];exact dr S4 ha4 hpar (by rw[au];simp[iM,aC,aQ,bt,aU,aH,aI,aw,seval])
     .rw[hs3,if_neg (by decide)]at hpar;simp -dsimp only[aw,seval];exact dS S3 ha3 hpar
    .rw[hs2]at hpar;simp -dsimp only[aw,seval];exact dS S2 ha2 hpar
   rw[h40,if_neg (by decide),if_neg hones]at hpar;simp only[aT]at hpar;simp -dsimp only[aw,seval,hd2];refine dH H (m:=aa 91) S1 ha1 (fun h91 ha2 σ2 S2 hl2=>?_) (fun h91=>?_)
   .rw[h91,if_pos rfl]at hpar;simp only at hpar;rw[<-hl2];simp -dsimp only[aw,seval];refine iR H S2 ha2 (hW _ (by omega) ha2 _ (ah S2.at_ _)) (fun e a3 hx h1 h2 h3 σ3 S3 hl3=>?_) (fun c r b hx σ3 S3 hl3=>?_)
    .rw[hx,PR.bind,aT]at hpar;rw[<-hl3];simp -dsimp only[aw,seval,au];refine eX H (m:=aa 93) S3 h2 (fun hs3 ha4 σ4 S4 hl4=>?_) (fun hs3=>?_)
     .rw[hs3,if_pos rfl]at hpar;rw[<-hl4];simp -dsimp only[aw,seval];exact dr S4 ha4 hpar (by rw[au];simp[iM,aC,aQ,aK,bt,aU,aH,aI,bF,aw,seval])
     .rw[hs3,if_neg (by decide)]at hpar;simp -dsimp only[aw,seval];exact dS S3 h2 hpar
    .rw[hx,PR.bind]at hpar;rw[<-hl3];simp -dsimp only[aw,seval];exact db S3 hpar rfl
   rw[h91,if_neg (by decide)]at hpar;simp only at hpar;simp -dsimp only[aw,seval];refine dH H (m:=aa 64) S1 ha1 (fun h64 ha2 σ2 S2 hl2=>?_) (fun h64=>?_)
   .rw[h64,if_pos rfl]at hpar;simp only at hpar;rw[<-hl2];have hsz:=jz H hs1;obtain⟨x,rfl⟩:∃x,s=bs x:=⟨_,(jR s).symm⟩
    rw[aG]at hsz;have a1:cd .add (V.d (ai (bs x))) (V.d (ai ⟨#[91]⟩))=some (V.d (ai (bs (x++[91])))):=fg x [91] (by simp;omega);simp -dsimp only[aw,seval,a1];refine Ay H S2 ha2 (fun n hn hle ha3 σ3 S3 hl3=>?_) (fun n hn hbig=>?_) (fun hn=>?_)
    .obtain⟨h0,h5⟩:=rv H hn hle
     have a2:cd .add (V.d (ai (bs (x++[91])))) (V.d (ai (bs (Lib.decDigits n.toNat))))=some (V.d (ai (bs (x++91::Lib.decDigits n.toNat)))):=by
      rw[show x++91::Lib.decDigits n.toNat=(x++[91])++Lib.decDigits n.toNat by simp];exact fg (x++[91]) _ (by simp;omega)
     have a3:cd .add (V.d (ai (bs (x++91::Lib.decDigits n.toNat)))) (V.d (ai ⟨#[93]⟩))=some (V.d (ai (bs (x++91::(Lib.decDigits n.toNat++[93]))))):=by
      rw[show x++91::(Lib.decDigits n.toNat++[93])=(x++91::Lib.decDigits n.toNat)++[93]by simp];exact fg (x++91::Lib.decDigits n.toNat) [93] (by simp;omega)
     rw[hn]at hpar;simp only at hpar;rw[if_neg hle,p4]at hpar;rw[<-hl3];simp -dsimp only[aw,seval];refine ac (i6 n h0 (by omega) _) ?_;simp -dsimp only[aw,seval,a2,a3];exact dr S3 ha3 hpar (by rw[au];simp[iM,aC,aQ,bt,aU,aH,aI,aw,seval])
    .rw[hn]at hpar;simp only at hpar;rw[if_pos hbig]at hpar;simp -dsimp only[aw,seval];exact db S2 hpar (iE ts _ ha2).symm
    .rw[hn]at hpar;simp -dsimp only[aw,seval];exact dS S2 ha2 hpar
   rw[h64,if_neg (by decide)]at hpar;simp only at hpar;simp -dsimp only[aw,seval];exact dr S1 ha1 hpar (by rw[au];simp[iM,aC,aQ,bt,aU,aH,aI,aw,seval])
  have hd:decide (s=(⟨#[115,117,109]⟩:ByteArray))=false:=decide_eq_false hsum;rw[if_neg hsum]at hpar;simp only at hpar;by_cases hones:s=gS
  .have hd2:decide (s=(⟨#[111,110,101,115]⟩:ByteArray))=true:=decide_eq_true hones;rw[if_pos hones,aT]at hpar;simp -dsimp only[aw,seval,hd,hd2];refine dH H (m:=aa 40) S1 ha1 (fun h40 ha2 σ2 S2 hl2=>?_) (fun h40=>?_)
   .rw[h40,if_pos rfl]at hpar;simp only at hpar;rw[<-hl2];simp -dsimp only[aw,seval];refine iR H S2 ha2 (hW _ (by omega) ha2 _ (ah S2.at_ _)) (fun e a3 hx h1 h2 h3 σ3 S3 hl3=>?_) (fun c r b hx σ3 S3 hl3=>?_)
    .rw[hx,PR.bind,aT]at hpar;rw[<-hl3];simp -dsimp only[aw,seval,au];refine eX H (m:=aa 41) S3 h2 (fun hs3 ha4 σ4 S4 hl4=>?_) (fun hs3=>?_)
     .rw[hs3,if_pos rfl]at hpar;rw[<-hl4];have hNd:=eo 25 [e];simp -dsimp only[aw,seval];refine ac (by simpa only[TP,TR,bF]using hNd _) ?_;simp -dsimp only[aw,seval,au,aK,bt,aU,aH,aI];exact dr S4 ha4 hpar (by rw[au];simp[iM,aC,aQ,aK,bt,aU,aH,aI,bF,aw,seval])
     .rw[hs3,if_neg (by decide)]at hpar;simp -dsimp only[aw,seval];exact dS S3 h2 hpar
    .rw[hx,PR.bind]at hpar;rw[<-hl3];simp -dsimp only[aw,seval];exact db S3 hpar rfl
   rw[h40,if_neg (by decide)]at hpar;simp only[aT]at hpar;simp -dsimp only[aw,seval];refine dH H (m:=aa 91) S1 ha1 (fun h91 ha2 σ2 S2 hl2=>?_) (fun h91=>?_)
   .rw[h91,if_pos rfl]at hpar;simp only at hpar;rw[<-hl2];simp -dsimp only[aw,seval];refine iR H S2 ha2 (hW _ (by omega) ha2 _ (ah S2.at_ _)) (fun e a3 hx h1 h2 h3 σ3 S3 hl3=>?_) (fun c r b hx σ3 S3 hl3=>?_)
    .rw[hx,PR.bind,aT]at hpar;rw[<-hl3];simp -dsimp only[aw,seval,au];refine eX H (m:=aa 93) S3 h2 (fun hs3 ha4 σ4 S4 hl4=>?_) (fun hs3=>?_)
     .rw[hs3,if_pos rfl]at hpar;rw[<-hl4];simp -dsimp only[aw,seval];exact dr S4 ha4 hpar (by rw[au];simp[iM,aC,aQ,aK,bt,aU,aH,aI,bF,aw,seval])
     .rw[hs3,if_neg (by decide)]at hpar;simp -dsimp only[aw,seval];exact dS S3 h2 hpar
    .rw[hx,PR.bind]at hpar;rw[<-hl3];simp -dsimp only[aw,seval];exact db S3 hpar rfl
   rw[h91,if_neg (by decide)]at hpar;simp only at hpar;simp -dsimp only[aw,seval];refine dH H (m:=aa 64) S1 ha1 (fun h64 ha2 σ2 S2 hl2=>?_) (fun h64=>?_)
   .rw[h64,if_pos rfl]at hpar;simp only at hpar;rw[<-hl2];have hsz:=jz H hs1;obtain⟨x,rfl⟩:∃x,s=bs x:=⟨_,(jR s).symm⟩
    rw[aG]at hsz;have a1:cd .add (V.d (ai (bs x))) (V.d (ai ⟨#[91]⟩))=some (V.d (ai (bs (x++[91])))):=fg x [91] (by simp;omega);simp -dsimp only[aw,seval,a1];refine Ay H S2 ha2 (fun n hn hle ha3 σ3 S3 hl3=>?_) (fun n hn hbig=>?_) (fun hn=>?_)
    .obtain⟨h0,h5⟩:=rv H hn hle
     have a2:cd .add (V.d (ai (bs (x++[91])))) (V.d (ai (bs (Lib.decDigits n.toNat))))=some (V.d (ai (bs (x++91::Lib.decDigits n.toNat)))):=by
      rw[show x++91::Lib.decDigits n.toNat=(x++[91])++Lib.decDigits n.toNat by simp];exact fg (x++[91]) _ (by simp;omega)
     have a3:cd .add (V.d (ai (bs (x++91::Lib.decDigits n.toNat)))) (V.d (ai ⟨#[93]⟩))=some (V.d (ai (bs (x++91::(Lib.decDigits n.toNat++[93]))))):=by
      rw[show x++91::(Lib.decDigits n.toNat++[93])=(x++91::Lib.decDigits n.toNat)++[93]by simp];exact fg (x++91::Lib.decDigits n.toNat) [93] (by simp;omega)
     rw[hn]at hpar;simp only at hpar;rw[if_neg hle,p4]at hpar;rw[<-hl3];simp -dsimp only[aw,seval];refine ac (i6 n h0 (by omega) _) ?_;simp -dsimp only[aw,seval,a2,a3];exact dr S3 ha3 hpar (by rw[au];simp[iM,aC,aQ,bt,aU,aH,aI,aw,seval])
    .rw[hn]at hpar;simp only at hpar;rw[if_pos hbig]at hpar;simp -dsimp only[aw,seval];exact db S2 hpar (iE ts _ ha2).symm
    .rw[hn]at hpar;simp -dsimp only[aw,seval];exact dS S2 ha2 hpar
   rw[h64,if_neg (by decide)]at hpar;simp only at hpar;simp -dsimp only[aw,seval];exact dr S1 ha1 hpar (by rw[au];simp[iM,aC,aQ,bt,aU,aH,aI,aw,seval])
  have hd2:decide (s=(⟨#[111,110,101,115]⟩:ByteArray))=false:=decide_eq_false hones;rw[if_neg hones]at hpar;simp only[aT]at hpar;simp -dsimp only[aw,seval,hd,hd2];refine dH H (m:=aa 91) S1 ha1 (fun h91 ha2 σ2 S2 hl2=>?_) (fun h91=>?_)
  .rw[h91,if_pos rfl]at hpar;simp only at hpar;rw[<-hl2];simp -dsimp only[aw,seval];refine iR H S2 ha2 (hW _ (by omega) ha2 _ (ah S2.at_ _)) (fun e a3 hx h1 h2 h3 σ3 S3 hl3=>?_) (fun c r b hx σ3 S3 hl3=>?_)
   .rw[hx,PR.bind,aT]at hpar;rw[<-hl3];simp -dsimp only[aw,seval,au];refine eX H (m:=aa 93) S3 h2 (fun hs3 ha4 σ4 S4 hl4=>?_) (fun hs3=>?_)
    .rw[hs3,if_pos rfl]at hpar;rw[<-hl4];simp -dsimp only[aw,seval];exact dr S4 ha4 hpar (by rw[au];simp[iM,aC,aQ,aK,bt,aU,aH,aI,bF,aw,seval])
    .rw[hs3,if_neg (by decide)]at hpar;simp -dsimp only[aw,seval];exact dS S3 h2 hpar
   .rw[hx,PR.bind]at hpar;rw[<-hl3];simp -dsimp only[aw,seval];exact db S3 hpar rfl
  rw[h91,if_neg (by decide)]at hpar;simp only at hpar;simp -dsimp only[aw,seval];refine dH H (m:=aa 64) S1 ha1 (fun h64 ha2 σ2 S2 hl2=>?_) (fun h64=>?_)
  .rw[h64,if_pos rfl]at hpar;simp only at hpar;rw[<-hl2];have hsz:=jz H hs1;obtain⟨x,rfl⟩:∃x,s=bs x:=⟨_,(jR s).symm⟩
   rw[aG]at hsz;have a1:cd .add (V.d (ai (bs x))) (V.d (ai ⟨#[91]⟩))=some (V.d (ai (bs (x++[91])))):=fg x [91] (by simp;omega);simp -dsimp only[aw,seval,a1];refine Ay H S2 ha2 (fun n hn hle ha3 σ3 S3 hl3=>?_) (fun n hn hbig=>?_) (fun hn=>?_)
   .obtain⟨h0,h5⟩:=rv H hn hle
    have a2:cd .add (V.d (ai (bs (x++[91])))) (V.d (ai (bs (Lib.decDigits n.toNat))))=some (V.d (ai (bs (x++91::Lib.decDigits n.toNat)))):=by
     rw[show x++91::Lib.decDigits n.toNat=(x++[91])++Lib.decDigits n.toNat by simp];exact fg (x++[91]) _ (by simp;omega)
    have a3:cd .add (V.d (ai (bs (x++91::Lib.decDigits n.toNat)))) (V.d (ai ⟨#[93]⟩))=some (V.d (ai (bs (x++91::(Lib.decDigits n.toNat++[93]))))):=by
     rw[show x++91::(Lib.decDigits n.toNat++[93])=(x++91::Lib.decDigits n.toNat)++[93]by simp];exact fg (x++91::Lib.decDigits n.toNat) [93] (by simp;omega)
    rw[hn]at hpar;simp only at hpar;rw[if_neg hle,p4]at hpar;rw[<-hl3];simp -dsimp only[aw,seval];refine ac (i6 n h0 (by omega) _) ?_;simp -dsimp only[aw,seval,a2,a3];exact dr S3 ha3 hpar (by rw[au];simp[iM,aC,aQ,bt,aU,aH,aI,aw,seval])
   .rw[hn]at hpar;simp only at hpar;rw[if_pos hbig]at hpar;simp -dsimp only[aw,seval];exact db S2 hpar (iE ts _ ha2).symm
   .rw[hn]at hpar;simp -dsimp only[aw,seval];exact dS S2 ha2 hpar
  rw[h64,if_neg (by decide)]at hpar;simp only at hpar;simp -dsimp only[aw,seval];exact dr S1 ha1 hpar (by rw[au];simp[iM,aC,aQ,bt,aU,aH,aI,aw,seval])
end Go.Proofs.YtnhphlmblenapaaGreatDoor
