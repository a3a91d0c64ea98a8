import Derived.Test.YthekkgfmagliiaaGreatDoorPm4
set_option linter.unusedVariables false
set_option linter.unusedSimpArgs false
set_option linter.unusedSectionVars false
set_option maxHeartbeats 4000000
open Bool renaming false_eq_true->RS
open Classical renaming byContradiction->RU
open List renaming length_set->RW,drop_eq_nil_of_le->RX,take_left->RY,getElem?_set_self->RZ,map_cons->R0,set_set->R5,map_nil->R6
namespace Go.Proofs.YthekkgfmagliiaaGreatDoor
open Go.RowKit
open Nat renaming reduceLeDiff -> jA, reduceBEq -> jB, reduceLT -> jC, reduceEqDiff -> jD, reduceAdd -> jE, reduceSub -> jF, reduceMul -> jG
open V renaming copy -> jV, lend -> jW, lend1 -> jX, cells -> jY, boxable -> jZ
def AC(j:Nat):ByteArray:=if j=0 then aa 33 else if j=1 then aa 126 else aa 45
theorem CI(ts:List Tok)(a i:Nat)(hz:∀t,t∈ts->t.text.size≤1000)(hn:ts.length≤1000000)(ha:a≤ts.length)
 (hP:∀σ:LLV,σ[i]? = some (pb ts a)->Fun G 250 [.ptr i 0] σ (PQ ts i σ (par .P (ts.drop a))))
 (hU:∀b,a<b->b≤ts.length->∀σ:LLV,σ[i]? = some (pb ts b)->Fun G 246 [.ptr i 0] σ (PQ ts i σ (par .U (ts.drop b))))
 (σ:LLV)(hi:σ[i]? = some (pb ts a)):Fun G 246 [.ptr i 0] σ (PQ ts i σ (par .U (ts.drop a))):=by
 have hlt:=(List.getElem?_eq_some_iff.1 hi).1;refine ai Tryz.func246 QY rfl fun hb hw=>?_;unfold N2;have hP':=fun l=>hP (σ++l) (au hi l);have hA:=fun m l=>ko m ts a i hz hn ha (σ++l) (au hi l);have hpar:=cT .U (ts.drop a);simp only[aQ,bS]at hpar;simp -dsimp only[aw,jV,jW,jX,jY,jZ,jA,reduceIte,reduceCtorEq,jB,jC,jD,jE,jF,jG];refine aY [0,2,5,6,7] (R:=fun(j:Nat) ρ σ'=>ρ=[(0,.ptr i 0),(2,.ptr σ.length 0),(5,.d (.sl [[ab 4],[ab 5],[ab 6]])),(6,.d (ab 3)),(7,aI .i64 j)]/\σ'=σ++[[.d (ab 0),.d (ab 0),.d (ae ⟨#[]⟩),.nil]]/\∀q,q<j->aG (AC q) ts a=false) 3 ⟨rfl,rfl,fun q h=>by omega⟩ ?_ _;rintro j ρ' σ' hj ⟨rfl,rfl,hno⟩;have hj4:j=0\/j=1\/j=2\/j=3:=by omega
 rcases hj4 with rfl|rfl|rfl|rfl
 .
  have e0:iaV 1 (V.d (.sl [[ab 4],[ab 5],[ab 6]])) (aI .i64 ((0:Nat):Int))=some (.row [ab 4] 0):=rfl;have hc:decide (((0:Nat):Int)<3)=true:=rfl;simp -dsimp only[aw,jV,jW,jX,jY,jZ,jA,reduceIte,reduceCtorEq,jB,jC,jD,jE,jF,jG,e0,hc];refine ac (cU 4 _) ?_;simp -dsimp only[aw,jV,jW,jX,jY,jZ,jA,reduceIte,reduceCtorEq,jB,jC,jD,jE,jF,jG];refine dG (hA _ _) ?_;have hm:bs (iJ 4)=AC 0:=rfl;rw[hm];cases hs:aG (AC 0) ts a with
  | true=>
   have hs':aG (aa 33) ts a=true:=hs
   have ha2:a+1≤ts.length:=by
    apply RU;intro h;rw[iN (by omega)]at hs;cases hs
   obtain⟨σ2,hs2⟩:∃x,x=σ.set i (pb ts (a+1)):=⟨_,rfl⟩
   have hl2:σ2.length=σ.length:=by rw[hs2,RW]
   have hb2:aj σ2.length σ2=true:=by rw[hl2,hs2];exact cW hb i ts _
   have hi2:σ2[i]? = some (pb ts (a+1)):=by rw[hs2,RZ (by omega)]
   have hall:∀X:List V,σ2.set i X=σ.set i X:=fun X=>by rw[hs2,R5]
   rw[if_pos rfl,aR hi,<-hs2];rw[<-hl2];simp -dsimp only[aw,jV,jW,jX,jY,jZ,jA,reduceIte,reduceCtorEq,jB,jC,jD,jE,jF,jG];refine aW (hU (a+1) (by omega) ha2 _ (au hi2 _)) fun o σ' hq=>?_;simp only[hs',if_true,if_false,RS]at hpar;rw[hpar];cases hx:par .U (ts.drop (a+1))with
   | out=>exact absurd hx (eV _ _)
   | bad c r=>
    rw[hx]at hq;obtain⟨rfl,b,rfl⟩:=hq;rw[aR hi2];simp -dsimp only[aw,jV,jW,jX,jY,jZ,jA,reduceIte,reduceCtorEq,jB,jC,jD,jE,jF,jG,bE];exact ft (τ:=σ2.set i (pb ts b)) (cW hb2 i ts b) (fo _ _ _) rfl ⟨rfl,b,hall _⟩
   | ok e r=>
    rw[hx]at hq;obtain⟨rfl,rfl⟩:=hq;obtain⟨σ3,hs3⟩:∃x,x=σ2.set i (pb ts (ts.length-r.length)):=⟨_,rfl⟩
    have hl3:σ3.length=σ2.length:=by rw[hs3,RW]
    have hb3:aj σ3.length σ3=true:=by rw[hl3,hs3];exact cW hb2 i ts _
    have hN:=fe 4 [e];have hQ:PQ ts i σ ((PR.ok e r).bind fun a r2=>.ok (aZ 4 [a]) r2) (.ret (vex (aZ 4 [e]))) σ3:=⟨rfl,by rw[hs3];exact hall _⟩
    rw[aR hi2,<-hs3];rw[<-hl3];simp -dsimp only[aw,jV,jW,jX,jY,jZ,jA,reduceIte,reduceCtorEq,jB,jC,jD,jE,jF,jG,bg,al];refine ac (by simpa only[R0,R6,bq]using hN _) ?_;simp -dsimp only[aw,jV,jW,jX,jY,jZ,jA,reduceIte,reduceCtorEq,jB,jC,jD,jE,jF,jG,al,aZ,bL,be,aJ,aK];exact bP (τ:=σ3) hb3 (v:=vex (aZ 4 [e])) (by rw[al];simp[wz,aU,bu,aZ,bL,be,aJ,aK,bq,aw,jV,jW,jX,jY,jZ,jA,reduceIte,reduceCtorEq,jB,jC,jD,jE,jF,jG]) (by rw[al];rfl) RY hQ
  | false=>
   simp -dsimp only[aw,jV,jW,jX,jY,jZ,jA,reduceIte,reduceCtorEq,jB,jC,jD,jE,jF,jG,RS,if_false,aX (show -9223372036854775808≤((0:Nat):Int)+1 by omega) (show((0:Nat):Int)+1≤9223372036854775807 by omega)]
   exact Nxt.to (σ++[[.d (ab 0),.d (ab 0),.d (ae ⟨#[]⟩),.nil]]) [] (by simp) (by simp) (av hb rfl) (by simp[am,V.under];try omega) ⟨rfl,rfl,fun q hq=>by
    by_cases e:q=0
    .subst e;exact hs
    .exact hno q (by omega)⟩
 .
  have e0:iaV 1 (V.d (.sl [[ab 4],[ab 5],[ab 6]])) (aI .i64 ((1:Nat):Int))=some (.row [ab 5] 0):=rfl;have hc:decide (((1:Nat):Int)<3)=true:=rfl;simp -dsimp only[aw,jV,jW,jX,jY,jZ,jA,reduceIte,reduceCtorEq,jB,jC,jD,jE,jF,jG,e0,hc];refine ac (cU 5 _) ?_;simp -dsimp only[aw,jV,jW,jX,jY,jZ,jA,reduceIte,reduceCtorEq,jB,jC,jD,jE,jF,jG];refine dG (hA _ _) ?_;have hm:bs (iJ 5)=AC 1:=rfl;rw[hm];have f0:aG (aa 33) ts a=false:=hno 0 (by omega);cases hs:aG (AC 1) ts a with
  | true=>
   have hs':aG (aa 126) ts a=true:=hs
   have ha2:a+1≤ts.length:=by
    apply RU;intro h;rw[iN (by omega)]at hs;cases hs
   obtain⟨σ2,hs2⟩:∃x,x=σ.set i (pb ts (a+1)):=⟨_,rfl⟩
   have hl2:σ2.length=σ.length:=by rw[hs2,RW]
   have hb2:aj σ2.length σ2=true:=by rw[hl2,hs2];exact cW hb i ts _
   have hi2:σ2[i]? = some (pb ts (a+1)):=by rw[hs2,RZ (by omega)]
   have hall:∀X:List V,σ2.set i X=σ.set i X:=fun X=>by rw[hs2,R5]
   rw[if_pos rfl,aR hi,<-hs2];rw[<-hl2];simp -dsimp only[aw,jV,jW,jX,jY,jZ,jA,reduceIte,reduceCtorEq,jB,jC,jD,jE,jF,jG];refine aW (hU (a+1) (by omega) ha2 _ (au hi2 _)) fun o σ' hq=>?_;simp only[f0,hs',if_true,if_false,RS]at hpar;rw[hpar];cases hx:par .U (ts.drop (a+1))with
   | out=>exact absurd hx (eV _ _)
   | bad c r=>
    rw[hx]at hq;obtain⟨rfl,b,rfl⟩:=hq;rw[aR hi2];simp -dsimp only[aw,jV,jW,jX,jY,jZ,jA,reduceIte,reduceCtorEq,jB,jC,jD,jE,jF,jG,bE];exact ft (τ:=σ2.set i (pb ts b)) (cW hb2 i ts b) (fo _ _ _) rfl ⟨rfl,b,hall _⟩
   | ok e r=>
    rw[hx]at hq;obtain⟨rfl,rfl⟩:=hq;obtain⟨σ3,hs3⟩:∃x,x=σ2.set i (pb ts (ts.length-r.length)):=⟨_,rfl⟩
    have hl3:σ3.length=σ2.length:=by rw[hs3,RW]
    have hb3:aj σ3.length σ3=true:=by rw[hl3,hs3];exact cW hb2 i ts _
    have hN:=fe 5 [e];have hQ:PQ ts i σ ((PR.ok e r).bind fun a r2=>.ok (aZ 5 [a]) r2) (.ret (vex (aZ 5 [e]))) σ3:=⟨rfl,by rw[hs3];exact hall _⟩
    rw[aR hi2,<-hs3];rw[<-hl3];simp -dsimp only[aw,jV,jW,jX,jY,jZ,jA,reduceIte,reduceCtorEq,jB,jC,jD,jE,jF,jG,bg,al];refine ac (by simpa only[R0,R6,bq]using hN _) ?_;simp -dsimp only[aw,jV,jW,jX,jY,jZ,jA,reduceIte,reduceCtorEq,jB,jC,jD,jE,jF,jG,al,aZ,bL,be,aJ,aK];exact bP (τ:=σ3) hb3 (v:=vex (aZ 5 [e])) (by rw[al];simp[wz,aU,bu,aZ,bL,be,aJ,aK,bq,aw,jV,jW,jX,jY,jZ,jA,reduceIte,reduceCtorEq,jB,jC,jD,jE,jF,jG]) (by rw[al];rfl) RY hQ
  | false=>
   simp -dsimp only[aw,jV,jW,jX,jY,jZ,jA,reduceIte,reduceCtorEq,jB,jC,jD,jE,jF,jG,RS,if_false,aX (show -9223372036854775808≤((1:Nat):Int)+1 by omega) (show((1:Nat):Int)+1≤9223372036854775807 by omega)]
   exact Nxt.to (σ++[[.d (ab 0),.d (ab 0),.d (ae ⟨#[]⟩),.nil]]) [] (by simp) (by simp) (av hb rfl) (by simp[am,V.under];try omega) ⟨rfl,rfl,fun q hq=>by
    by_cases e:q=1
    .subst e;exact hs
    .exact hno q (by omega)⟩
 .
  have e0:iaV 1 (V.d (.sl [[ab 4],[ab 5],[ab 6]])) (aI .i64 ((2:Nat):Int))=some (.row [ab 6] 0):=rfl;have hc:decide (((2:Nat):Int)<3)=true:=rfl;simp -dsimp only[aw,jV,jW,jX,jY,jZ,jA,reduceIte,reduceCtorEq,jB,jC,jD,jE,jF,jG,e0,hc];refine ac (cU 6 _) ?_;simp -dsimp only[aw,jV,jW,jX,jY,jZ,jA,reduceIte,reduceCtorEq,jB,jC,jD,jE,jF,jG];refine dG (hA _ _) ?_;have hm:bs (iJ 6)=AC 2:=rfl;rw[hm];have f0:aG (aa 33) ts a=false:=hno 0 (by omega);have f1:aG (aa 126) ts a=false:=hno 1 (by omega);cases hs:aG (AC 2) ts a with
  | true=>
   have hs':aG (aa 45) ts a=true:=hs
   have ha2:a+1≤ts.length:=by
    apply RU;intro h;rw[iN (by omega)]at hs;cases hs
   obtain⟨σ2,hs2⟩:∃x,x=σ.set i (pb ts (a+1)):=⟨_,rfl⟩
   have hl2:σ2.length=σ.length:=by rw[hs2,RW]
   have hb2:aj σ2.length σ2=true:=by rw[hl2,hs2];exact cW hb i ts _
   have hi2:σ2[i]? = some (pb ts (a+1)):=by rw[hs2,RZ (by omega)]
   have hall:∀X:List V,σ2.set i X=σ.set i X:=fun X=>by rw[hs2,R5]
   rw[if_pos rfl,aR hi,<-hs2];rw[<-hl2];simp -dsimp only[aw,jV,jW,jX,jY,jZ,jA,reduceIte,reduceCtorEq,jB,jC,jD,jE,jF,jG];refine aW (hU (a+1) (by omega) ha2 _ (au hi2 _)) fun o σ' hq=>?_;simp only[f0,f1,hs',if_true,if_false,RS]at hpar;rw[hpar];cases hx:par .U (ts.drop (a+1))with
   | out=>exact absurd hx (eV _ _)
   | bad c r=>
    rw[hx]at hq;obtain⟨rfl,b,rfl⟩:=hq;rw[aR hi2];simp -dsimp only[aw,jV,jW,jX,jY,jZ,jA,reduceIte,reduceCtorEq,jB,jC,jD,jE,jF,jG,bE];exact ft (τ:=σ2.set i (pb ts b)) (cW hb2 i ts b) (fo _ _ _) rfl ⟨rfl,b,hall _⟩
   | ok e r=>
    rw[hx]at hq;obtain⟨rfl,rfl⟩:=hq;obtain⟨σ3,hs3⟩:∃x,x=σ2.set i (pb ts (ts.length-r.length)):=⟨_,rfl⟩
    have hl3:σ3.length=σ2.length:=by rw[hs3,RW]
    have hb3:aj σ3.length σ3=true:=by rw[hl3,hs3];exact cW hb2 i ts _
    have hN:=fe 6 [e];have hQ:PQ ts i σ ((PR.ok e r).bind fun a r2=>.ok (aZ 6 [a]) r2) (.ret (vex (aZ 6 [e]))) σ3:=⟨rfl,by rw[hs3];exact hall _⟩
    rw[aR hi2,<-hs3];rw[<-hl3];simp -dsimp only[aw,jV,jW,jX,jY,jZ,jA,reduceIte,reduceCtorEq,jB,jC,jD,jE,jF,jG,bg,al];refine ac (by simpa only[R0,R6,bq]using hN _) ?_;simp -dsimp only[aw,jV,jW,jX,jY,jZ,jA,reduceIte,reduceCtorEq,jB,jC,jD,jE,jF,jG,al,aZ,bL,be,aJ,aK];exact bP (τ:=σ3) hb3 (v:=vex (aZ 6 [e])) (by rw[al];simp[wz,aU,bu,aZ,bL,be,aJ,aK,bq,aw,jV,jW,jX,jY,jZ,jA,reduceIte,reduceCtorEq,jB,jC,jD,jE,jF,jG]) (by rw[al];rfl) RY hQ
  | false=>
   simp -dsimp only[aw,jV,jW,jX,jY,jZ,jA,reduceIte,reduceCtorEq,jB,jC,jD,jE,jF,jG,RS,if_false,aX (show -9223372036854775808≤((2:Nat):Int)+1 by omega) (show((2:Nat):Int)+1≤9223372036854775807 by omega)]
   exact Nxt.to (σ++[[.d (ab 0),.d (ab 0),.d (ae ⟨#[]⟩),.nil]]) [] (by simp) (by simp) (av hb rfl) (by simp[am,V.under];try omega) ⟨rfl,rfl,fun q hq=>by
    by_cases e:q=2
    .subst e;exact hs
    .exact hno q (by omega)⟩
 .have f0:aG (aa 33) ts a=false:=hno 0 (by omega);have f1:aG (aa 126) ts a=false:=hno 1 (by omega);have f2:aG (aa 45) ts a=false:=hno 2 (by omega);have hc:decide (((3:Nat):Int)<3)=false:=rfl;simp only[f0,f1,f2,if_false,RS]at hpar;rw[hpar];simp -dsimp only[aw,jV,jW,jX,jY,jZ,jA,reduceIte,reduceCtorEq,jB,jC,jD,jE,jF,jG,hc];refine aW (hP' _) fun o σ' hq=>?_;cases hx:par .P (ts.drop a)with
  | out=>exact absurd hx (eV _ _)
  | bad c r=>
   rw[hx]at hq;obtain⟨rfl,b,rfl⟩:=hq;rw[aR hi];simp -dsimp only[aw,jV,jW,jX,jY,jZ,jA,reduceIte,reduceCtorEq,jB,jC,jD,jE,jF,jG,bE];exact ft (τ:=σ.set i (pb ts b)) (cW hb i ts b) (fo _ _ _) rfl ⟨rfl,b,rfl⟩
  | ok e r=>
   rw[hx]at hq;obtain⟨rfl,rfl⟩:=hq;obtain⟨σ3,hs3⟩:∃x,x=σ.set i (pb ts (ts.length-r.length)):=⟨_,rfl⟩
   have hl3:σ3.length=σ.length:=by rw[hs3,RW]
   have hb3:aj σ3.length σ3=true:=by rw[hl3,hs3];exact cW hb i ts _
   have hQ:PQ ts i σ (PR.ok e r) (.ret (vex e)) σ3:=⟨rfl,hs3⟩
   rw[aR hi,<-hs3];rw[<-hl3];simp -dsimp only[aw,jV,jW,jX,jY,jZ,jA,reduceIte,reduceCtorEq,jB,jC,jD,jE,jF,jG,bg,al];exact bP (τ:=σ3) hb3 (v:=vex e) (by rw[al];simp[wz,aU,bu,aw,jV,jW,jX,jY,jZ,jA,reduceIte,reduceCtorEq,jB,jC,jD,jE,jF,jG]) (by rw[al];rfl) RY hQ
structure St(σ0:LLV)(i:Nat)(ts:List Tok)(a:Nat)(σ:LLV):Prop where
 eq:σ=σ0.set i (pb ts a)
 below:aj σ0.length σ0=true
 lt:i<σ0.length
structure TsOK(ts:List Tok):Prop where
 size:∀t,t∈ts->t.text.size≤1000
 len:ts.length≤1000000
section
variable {σ0 σ : LLV} {i : Nat} {ts : List Tok} {a : Nat}
theorem St.init(hi:σ[i]? = some (pb ts a))(hb:aj σ.length σ=true):St σ i ts a σ:=⟨(Le hi).symm,hb,(List.getElem?_eq_some_iff.1 hi).1⟩
theorem St.len(S:St σ0 i ts a σ):σ.length=σ0.length:=by rw[S.eq,RW]
theorem St.at_(S:St σ0 i ts a σ):σ[i]? = some (pb ts a):=by rw[S.eq,RZ S.lt]
theorem St.bb(S:St σ0 i ts a σ):aj σ.length σ=true:=by rw[S.len,S.eq];exact cW S.below i ts a
theorem St.step(S:St σ0 i ts a σ)(b:Nat):St σ0 i ts b (σ.set i (pb ts b)):=⟨by rw[S.eq,R5],S.below,S.lt⟩
theorem St.slen(S:St σ0 i ts a σ)(X:List V):(σ.set i X).length=σ.length:=RW
variable (H : TsOK ts) {l : LLV} {K P : V -> LLV -> Prop} {s : Tag K} {t : Tag P}
include H
theorem dX{m:ByteArray}(S:St σ0 i ts a σ)(ha:a≤ts.length)(ht:aG m ts a=true->a+1≤ts.length->∀σ',St σ0 i ts (a+1) σ'->σ'.length=σ.length->K (an true) (σ'++l))(hf:aG m ts a=false->K (an false) (σ++l)):
 jN G 240 [.ptr i 0,.d (ae m)] (σ++l) K P s t:=by
 refine aW (ko m ts a i H.size H.len ha (σ++l) (au S.at_ l)) fun o σ' ⟨e1,e2⟩=>?_;subst e1;rw[bg];cases hs:aG m ts a with
 | true=>
  rw[hs,if_pos rfl,aR S.at_]at e2;subst e2
  exact ht hs (by
   apply RU;intro h;rw[iN (by omega)]at hs;cases hs) _ (S.step _) (S.slen _)
 | false=>
  rw[hs,if_neg (by decide)]at e2;subst e2;exact hf hs
theorem fA{m:ByteArray}(S:St σ0 i ts a σ)(ha:a≤ts.length)(ht:aG m ts a=true->a+1≤ts.length->∀σ',St σ0 i ts (a+1) σ'->σ'.length=σ.length->K (.tup []) (σ'++l))(hf:aG m ts a=false->P (eT (ni ts a) a) (σ++l)):
 jN G 241 [.ptr i 0,.d (ae m)] (σ++l) K P s t:=by
 refine aW (yH m ts a i H.size H.len ha (σ++l) (au S.at_ l)) fun o σ' hq=>?_;cases hs:aG m ts a with
 | true=>
  rw[hs,if_pos rfl,aR S.at_]at hq;obtain⟨rfl,rfl⟩:=hq;rw[bg]
  exact ht hs (by
   apply RU;intro h;rw[iN (by omega)]at hs;cases hs) _ (S.step _) (S.slen _)
 | false=>
  rw[hs,if_neg (by decide)]at hq;obtain⟨rfl,rfl⟩:=hq;rw[bE];exact hf hs
theorem Hx{s:ByteArray}{r1:List Tok}(h:bA (ts.drop a)=some (s,r1)):r1=ts.drop (a+1)/\a+1≤ts.length:=by
 by_cases hla:a<ts.length
 .rw[sP hla]at h;split at h
  .cases h;exact⟨rfl,hla⟩
  .cases h
 .rw[RX (by omega)]at h;cases h
theorem Ke{n:Int}{r1:List Tok}(h:ch (ts.drop a)=some (n,r1)):r1=ts.drop (a+1)/\a+1≤ts.length:=by
 by_cases hla:a<ts.length
 .rw[qx hla]at h;split at h
  .cases h;exact⟨rfl,hla⟩
  .cases h
 .rw[RX (by omega)]at h;cases h
theorem Fl(S:St σ0 i ts a σ)(ha:a≤ts.length)(ht:∀s,bA (ts.drop a)=some (s,ts.drop (a+1))->a+1≤ts.length->∀σ',St σ0 i ts (a+1) σ'->σ'.length=σ.length->K (.d (ae s)) (σ'++l))(hf:bA (ts.drop a)=none->P (eT (ni ts a) a) (σ++l)):
 jN G 253 [.ptr i 0] (σ++l) K P s t:=by
 refine aW (DF ts a i H.size H.len ha (σ++l) (au S.at_ l)) fun o σ' hq=>?_;cases hs:bA (ts.drop a)with
 | some p=>
  obtain⟨s,r1⟩:=p;obtain⟨rfl,h1⟩:=Hx H hs;rw[hs]at hq;simp only[aR S.at_]at hq;obtain⟨rfl,rfl⟩:=hq;rw[bg];exact ht s hs h1 _ (S.step _) (S.slen _)
 | none=>
  rw[hs]at hq;obtain⟨rfl,rfl⟩:=hq;rw[bE];exact hf hs
theorem BR(S:St σ0 i ts a σ)(ha:a≤ts.length)(ht:∀n,ch (ts.drop a)=some (n,ts.drop (a+1))->¬65535<n->a+1≤ts.length->∀σ',St σ0 i ts (a+1) σ'->σ'.length=σ.length->K (.d (ab n)) (σ'++l))(hb:∀n,ch (ts.drop a)=some (n,ts.drop (a+1))->65535<n->P (eT 3 a) (σ++l))(hf:ch (ts.drop a)=none->P (eT (ni ts a) a) (σ++l)):
 jN G 252 [.ptr i 0] (σ++l) K P s t:=by
 refine aW (xA ts a i H.size H.len ha (σ++l) (au S.at_ l)) fun o σ' hq=>?_;cases hs:ch (ts.drop a)with
 | some p=>
  obtain⟨n,r1⟩:=p;obtain⟨rfl,h1⟩:=Ke H hs;rw[hs]at hq;simp only[aR S.at_]at hq;by_cases hbig:65535<n
  .rw[if_pos hbig]at hq;obtain⟨rfl,rfl⟩:=hq;rw[bE];exact hb n hs hbig
  .rw[if_neg hbig]at hq;obtain⟨rfl,rfl⟩:=hq;rw[bg];exact ht n hs hbig h1 _ (S.step _) (S.slen _)
 | none=>
  rw[hs]at hq;obtain⟨rfl,rfl⟩:=hq;rw[bE];exact hf hs
theorem Gm{k:PK}(S:St σ0 i ts a σ)(ha:a≤ts.length){o:Out}{σ':LLV}(hq:PQ ts i (σ++l) (par k (ts.drop a)) o σ'):
 (∃e a2,par k (ts.drop a)=.ok e (ts.drop a2)/\a≤a2/\a2≤ts.length/\(k.eats=true->a<a2)/\o=.ret (vex e)/\∃σ1,σ'=σ1++l/\St σ0 i ts a2 σ1/\σ1.length=σ.length)\/
 (∃c r b,par k (ts.drop a)=.bad c r/\o=.panic (eT c (ts.length-r.length))/\∃σ1,σ'=σ1++l/\St σ0 i ts b σ1/\σ1.length=σ.length):=by
 cases hx:par k (ts.drop a)with
 | out=>exact absurd hx (eV _ _)
 | bad c r=>
  rw[hx]at hq;obtain⟨rfl,b,rfl⟩:=hq;exact .inr ⟨c,r,b,rfl,rfl,_,aR S.at_ l _,S.step b,S.slen _⟩
 | ok e r=>
  rw[hx]at hq;obtain⟨rfl,rfl⟩:=hq;obtain⟨h1,h2,h3,h4⟩:=FX ha hx;exact .inl ⟨e,ts.length-r.length,by rw[<-h1],h2,h3,h4,rfl,_,aR S.at_ l _,S.step _,S.slen _⟩
theorem jv{f:FuncId}{args:List V}{k:PK}(S:St σ0 i ts a σ)(ha:a≤ts.length)(h:Fun G f args (σ++l) (PQ ts i (σ++l) (par k (ts.drop a))))
 (ht:∀e a2,par k (ts.drop a)=.ok e (ts.drop a2)->a≤a2->a2≤ts.length->(k.eats=true->a<a2)->∀σ',St σ0 i ts a2 σ'->σ'.length=σ.length->K (vex e) (σ'++l))(hf:∀c r b,par k (ts.drop a)=.bad c r->∀σ',St σ0 i ts b σ'->σ'.length=σ.length->P (eT c (ts.length-r.length)) (σ'++l)):jN G f args (σ++l) K P s t:=by
 refine aW h fun o σ' hq=>?_;rcases Gm H S ha hq with⟨e,a2,h1,h2,h3,h4,rfl,σ1,rfl,h5,h6⟩|⟨c,r,b,h1,rfl,σ1,rfl,h5,h6⟩
 .rw[bg];exact ht e a2 h1 h2 h3 h4 σ1 h5 h6
 .rw[bE];exact hf c r b h1 σ1 h5 h6
theorem Fx{f:FuncId}{args:List V}{k:PK}{R:LLV->Prop}{pn:Unit->Prop}{tR:Tag R}{tp:Tag pn}(S:St σ0 i ts a σ)(ha:a≤ts.length)(h:Fun G f args (σ++l) (PQ ts i (σ++l) (par k (ts.drop a))))
 (ht:∀e a2,par k (ts.drop a)=.ok e (ts.drop a2)->a≤a2->a2≤ts.length->(k.eats=true->a<a2)->∀σ',St σ0 i ts a2 σ'->σ'.length=σ.length->R (σ'++l)/\K (vex e) (σ'++l))(hf:∀c r b,par k (ts.drop a)=.bad c r->∀σ',St σ0 i ts b σ'->σ'.length=σ.length->P (eT c (ts.length-r.length)) (σ'++l))(hp:(∃c r,par k (ts.drop a)=.bad c r)->pn ()):yO G f args (σ++l) R K P pn tR s t tp:=by
 cases hx:par k (ts.drop a)with
 | out=>exact absurd hx (eV _ _)
 | bad c r=>
  rw[hx]at h;refine ry (h.mono fun o σ' hq=>?_) (hp ⟨c,r,hx⟩);obtain⟨rfl,b,rfl⟩:=hq;rw[aR S.at_];exact⟨_,rfl,hf c r b hx _ (S.step b) (S.slen _)⟩
 | ok e r=>
  obtain⟨h1,h2,h3,h4⟩:=FX ha hx;obtain⟨k1,k2⟩:=ht e _ (by rw[<-h1];exact hx) h2 h3 h4 _ (S.step (ts.length-r.length)) (S.slen _);rw[hx]at h;refine rp (σ1:=σ.set i (pb ts (ts.length-r.length))++l) (v:=vex e) (h.mono fun o σ' hq=>?_) k1 k2;obtain⟨rfl,rfl⟩:=hq;exact⟨rfl,aR S.at_ l _⟩
omit H
theorem dM{rs:List RV}{ρ:ah}{x:PR}{e:Ex}(S:St σ0 i ts a σ)(ha:a≤ts.length)(hx:x=.ok e (ts.drop a))(h:aU (σ++l) ρ rs=some (vex e)):fin σ.length rs (PQ ts i σ0 x) .ret ρ (σ++l):=by
 subst hx;exact bP (τ:=σ) S.bb h (by rw[al];rfl) RY ⟨rfl,by rw[j7 ts a ha];exact S.eq⟩
theorem dD{rs:List RV}{ρ:ah}{x:PR}{c:Int}{r:List Tok}{n:Nat}(S:St σ0 i ts a σ)(hx:x=.bad c r)(hn:n=ts.length-r.length):fin σ.length rs (PQ ts i σ0 x) (.panic (eT c n)) ρ (σ++l):=by
 subst hx;subst hn;exact ft (τ:=σ) S.bb RY rfl ⟨rfl,a,S.eq⟩
theorem eo{rs:List RV}{ρ:ah}{x:PR}(S:St σ0 i ts a σ)(ha:a≤ts.length)(hx:x=eX (ts.drop a)):fin σ.length rs (PQ ts i σ0 x) (.panic (eT (ni ts a) a)) ρ (σ++l):=
 dD (r:=ts.drop a) S (by rw[hx,B7 ts a ha]) (j7 ts a ha).symm
end
end Go.Proofs.YthekkgfmagliiaaGreatDoor
namespace Go.Proofs.YthekkgfmagliiaaGreatDoor
open Go.RowKit
open Nat renaming reduceLeDiff -> jA, reduceBEq -> jB, reduceLT -> jC, reduceEqDiff -> jD, reduceAdd -> jE, reduceSub -> jF, reduceMul -> jG
open V renaming copy -> jV, lend -> jW, lend1 -> jX, cells -> jY, boxable -> jZ
theorem FY(ts:List Tok)(a:Nat):∃(kd nm:Int) (tx:ByteArray) (ln:Int) (ok:Bool),f9 ts a=.tup [.agg [.d (ab kd),.d (ab nm),.d (ae tx),.d (ab ln)],an ok]/\((ok=true/\kd=3/\∃n,ch (ts.drop a)=some (n,ts.drop (a+1)))\/(ch (ts.drop a)=none/\(ok=false\/ok=true/\kd≠3))):=by
 unfold f9;by_cases hla:a<ts.length
 .rw[List.getElem?_eq_getElem hla,qx hla];simp only;by_cases hv:bC ts[a]=true
  .rw[if_pos hv];refine⟨_,_,_,_,_,rfl,?_⟩;by_cases hk:ts[a].kind=3
   .exact .inl ⟨rfl,hk,_,if_pos ⟨hv,hk⟩⟩
   .exact .inr ⟨if_neg (fun h=>hk h.2),.inr ⟨rfl,hk⟩⟩
  .rw[if_neg hv];exact⟨_,_,_,_,_,rfl,.inr ⟨if_neg (fun h=>hv h.1),.inl rfl⟩⟩
 .rw[List.getElem?_eq_none (by omega),RX (by omega)];exact⟨_,_,_,_,_,rfl,.inr ⟨rfl,.inl rfl⟩⟩
theorem m9{ts:List Tok}{a:Nat}(H:TsOK ts){s:ByteArray}{r:List Tok}(h:bA (ts.drop a)=some (s,r)):s.size≤1000:=by
 by_cases hla:a<ts.length
 .rw[sP hla]at h;split at h
  .cases h;exact H.size _ (List.getElem_mem hla)
  .cases h
 .rw[RX (by omega)]at h;cases h
theorem ri{ts:List Tok}{a:Nat}(H:TsOK ts){n:Int}{r:List Tok}(h:ch (ts.drop a)=some (n,r))(hn:¬65535<n):0≤n/\(Lib.decDigits n.toNat).length≤5:=by
 by_cases hla:a<ts.length
 .rw[qx hla]at h;split at h
  .rename_i hv;cases h;have:=hv.1;unfold bC at this;rw[if_pos hv.2]at this;simp only[Bool.and_eq_true,decide_eq_true_eq]at this;exact⟨this.1.1,nr _ (by omega)⟩
  .cases h
 .rw[RX (by omega)]at h;cases h
theorem ve(x:Bs)(n:Int):oC (bs x) n=bs (x++91::(Lib.decDigits n.toNat++[93])):=by
 unfold oC;rw[show aa 91=bs [91]from rfl,show aa 93=bs [93]from rfl,show uT n=bs (Lib.decDigits n.toNat)from rfl,lW,lW,lW];simp
theorem wE(ts:List Tok)(a i:Nat)(H:TsOK ts)(ha:a≤ts.length)
 (hW:∀b,a<b->b≤ts.length->∀σ:LLV,σ[i]? = some (pb ts b)->Fun G 237 [.ptr i 0] σ (PQ ts i σ (par .W (ts.drop b))))
 (σ:LLV)(hi:σ[i]? = some (pb ts a)):Fun G 250 [.ptr i 0] σ (PQ ts i σ (par .P (ts.drop a))):=by
 refine ai Tryz.func250 RQ rfl fun hb hw=>?_;have S:=St.init hi hb;have hpar:par .P (ts.drop a)=eC par (ts.drop a):=cT .P (ts.drop a);unfold eC at hpar;rw[bS]at hpar;unfold Mz;simp -dsimp only[aw,jV,jW,jX,jY,jZ,jA,reduceIte,reduceCtorEq,jB,jC,jD,jE,jF,jG];refine dX H (m:=aa 40) S ha (fun hs ha1 σ1 S1 hl1=>?_) (fun hs=>?_)
 .rw[hs,if_pos rfl]at hpar;simp only at hpar;rw[<-hl1];simp -dsimp only[aw,jV,jW,jX,jY,jZ,jA,reduceIte,reduceCtorEq,jB,jC,jD,jE,jF,jG];refine jv H S1 ha1 (hW _ (by omega) ha1 _ (au S1.at_ _)) (fun e a2 hx h1 h2 h3 σ2 S2 hl2=>?_) (fun c r b hx σ2 S2 hl2=>?_)
  .rw[hx,PR.bind,bS]at hpar;rw[<-hl2];simp -dsimp only[aw,jV,jW,jX,jY,jZ,jA,reduceIte,reduceCtorEq,jB,jC,jD,jE,jF,jG,al];refine fA H (m:=aa 41) S2 h2 (fun hs3 ha3 σ3 S3 hl3=>?_) (fun hs3=>?_)
   .rw[hs3,if_pos rfl]at hpar;rw[<-hl3];simp -dsimp only[aw,jV,jW,jX,jY,jZ,jA,reduceIte,reduceCtorEq,jB,jC,jD,jE,jF,jG];exact dM S3 ha3 hpar (by rw[al];simp[jq,aU,bu,aw,jV,jW,jX,jY,jZ,jA,reduceIte,reduceCtorEq,jB,jC,jD,jE,jF,jG])
   .rw[hs3,if_neg (by decide)]at hpar;simp -dsimp only[aw,jV,jW,jX,jY,jZ,jA,reduceIte,reduceCtorEq,jB,jC,jD,jE,jF,jG];exact eo S2 h2 hpar
  .rw[hx,PR.bind]at hpar;rw[<-hl2];simp -dsimp only[aw,jV,jW,jX,jY,jZ,jA,reduceIte,reduceCtorEq,jB,jC,jD,jE,jF,jG];exact dD S2 hpar rfl
 rw[hs,if_neg (by decide)]at hpar;simp only at hpar;simp -dsimp only[aw,jV,jW,jX,jY,jZ,jA,reduceIte,reduceCtorEq,jB,jC,jD,jE,jF,jG];refine ac (nx ts a i H.size ha _ (au hi _)) ?_;obtain⟨kd,nm,tx,ln,ok,hnv,hcase⟩:=FY ts a;rw[hnv];rcases hcase with⟨rfl,rfl,n,hnum⟩|⟨hnum,hok⟩
 .rw[hnum]at hpar;simp only at hpar;simp -dsimp only[aw,jV,jW,jX,jY,jZ,jA,reduceIte,reduceCtorEq,jB,jC,jD,jE,jF,jG,Int.reduceEq,decide_true];refine BR H S ha (fun n' hn hle ha1 σ1 S1 hl1=>?_) (fun n' hn hbig=>?_) (fun hn=>by rw[hnum]at hn;cases hn)
  .rw[hnum]at hn;cases hn;rw[if_neg hle]at hpar;rw[<-hl1];simp -dsimp only[aw,jV,jW,jX,jY,jZ,jA,reduceIte,reduceCtorEq,jB,jC,jD,jE,jF,jG];exact dM S1 ha1 hpar (by rw[al];simp[jq,aU,bu,bL,be,aJ,aK,aw,jV,jW,jX,jY,jZ,jA,reduceIte,reduceCtorEq,jB,jC,jD,jE,jF,jG])
  .rw[hnum]at hn;cases hn;rw[if_pos hbig]at hpar;simp -dsimp only[aw,jV,jW,jX,jY,jZ,jA,reduceIte,reduceCtorEq,jB,jC,jD,jE,jF,jG];exact dD S hpar (j7 ts a ha).symm
 rw[hnum]at hpar;simp only at hpar;rcases hok with rfl|⟨rfl,hk⟩
 case' inl=>simp -dsimp only[aw,jV,jW,jX,jY,jZ,jA,reduceIte,reduceCtorEq,jB,jC,jD,jE,jF,jG]
 case' inr=>simp -dsimp only[aw,jV,jW,jX,jY,jZ,jA,reduceIte,reduceCtorEq,jB,jC,jD,jE,jF,jG,decide_eq_false hk]
 all_goals
  refine Fl H S ha (fun s hs1 ha1 σ1 S1 hl1=>?_) (fun hs1=>?_)
  case refine_2=>
   rw[hs1]at hpar;simp -dsimp only[aw,jV,jW,jX,jY,jZ,jA,reduceIte,reduceCtorEq,jB,jC,jD,jE,jF,jG];exact eo S ha hpar
  rw[hs1]at hpar;simp only at hpar;rw[<-hl1];by_cases hsum:s=kg
  .have hd:decide (s=(⟨#[115,117,109]⟩:ByteArray))=true:=decide_eq_true hsum;have hones:¬s=fV:=by rw[hsum];decide
   have hd2:decide (s=(⟨#[111,110,101,115]⟩:ByteArray))=false:=decide_eq_false hones;rw[if_pos hsum,bS]at hpar;simp -dsimp only[aw,jV,jW,jX,jY,jZ,jA,reduceIte,reduceCtorEq,jB,jC,jD,jE,jF,jG,hd];refine dX H (m:=aa 40) S1 ha1 (fun h40 ha2 σ2 S2 hl2=>?_) (fun h40=>?_)
   .rw[h40,if_pos rfl]at hpar;simp only at hpar;rw[<-hl2];simp -dsimp only[aw,jV,jW,jX,jY,jZ,jA,reduceIte,reduceCtorEq,jB,jC,jD,jE,jF,jG];refine Fl H S2 ha2 (fun s2 hs2 ha3 σ3 S3 hl3=>?_) (fun hs2=>?_)
    .rw[hs2]at hpar;simp only[bS]at hpar;rw[<-hl3];simp -dsimp only[aw,jV,jW,jX,jY,jZ,jA,reduceIte,reduceCtorEq,jB,jC,jD,jE,jF,jG];refine fA H (m:=aa 41) S3 ha3 (fun hs3 ha4 σ4 S4 hl4=>?_) (fun hs3=>?_)
     .rw[hs3,if_pos rfl]at hpar;rw[<-hl4];simp -dsimp only[aw,jV,jW,jX,jY,jZ,jA,reduceIte,reduceCtorEq,jB,jC,jD,jE,jF,jG];exact dM S4 ha4 hpar (by rw[al];simp[jq,aU,bu,bL,be,aJ,aK,aw,jV,jW,jX,jY,jZ,jA,reduceIte,reduceCtorEq,jB,jC,jD,jE,jF,jG])
     .rw[hs3,if_neg (by decide)]at hpar;simp -dsimp only[aw,jV,jW,jX,jY,jZ,jA,reduceIte,reduceCtorEq,jB,jC,jD,jE,jF,jG];exact eo S3 ha3 hpar
    .rw[hs2]at hpar;simp -dsimp only[aw,jV,jW,jX,jY,jZ,jA,reduceIte,reduceCtorEq,jB,jC,jD,jE,jF,jG];exact eo S2 ha2 hpar
   rw[h40,if_neg (by decide),if_neg hones]at hpar;simp only[bS]at hpar;simp -dsimp only[aw,jV,jW,jX,jY,jZ,jA,reduceIte,reduceCtorEq,jB,jC,jD,jE,jF,jG,hd2];refine dX H (m:=aa 91) S1 ha1 (fun h91 ha2 σ2 S2 hl2=>?_) (fun h91=>?_)
   .rw[h91,if_pos rfl]at hpar;simp only at hpar;rw[<-hl2];simp -dsimp only[aw,jV,jW,jX,jY,jZ,jA,reduceIte,reduceCtorEq,jB,jC,jD,jE,jF,jG];refine jv H S2 ha2 (hW _ (by omega) ha2 _ (au S2.at_ _)) (fun e a3 hx h1 h2 h3 σ3 S3 hl3=>?_) (fun c r b hx σ3 S3 hl3=>?_)
    .rw[hx,PR.bind,bS]at hpar;rw[<-hl3];simp -dsimp only[aw,jV,jW,jX,jY,jZ,jA,reduceIte,reduceCtorEq,jB,jC,jD,jE,jF,jG,al];refine fA H (m:=aa 93) S3 h2 (fun hs3 ha4 σ4 S4 hl4=>?_) (fun hs3=>?_)
     .rw[hs3,if_pos rfl]at hpar;rw[<-hl4];simp -dsimp only[aw,jV,jW,jX,jY,jZ,jA,reduceIte,reduceCtorEq,jB,jC,jD,jE,jF,jG];exact dM S4 ha4 hpar (by rw[al];simp[jq,aU,bu,aZ,bL,be,aJ,aK,bq,aw,jV,jW,jX,jY,jZ,jA,reduceIte,reduceCtorEq,jB,jC,jD,jE,jF,jG])
     .rw[hs3,if_neg (by decide)]at hpar;simp -dsimp only[aw,jV,jW,jX,jY,jZ,jA,reduceIte,reduceCtorEq,jB,jC,jD,jE,jF,jG];exact eo S3 h2 hpar
    .rw[hx,PR.bind]at hpar;rw[<-hl3];simp -dsimp only[aw,jV,jW,jX,jY,jZ,jA,reduceIte,reduceCtorEq,jB,jC,jD,jE,jF,jG];exact dD S3 hpar rfl
   rw[h91,if_neg (by decide)]at hpar;simp only at hpar;simp -dsimp only[aw,jV,jW,jX,jY,jZ,jA,reduceIte,reduceCtorEq,jB,jC,jD,jE,jF,jG];refine dX H (m:=aa 64) S1 ha1 (fun h64 ha2 σ2 S2 hl2=>?_) (fun h64=>?_)
   .rw[h64,if_pos rfl]at hpar;simp only at hpar;rw[<-hl2];have hsz:=m9 H hs1;obtain⟨x,rfl⟩:∃x,s=bs x:=⟨_,(gi s).symm⟩
    rw[bO]at hsz;have a1:aO .add (V.d (ae (bs x))) (V.d (ae ⟨#[91]⟩))=some (V.d (ae (bs (x++[91])))):=bR x [91] (by simp;omega);simp -dsimp only[aw,jV,jW,jX,jY,jZ,jA,reduceIte,reduceCtorEq,jB,jC,jD,jE,jF,jG,a1];refine BR H S2 ha2 (fun n hn hle ha3 σ3 S3 hl3=>?_) (fun n hn hbig=>?_) (fun hn=>?_)
    .obtain⟨h0,h5⟩:=ri H hn hle
     have a2:aO .add (V.d (ae (bs (x++[91])))) (V.d (ae (bs (Lib.decDigits n.toNat))))=some (V.d (ae (bs (x++91::Lib.decDigits n.toNat)))):=by
      rw[show x++91::Lib.decDigits n.toNat=(x++[91])++Lib.decDigits n.toNat by simp];exact bR (x++[91]) _ (by simp;omega)
     have a3:aO .add (V.d (ae (bs (x++91::Lib.decDigits n.toNat)))) (V.d (ae ⟨#[93]⟩))=some (V.d (ae (bs (x++91::(Lib.decDigits n.toNat++[93]))))):=by
      rw[show x++91::(Lib.decDigits n.toNat++[93])=(x++91::Lib.decDigits n.toNat)++[93]by simp];exact bR (x++91::Lib.decDigits n.toNat) [93] (by simp;omega)
     rw[hn]at hpar;simp only at hpar;rw[if_neg hle,ve]at hpar;rw[<-hl3];simp -dsimp only[aw,jV,jW,jX,jY,jZ,jA,reduceIte,reduceCtorEq,jB,jC,jD,jE,jF,jG];refine ac (gR n h0 (by omega) _) ?_;simp -dsimp only[aw,jV,jW,jX,jY,jZ,jA,reduceIte,reduceCtorEq,jB,jC,jD,jE,jF,jG,a2,a3];exact dM S3 ha3 hpar (by rw[al];simp[jq,aU,bu,bL,be,aJ,aK,aw,jV,jW,jX,jY,jZ,jA,reduceIte,reduceCtorEq,jB,jC,jD,jE,jF,jG])
    .rw[hn]at hpar;simp only at hpar;rw[if_pos hbig]at hpar;simp -dsimp only[aw,jV,jW,jX,jY,jZ,jA,reduceIte,reduceCtorEq,jB,jC,jD,jE,jF,jG];exact dD S2 hpar (j7 ts _ ha2).symm
    .rw[hn]at hpar;simp -dsimp only[aw,jV,jW,jX,jY,jZ,jA,reduceIte,reduceCtorEq,jB,jC,jD,jE,jF,jG];exact eo S2 ha2 hpar
   rw[h64,if_neg (by decide)]at hpar;simp only at hpar;simp -dsimp only[aw,jV,jW,jX,jY,jZ,jA,reduceIte,reduceCtorEq,jB,jC,jD,jE,jF,jG];exact dM S1 ha1 hpar (by rw[al];simp[jq,aU,bu,bL,be,aJ,aK,aw,jV,jW,jX,jY,jZ,jA,reduceIte,reduceCtorEq,jB,jC,jD,jE,jF,jG])
  have hd:decide (s=(⟨#[115,117,109]⟩:ByteArray))=false:=decide_eq_false hsum;rw[if_neg hsum]at hpar;simp only at hpar;by_cases hones:s=fV
  .have hd2:decide (s=(⟨#[111,110,101,115]⟩:ByteArray))=true:=decide_eq_true hones;rw[if_pos hones,bS]at hpar;simp -dsimp only[aw,jV,jW,jX,jY,jZ,jA,reduceIte,reduceCtorEq,jB,jC,jD,jE,jF,jG,hd,hd2];refine dX H (m:=aa 40) S1 ha1 (fun h40 ha2 σ2 S2 hl2=>?_) (fun h40=>?_)
   .rw[h40,if_pos rfl]at hpar;simp only at hpar;rw[<-hl2];simp -dsimp only[aw,jV,jW,jX,jY,jZ,jA,reduceIte,reduceCtorEq,jB,jC,jD,jE,jF,jG];refine jv H S2 ha2 (hW _ (by omega) ha2 _ (au S2.at_ _)) (fun e a3 hx h1 h2 h3 σ3 S3 hl3=>?_) (fun c r b hx σ3 S3 hl3=>?_)
    .rw[hx,PR.bind,bS]at hpar;rw[<-hl3];simp -dsimp only[aw,jV,jW,jX,jY,jZ,jA,reduceIte,reduceCtorEq,jB,jC,jD,jE,jF,jG,al];refine fA H (m:=aa 41) S3 h2 (fun hs3 ha4 σ4 S4 hl4=>?_) (fun hs3=>?_)
     .rw[hs3,if_pos rfl]at hpar;rw[<-hl4];have hNd:=fe 25 [e];simp -dsimp only[aw,jV,jW,jX,jY,jZ,jA,reduceIte,reduceCtorEq,jB,jC,jD,jE,jF,jG];refine ac (by simpa only[R0,R6,bq]using hNd _) ?_;simp -dsimp only[aw,jV,jW,jX,jY,jZ,jA,reduceIte,reduceCtorEq,jB,jC,jD,jE,jF,jG,al,aZ,bL,be,aJ,aK];exact dM S4 ha4 hpar (by rw[al];simp[jq,aU,bu,aZ,bL,be,aJ,aK,bq,aw,jV,jW,jX,jY,jZ,jA,reduceIte,reduceCtorEq,jB,jC,jD,jE,jF,jG])
     .rw[hs3,if_neg (by decide)]at hpar;simp -dsimp only[aw,jV,jW,jX,jY,jZ,jA,reduceIte,reduceCtorEq,jB,jC,jD,jE,jF,jG];exact eo S3 h2 hpar
    .rw[hx,PR.bind]at hpar;rw[<-hl3];simp -dsimp only[aw,jV,jW,jX,jY,jZ,jA,reduceIte,reduceCtorEq,jB,jC,jD,jE,jF,jG];exact dD S3 hpar rfl
   rw[h40,if_neg (by decide)]at hpar;simp only[bS]at hpar;simp -dsimp only[aw,jV,jW,jX,jY,jZ,jA,reduceIte,reduceCtorEq,jB,jC,jD,jE,jF,jG];refine dX H (m:=aa 91) S1 ha1 (fun h91 ha2 σ2 S2 hl2=>?_) (fun h91=>?_)
   .rw[h91,if_pos rfl]at hpar;simp only at hpar;rw[<-hl2];simp -dsimp only[aw,jV,jW,jX,jY,jZ,jA,reduceIte,reduceCtorEq,jB,jC,jD,jE,jF,jG];refine jv H S2 ha2 (hW _ (by omega) ha2 _ (au S2.at_ _)) (fun e a3 hx h1 h2 h3 σ3 S3 hl3=>?_) (fun c r b hx σ3 S3 hl3=>?_)
    .rw[hx,PR.bind,bS]at hpar;rw[<-hl3];simp -dsimp only[aw,jV,jW,jX,jY,jZ,jA,reduceIte,reduceCtorEq,jB,jC,jD,jE,jF,jG,al];refine fA H (m:=aa 93) S3 h2 (fun hs3 ha4 σ4 S4 hl4=>?_) (fun hs3=>?_)
     .rw[hs3,if_pos rfl]at hpar;rw[<-hl4];simp -dsimp only[aw,jV,jW,jX,jY,jZ,jA,reduceIte,reduceCtorEq,jB,jC,jD,jE,jF,jG];exact dM S4 ha4 hpar (by rw[al];simp[jq,aU,bu,aZ,bL,be,aJ,aK,bq,aw,jV,jW,jX,jY,jZ,jA,reduceIte,reduceCtorEq,jB,jC,jD,jE,jF,jG])
     .rw[hs3,if_neg (by decide)]at hpar;simp -dsimp only[aw,jV,jW,jX,jY,jZ,jA,reduceIte,reduceCtorEq,jB,jC,jD,jE,jF,jG];exact eo S3 h2 hpar
    .rw[hx,PR.bind]at hpar;rw[<-hl3];simp -dsimp only[aw,jV,jW,jX,jY,jZ,jA,reduceIte,reduceCtorEq,jB,jC,jD,jE,jF,jG];exact dD S3 hpar rfl
   rw[h91,if_neg (by decide)]at hpar;simp only at hpar;simp -dsimp only[aw,jV,jW,jX,jY,jZ,jA,reduceIte,reduceCtorEq,jB,jC,jD,jE,jF,jG];refine dX H (m:=aa 64) S1 ha1 (fun h64 ha2 σ2 S2 hl2=>?_) (fun h64=>?_)
   .rw[h64,if_pos rfl]at hpar;simp only at hpar;rw[<-hl2];have hsz:=m9 H hs1;obtain⟨x,rfl⟩:∃x,s=bs x:=⟨_,(gi s).symm⟩
    rw[bO]at hsz;have a1:aO .add (V.d (ae (bs x))) (V.d (ae ⟨#[91]⟩))=some (V.d (ae (bs (x++[91])))):=bR x [91] (by simp;omega);simp -dsimp only[aw,jV,jW,jX,jY,jZ,jA,reduceIte,reduceCtorEq,jB,jC,jD,jE,jF,jG,a1];refine BR H S2 ha2 (fun n hn hle ha3 σ3 S3 hl3=>?_) (fun n hn hbig=>?_) (fun hn=>?_)
    .obtain⟨h0,h5⟩:=ri H hn hle
     have a2:aO .add (V.d (ae (bs (x++[91])))) (V.d (ae (bs (Lib.decDigits n.toNat))))=some (V.d (ae (bs (x++91::Lib.decDigits n.toNat)))):=by
      rw[show x++91::Lib.decDigits n.toNat=(x++[91])++Lib.decDigits n.toNat by simp];exact bR (x++[91]) _ (by simp;omega)
     have a3:aO .add (V.d (ae (bs (x++91::Lib.decDigits n.toNat)))) (V.d (ae ⟨#[93]⟩))=some (V.d (ae (bs (x++91::(Lib.decDigits n.toNat++[93]))))):=by
      rw[show x++91::(Lib.decDigits n.toNat++[93])=(x++91::Lib.decDigits n.toNat)++[93]by simp];exact bR (x++91::Lib.decDigits n.toNat) [93] (by simp;omega)
     rw[hn]at hpar;simp only at hpar;rw[if_neg hle,ve]at hpar;rw[<-hl3];simp -dsimp only[aw,jV,jW,jX,jY,jZ,jA,reduceIte,reduceCtorEq,jB,jC,jD,jE,jF,jG];refine ac (gR n h0 (by omega) _) ?_;simp -dsimp only[aw,jV,jW,jX,jY,jZ,jA,reduceIte,reduceCtorEq,jB,jC,jD,jE,jF,jG,a2,a3];exact dM S3 ha3 hpar (by rw[al];simp[jq,aU,bu,bL,be,aJ,aK,aw,jV,jW,jX,jY,jZ,jA,reduceIte,reduceCtorEq,jB,jC,jD,jE,jF,jG])
    .rw[hn]at hpar;simp only at hpar;rw[if_pos hbig]at hpar;simp -dsimp only[aw,jV,jW,jX,jY,jZ,jA,reduceIte,reduceCtorEq,jB,jC,jD,jE,jF,jG];exact dD S2 hpar (j7 ts _ ha2).symm
    .rw[hn]at hpar;simp -dsimp only[aw,jV,jW,jX,jY,jZ,jA,reduceIte,reduceCtorEq,jB,jC,jD,jE,jF,jG];exact eo S2 ha2 hpar
   rw[h64,if_neg (by decide)]at hpar;simp only at hpar;simp -dsimp only[aw,jV,jW,jX,jY,jZ,jA,reduceIte,reduceCtorEq,jB,jC,jD,jE,jF,jG];exact dM S1 ha1 hpar (by rw[al];simp[jq,aU,bu,bL,be,aJ,aK,aw,jV,jW,jX,jY,jZ,jA,reduceIte,reduceCtorEq,jB,jC,jD,jE,jF,jG])
  have hd2:decide (s=(⟨#[111,110,101,115]⟩:ByteArray))=false:=decide_eq_false hones;rw[if_neg hones]at hpar;simp only[bS]at hpar;simp -dsimp only[aw,jV,jW,jX,jY,jZ,jA,reduceIte,reduceCtorEq,jB,jC,jD,jE,jF,jG,hd,hd2];refine dX H (m:=aa 91) S1 ha1 (fun h91 ha2 σ2 S2 hl2=>?_) (fun h91=>?_)
  .rw[h91,if_pos rfl]at hpar;simp only at hpar;rw[<-hl2];simp -dsimp only[aw,jV,jW,jX,jY,jZ,jA,reduceIte,reduceCtorEq,jB,jC,jD,jE,jF,jG];refine jv H S2 ha2 (hW _ (by omega) ha2 _ (au S2.at_ _)) (fun e a3 hx h1 h2 h3 σ3 S3 hl3=>?_) (fun c r b hx σ3 S3 hl3=>?_)
   .rw[hx,PR.bind,bS]at hpar;rw[<-hl3];simp -dsimp only[aw,jV,jW,jX,jY,jZ,jA,reduceIte,reduceCtorEq,jB,jC,jD,jE,jF,jG,al];refine fA H (m:=aa 93) S3 h2 (fun hs3 ha4 σ4 S4 hl4=>?_) (fun hs3=>?_)
    .rw[hs3,if_pos rfl]at hpar;rw[<-hl4];simp -dsimp only[aw,jV,jW,jX,jY,jZ,jA,reduceIte,reduceCtorEq,jB,jC,jD,jE,jF,jG];exact dM S4 ha4 hpar (by rw[al];simp[jq,aU,bu,aZ,bL,be,aJ,aK,bq,aw,jV,jW,jX,jY,jZ,jA,reduceIte,reduceCtorEq,jB,jC,jD,jE,jF,jG])
    .rw[hs3,if_neg (by decide)]at hpar;simp -dsimp only[aw,jV,jW,jX,jY,jZ,jA,reduceIte,reduceCtorEq,jB,jC,jD,jE,jF,jG];exact eo S3 h2 hpar
   .rw[hx,PR.bind]at hpar;rw[<-hl3];simp -dsimp only[aw,jV,jW,jX,jY,jZ,jA,reduceIte,reduceCtorEq,jB,jC,jD,jE,jF,jG];exact dD S3 hpar rfl
  rw[h91,if_neg (by decide)]at hpar;simp only at hpar;simp -dsimp only[aw,jV,jW,jX,jY,jZ,jA,reduceIte,reduceCtorEq,jB,jC,jD,jE,jF,jG];refine dX H (m:=aa 64) S1 ha1 (fun h64 ha2 σ2 S2 hl2=>?_) (fun h64=>?_)
  .rw[h64,if_pos rfl]at hpar;simp only at hpar;rw[<-hl2];have hsz:=m9 H hs1;obtain⟨x,rfl⟩:∃x,s=bs x:=⟨_,(gi s).symm⟩
   rw[bO]at hsz;have a1:aO .add (V.d (ae (bs x))) (V.d (ae ⟨#[91]⟩))=some (V.d (ae (bs (x++[91])))):=bR x [91] (by simp;omega);simp -dsimp only[aw,jV,jW,jX,jY,jZ,jA,reduceIte,reduceCtorEq,jB,jC,jD,jE,jF,jG,a1];refine BR H S2 ha2 (fun n hn hle ha3 σ3 S3 hl3=>?_) (fun n hn hbig=>?_) (fun hn=>?_)
   .obtain⟨h0,h5⟩:=ri H hn hle
    have a2:aO .add (V.d (ae (bs (x++[91])))) (V.d (ae (bs (Lib.decDigits n.toNat))))=some (V.d (ae (bs (x++91::Lib.decDigits n.toNat)))):=by
     rw[show x++91::Lib.decDigits n.toNat=(x++[91])++Lib.decDigits n.toNat by simp];exact bR (x++[91]) _ (by simp;omega)
    have a3:aO .add (V.d (ae (bs (x++91::Lib.decDigits n.toNat)))) (V.d (ae ⟨#[93]⟩))=some (V.d (ae (bs (x++91::(Lib.decDigits n.toNat++[93]))))):=by
     rw[show x++91::(Lib.decDigits n.toNat++[93])=(x++91::Lib.decDigits n.toNat)++[93]by simp];exact bR (x++91::Lib.decDigits n.toNat) [93] (by simp;omega)
    rw[hn]at hpar;simp only at hpar;rw[if_neg hle,ve]at hpar;rw[<-hl3];simp -dsimp only[aw,jV,jW,jX,jY,jZ,jA,reduceIte,reduceCtorEq,jB,jC,jD,jE,jF,jG];refine ac (gR n h0 (by omega) _) ?_;simp -dsimp only[aw,jV,jW,jX,jY,jZ,jA,reduceIte,reduceCtorEq,jB,jC,jD,jE,jF,jG,a2,a3];exact dM S3 ha3 hpar (by rw[al];simp[jq,aU,bu,bL,be,aJ,aK,aw,jV,jW,jX,jY,jZ,jA,reduceIte,reduceCtorEq,jB,jC,jD,jE,jF,jG])
   .rw[hn]at hpar;simp only at hpar;rw[if_pos hbig]at hpar;simp -dsimp only[aw,jV,jW,jX,jY,jZ,jA,reduceIte,reduceCtorEq,jB,jC,jD,jE,jF,jG];exact dD S2 hpar (j7 ts _ ha2).symm
   .rw[hn]at hpar;simp -dsimp only[aw,jV,jW,jX,jY,jZ,jA,reduceIte,reduceCtorEq,jB,jC,jD,jE,jF,jG];exact eo S2 ha2 hpar
  rw[h64,if_neg (by decide)]at hpar;simp only at hpar;simp -dsimp only[aw,jV,jW,jX,jY,jZ,jA,reduceIte,reduceCtorEq,jB,jC,jD,jE,jF,jG];exact dM S1 ha1 hpar (by rw[al];simp[jq,aU,bu,bL,be,aJ,aK,aw,jV,jW,jX,jY,jZ,jA,reduceIte,reduceCtorEq,jB,jC,jD,jE,jF,jG])
end Go.Proofs.YthekkgfmagliiaaGreatDoor
