import Derived.Test.YtnhphlmblenapaaGreatDoorPm4
set_option linter.unusedVariables false
set_option linter.unusedSimpArgs false
set_option linter.unusedSectionVars false
set_option maxHeartbeats 4000000
open Bool renaming false_eq_true->Pa
open Classical renaming byContradiction->Pb
open List renaming length_set->Pd,drop_eq_nil_of_le->Pe,take_left->Pf,getElem?_set_self->Pg,map_cons->Ph,set_set->Pi,map_nil->Pj
namespace Go.Proofs.YtnhphlmblenapaaGreatDoor
open Go.RowKit
open Nat renaming reduceLeDiff -> jA, reduceBEq -> jB, reduceLT -> jC, reduceEqDiff -> jD, reduceAdd -> jE, reduceSub -> jF, reduceMul -> jG
open V renaming copy -> jV, lend -> jW, lend1 -> jX, cells -> jY, boxable -> jZ
def v8(j:Nat):ByteArray:=if j=0 then ah 33 else if j=1 then ah 126 else ah 45
theorem yK(ts:List Tok)(a i:Nat)(hz:∀t,t∈ts->t.text.size≤1000)(hn:ts.length≤1200000)(ha:a≤ts.length)
 (hP:∀σ:LLV,σ[i]? = some (pb ts a)->Fun G 326 [.ptr i 0] σ (PQ ts i σ (par .P (ts.drop a))))
 (hU:∀b,a<b->b≤ts.length->∀σ:LLV,σ[i]? = some (pb ts b)->Fun G 320 [.ptr i 0] σ (PQ ts i σ (par .U (ts.drop b))))
 (σ:LLV)(hi:σ[i]? = some (pb ts a)):Fun G 320 [.ptr i 0] σ (PQ ts i σ (par .U (ts.drop a))):=by
 have hlt:=(List.getElem?_eq_some_iff.1 hi).1;refine al Tryz.func320 Ns rfl fun hb hw=>?_;unfold J0;have hP':=fun l=>hP (σ++l) (am hi l);have hA:=fun m l=>iZ m ts a i hz hn ha (σ++l) (am hi l);have hpar:=iT .U (ts.drop a);simp only[aX,bA]at hpar;simp -dsimp only[aw,jW,jV,jX,jY,jZ,reduceIte,jA,reduceCtorEq,jB,jC,jD,jE,jF,jG];refine aI [0,2,5,6,7] (R:=fun(j:Nat) ρ σ'=>ρ=[(0,.ptr i 0),(2,.ptr σ.length 0),(5,.d (.sl [[aa 4],[aa 5],[aa 6]])),(6,.d (aa 3)),(7,aC .i64 j)]/\σ'=σ++[[.d (aa 0),.d (aa 0),.d (ae ⟨#[]⟩),.nil]]/\∀q,q<j->bo (v8 q) ts a=false) 3 ⟨rfl,rfl,fun q h=>by omega⟩ ?_ _;rintro j ρ' σ' hj ⟨rfl,rfl,hno⟩;have hj4:j=0\/j=1\/j=2\/j=3:=by omega
 rcases hj4 with rfl|rfl|rfl|rfl
 .
  have e0:iaV 1 (V.d (.sl [[aa 4],[aa 5],[aa 6]])) (aC .i64 ((0:Nat):Int))=some (.row [aa 4] 0):=rfl;have hc:decide (((0:Nat):Int)<3)=true:=rfl;simp -dsimp only[aw,jW,jV,jX,jY,jZ,reduceIte,jA,reduceCtorEq,jB,jC,jD,jE,jF,jG,e0,hc];refine aj (lp 4 _) ?_;simp -dsimp only[aw,jW,jV,jX,jY,jZ,reduceIte,jA,reduceCtorEq,jB,jC,jD,jE,jF,jG];refine cY (hA _ _) ?_;have hm:bs (BG 4)=v8 0:=rfl;rw[hm];cases hs:bo (v8 0) ts a with
  | true=>
   have hs':bo (ah 33) ts a=true:=hs
   have ha2:a+1≤ts.length:=by
    apply Pb;intro h;rw[gx (by omega)]at hs;cases hs
   obtain⟨σ2,hs2⟩:∃x,x=σ.set i (pb ts (a+1)):=⟨_,rfl⟩
   have hl2:σ2.length=σ.length:=by rw[hs2,Pd]
   have hb2:ai σ2.length σ2=true:=by rw[hl2,hs2];exact cG hb i ts _
   have hi2:σ2[i]? = some (pb ts (a+1)):=by rw[hs2,Pg (by omega)]
   have hall:∀X:List V,σ2.set i X=σ.set i X:=fun X=>by rw[hs2,Pi]
   rw[if_pos rfl,bj hi,<-hs2];rw[<-hl2];simp -dsimp only[aw,jW,jV,jX,jY,jZ,reduceIte,jA,reduceCtorEq,jB,jC,jD,jE,jF,jG];refine aE (hU (a+1) (by omega) ha2 _ (am hi2 _)) fun o σ' hq=>?_;simp only[hs',if_true,if_false,Pa]at hpar;rw[hpar];cases hx:par .U (ts.drop (a+1))with
   | out=>exact absurd hx (eR _ _)
   | bad c r=>
    rw[hx]at hq;obtain⟨rfl,b,rfl⟩:=hq;rw[bj hi2];simp -dsimp only[aw,jW,jV,jX,jY,jZ,reduceIte,jA,reduceCtorEq,jB,jC,jD,jE,jF,jG,aS];exact ew (τ:=σ2.set i (pb ts b)) (cG hb2 i ts b) (eu _ _ _) rfl ⟨rfl,b,hall _⟩
   | ok e r=>
    rw[hx]at hq;obtain⟨rfl,rfl⟩:=hq;obtain⟨σ3,hs3⟩:∃x,x=σ2.set i (pb ts (ts.length-r.length)):=⟨_,rfl⟩
    have hl3:σ3.length=σ2.length:=by rw[hs3,Pd]
    have hb3:ai σ3.length σ3=true:=by rw[hl3,hs3];exact cG hb2 i ts _
    have hN:=d8 4 [e];have hQ:PQ ts i σ ((PR.ok e r).bind fun a r2=>.ok (bh 4 [a]) r2) (.ret (vex (bh 4 [e]))) σ3:=⟨rfl,by rw[hs3];exact hall _⟩
    rw[bj hi2,<-hs3];rw[<-hl3];simp -dsimp only[aw,jW,jV,jX,jY,jZ,reduceIte,jA,reduceCtorEq,jB,jC,jD,jE,jF,jG,aZ,au];refine aj (by simpa only[Ph,Pj,bV]using hN _) ?_;simp -dsimp only[aw,jW,jV,jX,jY,jZ,reduceIte,jA,reduceCtorEq,jB,jC,jD,jE,jF,jG,au,bh,ca,bu,aT,aW];exact bv (τ:=σ3) hb3 (v:=vex (bh 4 [e])) (by rw[au];simp[uv,aL,bc,bh,ca,bu,aT,aW,bV,aw,jW,jV,jX,jY,jZ,reduceIte,jA,reduceCtorEq,jB,jC,jD,jE,jF,jG]) (by rw[au];rfl) Pf hQ
  | false=>
   simp -dsimp only[aw,jW,jV,jX,jY,jZ,reduceIte,jA,reduceCtorEq,jB,jC,jD,jE,jF,jG,Pa,if_false,bI (show -9223372036854775808≤((0:Nat):Int)+1 by omega) (show((0:Nat):Int)+1≤9223372036854775807 by omega)]
   exact Nxt.to (σ++[[.d (aa 0),.d (aa 0),.d (ae ⟨#[]⟩),.nil]]) [] (by simp) (by simp) (aq hb rfl) (by simp[an,V.under];try omega) ⟨rfl,rfl,fun q hq=>by
    by_cases e:q=0
    .subst e;exact hs
    .exact hno q (by omega)⟩
 .
  have e0:iaV 1 (V.d (.sl [[aa 4],[aa 5],[aa 6]])) (aC .i64 ((1:Nat):Int))=some (.row [aa 5] 0):=rfl;have hc:decide (((1:Nat):Int)<3)=true:=rfl;simp -dsimp only[aw,jW,jV,jX,jY,jZ,reduceIte,jA,reduceCtorEq,jB,jC,jD,jE,jF,jG,e0,hc];refine aj (lp 5 _) ?_;simp -dsimp only[aw,jW,jV,jX,jY,jZ,reduceIte,jA,reduceCtorEq,jB,jC,jD,jE,jF,jG];refine cY (hA _ _) ?_;have hm:bs (BG 5)=v8 1:=rfl;rw[hm];have f0:bo (ah 33) ts a=false:=hno 0 (by omega);cases hs:bo (v8 1) ts a with
  | true=>
   have hs':bo (ah 126) ts a=true:=hs
   have ha2:a+1≤ts.length:=by
    apply Pb;intro h;rw[gx (by omega)]at hs;cases hs
   obtain⟨σ2,hs2⟩:∃x,x=σ.set i (pb ts (a+1)):=⟨_,rfl⟩
   have hl2:σ2.length=σ.length:=by rw[hs2,Pd]
   have hb2:ai σ2.length σ2=true:=by rw[hl2,hs2];exact cG hb i ts _
   have hi2:σ2[i]? = some (pb ts (a+1)):=by rw[hs2,Pg (by omega)]
   have hall:∀X:List V,σ2.set i X=σ.set i X:=fun X=>by rw[hs2,Pi]
   rw[if_pos rfl,bj hi,<-hs2];rw[<-hl2];simp -dsimp only[aw,jW,jV,jX,jY,jZ,reduceIte,jA,reduceCtorEq,jB,jC,jD,jE,jF,jG];refine aE (hU (a+1) (by omega) ha2 _ (am hi2 _)) fun o σ' hq=>?_;simp only[f0,hs',if_true,if_false,Pa]at hpar;rw[hpar];cases hx:par .U (ts.drop (a+1))with
   | out=>exact absurd hx (eR _ _)
   | bad c r=>
    rw[hx]at hq;obtain⟨rfl,b,rfl⟩:=hq;rw[bj hi2];simp -dsimp only[aw,jW,jV,jX,jY,jZ,reduceIte,jA,reduceCtorEq,jB,jC,jD,jE,jF,jG,aS];exact ew (τ:=σ2.set i (pb ts b)) (cG hb2 i ts b) (eu _ _ _) rfl ⟨rfl,b,hall _⟩
   | ok e r=>
    rw[hx]at hq;obtain⟨rfl,rfl⟩:=hq;obtain⟨σ3,hs3⟩:∃x,x=σ2.set i (pb ts (ts.length-r.length)):=⟨_,rfl⟩
    have hl3:σ3.length=σ2.length:=by rw[hs3,Pd]
    have hb3:ai σ3.length σ3=true:=by rw[hl3,hs3];exact cG hb2 i ts _
    have hN:=d8 5 [e];have hQ:PQ ts i σ ((PR.ok e r).bind fun a r2=>.ok (bh 5 [a]) r2) (.ret (vex (bh 5 [e]))) σ3:=⟨rfl,by rw[hs3];exact hall _⟩
    rw[bj hi2,<-hs3];rw[<-hl3];simp -dsimp only[aw,jW,jV,jX,jY,jZ,reduceIte,jA,reduceCtorEq,jB,jC,jD,jE,jF,jG,aZ,au];refine aj (by simpa only[Ph,Pj,bV]using hN _) ?_;simp -dsimp only[aw,jW,jV,jX,jY,jZ,reduceIte,jA,reduceCtorEq,jB,jC,jD,jE,jF,jG,au,bh,ca,bu,aT,aW];exact bv (τ:=σ3) hb3 (v:=vex (bh 5 [e])) (by rw[au];simp[uv,aL,bc,bh,ca,bu,aT,aW,bV,aw,jW,jV,jX,jY,jZ,reduceIte,jA,reduceCtorEq,jB,jC,jD,jE,jF,jG]) (by rw[au];rfl) Pf hQ
  | false=>
   simp -dsimp only[aw,jW,jV,jX,jY,jZ,reduceIte,jA,reduceCtorEq,jB,jC,jD,jE,jF,jG,Pa,if_false,bI (show -9223372036854775808≤((1:Nat):Int)+1 by omega) (show((1:Nat):Int)+1≤9223372036854775807 by omega)]
   exact Nxt.to (σ++[[.d (aa 0),.d (aa 0),.d (ae ⟨#[]⟩),.nil]]) [] (by simp) (by simp) (aq hb rfl) (by simp[an,V.under];try omega) ⟨rfl,rfl,fun q hq=>by
    by_cases e:q=1
    .subst e;exact hs
    .exact hno q (by omega)⟩
 .
  have e0:iaV 1 (V.d (.sl [[aa 4],[aa 5],[aa 6]])) (aC .i64 ((2:Nat):Int))=some (.row [aa 6] 0):=rfl;have hc:decide (((2:Nat):Int)<3)=true:=rfl;simp -dsimp only[aw,jW,jV,jX,jY,jZ,reduceIte,jA,reduceCtorEq,jB,jC,jD,jE,jF,jG,e0,hc];refine aj (lp 6 _) ?_;simp -dsimp only[aw,jW,jV,jX,jY,jZ,reduceIte,jA,reduceCtorEq,jB,jC,jD,jE,jF,jG];refine cY (hA _ _) ?_;have hm:bs (BG 6)=v8 2:=rfl;rw[hm];have f0:bo (ah 33) ts a=false:=hno 0 (by omega);have f1:bo (ah 126) ts a=false:=hno 1 (by omega);cases hs:bo (v8 2) ts a with
  | true=>
   have hs':bo (ah 45) ts a=true:=hs
   have ha2:a+1≤ts.length:=by
    apply Pb;intro h;rw[gx (by omega)]at hs;cases hs
   obtain⟨σ2,hs2⟩:∃x,x=σ.set i (pb ts (a+1)):=⟨_,rfl⟩
   have hl2:σ2.length=σ.length:=by rw[hs2,Pd]
   have hb2:ai σ2.length σ2=true:=by rw[hl2,hs2];exact cG hb i ts _
   have hi2:σ2[i]? = some (pb ts (a+1)):=by rw[hs2,Pg (by omega)]
   have hall:∀X:List V,σ2.set i X=σ.set i X:=fun X=>by rw[hs2,Pi]
   rw[if_pos rfl,bj hi,<-hs2];rw[<-hl2];simp -dsimp only[aw,jW,jV,jX,jY,jZ,reduceIte,jA,reduceCtorEq,jB,jC,jD,jE,jF,jG];refine aE (hU (a+1) (by omega) ha2 _ (am hi2 _)) fun o σ' hq=>?_;simp only[f0,f1,hs',if_true,if_false,Pa]at hpar;rw[hpar];cases hx:par .U (ts.drop (a+1))with
   | out=>exact absurd hx (eR _ _)
   | bad c r=>
    rw[hx]at hq;obtain⟨rfl,b,rfl⟩:=hq;rw[bj hi2];simp -dsimp only[aw,jW,jV,jX,jY,jZ,reduceIte,jA,reduceCtorEq,jB,jC,jD,jE,jF,jG,aS];exact ew (τ:=σ2.set i (pb ts b)) (cG hb2 i ts b) (eu _ _ _) rfl ⟨rfl,b,hall _⟩
   | ok e r=>
    rw[hx]at hq;obtain⟨rfl,rfl⟩:=hq;obtain⟨σ3,hs3⟩:∃x,x=σ2.set i (pb ts (ts.length-r.length)):=⟨_,rfl⟩
    have hl3:σ3.length=σ2.length:=by rw[hs3,Pd]
    have hb3:ai σ3.length σ3=true:=by rw[hl3,hs3];exact cG hb2 i ts _
    have hN:=d8 6 [e];have hQ:PQ ts i σ ((PR.ok e r).bind fun a r2=>.ok (bh 6 [a]) r2) (.ret (vex (bh 6 [e]))) σ3:=⟨rfl,by rw[hs3];exact hall _⟩
    rw[bj hi2,<-hs3];rw[<-hl3];simp -dsimp only[aw,jW,jV,jX,jY,jZ,reduceIte,jA,reduceCtorEq,jB,jC,jD,jE,jF,jG,aZ,au];refine aj (by simpa only[Ph,Pj,bV]using hN _) ?_;simp -dsimp only[aw,jW,jV,jX,jY,jZ,reduceIte,jA,reduceCtorEq,jB,jC,jD,jE,jF,jG,au,bh,ca,bu,aT,aW];exact bv (τ:=σ3) hb3 (v:=vex (bh 6 [e])) (by rw[au];simp[uv,aL,bc,bh,ca,bu,aT,aW,bV,aw,jW,jV,jX,jY,jZ,reduceIte,jA,reduceCtorEq,jB,jC,jD,jE,jF,jG]) (by rw[au];rfl) Pf hQ
  | false=>
   simp -dsimp only[aw,jW,jV,jX,jY,jZ,reduceIte,jA,reduceCtorEq,jB,jC,jD,jE,jF,jG,Pa,if_false,bI (show -9223372036854775808≤((2:Nat):Int)+1 by omega) (show((2:Nat):Int)+1≤9223372036854775807 by omega)]
   exact Nxt.to (σ++[[.d (aa 0),.d (aa 0),.d (ae ⟨#[]⟩),.nil]]) [] (by simp) (by simp) (aq hb rfl) (by simp[an,V.under];try omega) ⟨rfl,rfl,fun q hq=>by
    by_cases e:q=2
    .subst e;exact hs
    .exact hno q (by omega)⟩
 .have f0:bo (ah 33) ts a=false:=hno 0 (by omega);have f1:bo (ah 126) ts a=false:=hno 1 (by omega);have f2:bo (ah 45) ts a=false:=hno 2 (by omega);have hc:decide (((3:Nat):Int)<3)=false:=rfl;simp only[f0,f1,f2,if_false,Pa]at hpar;rw[hpar];simp -dsimp only[aw,jW,jV,jX,jY,jZ,reduceIte,jA,reduceCtorEq,jB,jC,jD,jE,jF,jG,hc];refine aE (hP' _) fun o σ' hq=>?_;cases hx:par .P (ts.drop a)with
  | out=>exact absurd hx (eR _ _)
  | bad c r=>
   rw[hx]at hq;obtain⟨rfl,b,rfl⟩:=hq;rw[bj hi];simp -dsimp only[aw,jW,jV,jX,jY,jZ,reduceIte,jA,reduceCtorEq,jB,jC,jD,jE,jF,jG,aS];exact ew (τ:=σ.set i (pb ts b)) (cG hb i ts b) (eu _ _ _) rfl ⟨rfl,b,rfl⟩
  | ok e r=>
   rw[hx]at hq;obtain⟨rfl,rfl⟩:=hq;obtain⟨σ3,hs3⟩:∃x,x=σ.set i (pb ts (ts.length-r.length)):=⟨_,rfl⟩
   have hl3:σ3.length=σ.length:=by rw[hs3,Pd]
   have hb3:ai σ3.length σ3=true:=by rw[hl3,hs3];exact cG hb i ts _
   have hQ:PQ ts i σ (PR.ok e r) (.ret (vex e)) σ3:=⟨rfl,hs3⟩
   rw[bj hi,<-hs3];rw[<-hl3];simp -dsimp only[aw,jW,jV,jX,jY,jZ,reduceIte,jA,reduceCtorEq,jB,jC,jD,jE,jF,jG,aZ,au];exact bv (τ:=σ3) hb3 (v:=vex e) (by rw[au];simp[uv,aL,bc,aw,jW,jV,jX,jY,jZ,reduceIte,jA,reduceCtorEq,jB,jC,jD,jE,jF,jG]) (by rw[au];rfl) Pf hQ
structure St(σ0:LLV)(i:Nat)(ts:List Tok)(a:Nat)(σ:LLV):Prop where
 eq:σ=σ0.set i (pb ts a)
 below:ai σ0.length σ0=true
 lt:i<σ0.length
structure TsOK(ts:List Tok):Prop where
 size:∀t,t∈ts->t.text.size≤1000
 len:ts.length≤1200000
section
variable {σ0 σ : LLV} {i : Nat} {ts : List Tok} {a : Nat}
theorem St.init(hi:σ[i]? = some (pb ts a))(hb:ai σ.length σ=true):St σ i ts a σ:=⟨(Jf hi).symm,hb,(List.getElem?_eq_some_iff.1 hi).1⟩
theorem St.len(S:St σ0 i ts a σ):σ.length=σ0.length:=by rw[S.eq,Pd]
theorem St.at_(S:St σ0 i ts a σ):σ[i]? = some (pb ts a):=by rw[S.eq,Pg S.lt]
theorem St.bb(S:St σ0 i ts a σ):ai σ.length σ=true:=by rw[S.len,S.eq];exact cG S.below i ts a
theorem St.step(S:St σ0 i ts a σ)(b:Nat):St σ0 i ts b (σ.set i (pb ts b)):=⟨by rw[S.eq,Pi],S.below,S.lt⟩
theorem St.slen(S:St σ0 i ts a σ)(X:List V):(σ.set i X).length=σ.length:=Pd
variable (H : TsOK ts) {l : LLV} {K P : V -> LLV -> Prop} {s : Tag K} {t : Tag P}
include H
theorem dq{m:ByteArray}(S:St σ0 i ts a σ)(ha:a≤ts.length)(ht:bo m ts a=true->a+1≤ts.length->∀σ',St σ0 i ts (a+1) σ'->σ'.length=σ.length->K (ak true) (σ'++l))(hf:bo m ts a=false->K (ak false) (σ++l)):
 iq G 285 [.ptr i 0,.d (ae m)] (σ++l) K P s t:=by
 refine aE (iZ m ts a i H.size H.len ha (σ++l) (am S.at_ l)) fun o σ' ⟨e1,e2⟩=>?_;subst e1;rw[aZ];cases hs:bo m ts a with
 | true=>
  rw[hs,if_pos rfl,bj S.at_]at e2;subst e2
  exact ht hs (by
   apply Pb;intro h;rw[gx (by omega)]at hs;cases hs) _ (S.step _) (S.slen _)
 | false=>
  rw[hs,if_neg (by decide)]at e2;subst e2;exact hf hs
theorem eK{m:ByteArray}(S:St σ0 i ts a σ)(ha:a≤ts.length)(ht:bo m ts a=true->a+1≤ts.length->∀σ',St σ0 i ts (a+1) σ'->σ'.length=σ.length->K (.tup []) (σ'++l))(hf:bo m ts a=false->P (d9 (eO ts a) a) (σ++l)):
 iq G 286 [.ptr i 0,.d (ae m)] (σ++l) K P s t:=by
 refine aE (wy m ts a i H.size H.len ha (σ++l) (am S.at_ l)) fun o σ' hq=>?_;cases hs:bo m ts a with
 | true=>
  rw[hs,if_pos rfl,bj S.at_]at hq;obtain⟨rfl,rfl⟩:=hq;rw[aZ]
  exact ht hs (by
   apply Pb;intro h;rw[gx (by omega)]at hs;cases hs) _ (S.step _) (S.slen _)
 | false=>
  rw[hs,if_neg (by decide)]at hq;obtain⟨rfl,rfl⟩:=hq;rw[aS];exact hf hs
theorem DD{s:ByteArray}{r1:List Tok}(h:bD (ts.drop a)=some (s,r1)):r1=ts.drop (a+1)/\a+1≤ts.length:=by
 by_cases hla:a<ts.length
 .rw[qh hla]at h;split at h
  .cases h;exact⟨rfl,hla⟩
  .cases h
 .rw[Pe (by omega)]at h;cases h
theorem Fd{n:Int}{r1:List Tok}(h:cm (ts.drop a)=some (n,r1)):r1=ts.drop (a+1)/\a+1≤ts.length:=by
 by_cases hla:a<ts.length
 .rw[mg hla]at h;split at h
  .cases h;exact⟨rfl,hla⟩
  .cases h
 .rw[Pe (by omega)]at h;cases h
theorem DP(S:St σ0 i ts a σ)(ha:a≤ts.length)(ht:∀s,bD (ts.drop a)=some (s,ts.drop (a+1))->a+1≤ts.length->∀σ',St σ0 i ts (a+1) σ'->σ'.length=σ.length->K (.d (ae s)) (σ'++l))(hf:bD (ts.drop a)=none->P (d9 (eO ts a) a) (σ++l)):
 iq G 330 [.ptr i 0] (σ++l) K P s t:=by
 refine aE (y7 ts a i H.size H.len ha (σ++l) (am S.at_ l)) fun o σ' hq=>?_;cases hs:bD (ts.drop a)with
 | some p=>
  obtain⟨s,r1⟩:=p;obtain⟨rfl,h1⟩:=DD H hs;rw[hs]at hq;simp only[bj S.at_]at hq;obtain⟨rfl,rfl⟩:=hq;rw[aZ];exact ht s hs h1 _ (S.step _) (S.slen _)
 | none=>
  rw[hs]at hq;obtain⟨rfl,rfl⟩:=hq;rw[aS];exact hf hs
theorem xR(S:St σ0 i ts a σ)(ha:a≤ts.length)(ht:∀n,cm (ts.drop a)=some (n,ts.drop (a+1))->¬65535<n->a+1≤ts.length->∀σ',St σ0 i ts (a+1) σ'->σ'.length=σ.length->K (.d (aa n)) (σ'++l))(hb:∀n,cm (ts.drop a)=some (n,ts.drop (a+1))->65535<n->P (d9 3 a) (σ++l))(hf:cm (ts.drop a)=none->P (d9 (eO ts a) a) (σ++l)):
 iq G 329 [.ptr i 0] (σ++l) K P s t:=by
 refine aE (uF ts a i H.size H.len ha (σ++l) (am S.at_ l)) fun o σ' hq=>?_;cases hs:cm (ts.drop a)with
 | some p=>
  obtain⟨n,r1⟩:=p;obtain⟨rfl,h1⟩:=Fd H hs;rw[hs]at hq;simp only[bj S.at_]at hq;by_cases hbig:65535<n
  .rw[if_pos hbig]at hq;obtain⟨rfl,rfl⟩:=hq;rw[aS];exact hb n hs hbig
  .rw[if_neg hbig]at hq;obtain⟨rfl,rfl⟩:=hq;rw[aZ];exact ht n hs hbig h1 _ (S.step _) (S.slen _)
 | none=>
  rw[hs]at hq;obtain⟨rfl,rfl⟩:=hq;rw[aS];exact hf hs
theorem Ch{k:PK}(S:St σ0 i ts a σ)(ha:a≤ts.length){o:Out}{σ':LLV}(hq:PQ ts i (σ++l) (par k (ts.drop a)) o σ'):
 (∃e a2,par k (ts.drop a)=.ok e (ts.drop a2)/\a≤a2/\a2≤ts.length/\(k.eats=true->a<a2)/\o=.ret (vex e)/\∃σ1,σ'=σ1++l/\St σ0 i ts a2 σ1/\σ1.length=σ.length)\/
 (∃c r b,par k (ts.drop a)=.bad c r/\o=.panic (d9 c (ts.length-r.length))/\∃σ1,σ'=σ1++l/\St σ0 i ts b σ1/\σ1.length=σ.length):=by
 cases hx:par k (ts.drop a)with
 | out=>exact absurd hx (eR _ _)
 | bad c r=>
  rw[hx]at hq;obtain⟨rfl,b,rfl⟩:=hq;exact .inr ⟨c,r,b,rfl,rfl,_,bj S.at_ l _,S.step b,S.slen _⟩
 | ok e r=>
  rw[hx]at hq;obtain⟨rfl,rfl⟩:=hq;obtain⟨h1,h2,h3,h4⟩:=EJ ha hx;exact .inl ⟨e,ts.length-r.length,by rw[<-h1],h2,h3,h4,rfl,_,bj S.at_ l _,S.step _,S.slen _⟩
theorem ig{f:FuncId}{args:List V}{k:PK}(S:St σ0 i ts a σ)(ha:a≤ts.length)(h:Fun G f args (σ++l) (PQ ts i (σ++l) (par k (ts.drop a))))
 (ht:∀e a2,par k (ts.drop a)=.ok e (ts.drop a2)->a≤a2->a2≤ts.length->(k.eats=true->a<a2)->∀σ',St σ0 i ts a2 σ'->σ'.length=σ.length->K (vex e) (σ'++l))(hf:∀c r b,par k (ts.drop a)=.bad c r->∀σ',St σ0 i ts b σ'->σ'.length=σ.length->P (d9 c (ts.length-r.length)) (σ'++l)):iq G f args (σ++l) K P s t:=by
 refine aE h fun o σ' hq=>?_;rcases Ch H S ha hq with⟨e,a2,h1,h2,h3,h4,rfl,σ1,rfl,h5,h6⟩|⟨c,r,b,h1,rfl,σ1,rfl,h5,h6⟩
 .rw[aZ];exact ht e a2 h1 h2 h3 h4 σ1 h5 h6
 .rw[aS];exact hf c r b h1 σ1 h5 h6
theorem B1{f:FuncId}{args:List V}{k:PK}{R:LLV->Prop}{pn:Unit->Prop}{tR:Tag R}{tp:Tag pn}(S:St σ0 i ts a σ)(ha:a≤ts.length)(h:Fun G f args (σ++l) (PQ ts i (σ++l) (par k (ts.drop a))))
 (ht:∀e a2,par k (ts.drop a)=.ok e (ts.drop a2)->a≤a2->a2≤ts.length->(k.eats=true->a<a2)->∀σ',St σ0 i ts a2 σ'->σ'.length=σ.length->R (σ'++l)/\K (vex e) (σ'++l))(hf:∀c r b,par k (ts.drop a)=.bad c r->∀σ',St σ0 i ts b σ'->σ'.length=σ.length->P (d9 c (ts.length-r.length)) (σ'++l))(hp:(∃c r,par k (ts.drop a)=.bad c r)->pn ()):B7 G f args (σ++l) R K P pn tR s t tp:=by
 cases hx:par k (ts.drop a)with
 | out=>exact absurd hx (eR _ _)
 | bad c r=>
  rw[hx]at h;refine BU (h.mono fun o σ' hq=>?_) (hp ⟨c,r,hx⟩);obtain⟨rfl,b,rfl⟩:=hq;rw[bj S.at_];exact⟨_,rfl,hf c r b hx _ (S.step b) (S.slen _)⟩
 | ok e r=>
  obtain⟨h1,h2,h3,h4⟩:=EJ ha hx;obtain⟨k1,k2⟩:=ht e _ (by rw[<-h1];exact hx) h2 h3 h4 _ (S.step (ts.length-r.length)) (S.slen _);rw[hx]at h;refine uf (σ1:=σ.set i (pb ts (ts.length-r.length))++l) (v:=vex e) (h.mono fun o σ' hq=>?_) k1 k2;obtain⟨rfl,rfl⟩:=hq;exact⟨rfl,bj S.at_ l _⟩
omit H
theorem da{rs:List RV}{ρ:ac}{x:PR}{e:Ex}(S:St σ0 i ts a σ)(ha:a≤ts.length)(hx:x=.ok e (ts.drop a))(h:aL (σ++l) ρ rs=some (vex e)):fin σ.length rs (PQ ts i σ0 x) .ret ρ (σ++l):=by
 subst hx;exact bv (τ:=σ) S.bb h (by rw[au];rfl) Pf ⟨rfl,by rw[gY ts a ha];exact S.eq⟩
theorem cQ{rs:List RV}{ρ:ac}{x:PR}{c:Int}{r:List Tok}{n:Nat}(S:St σ0 i ts a σ)(hx:x=.bad c r)(hn:n=ts.length-r.length):fin σ.length rs (PQ ts i σ0 x) (.panic (d9 c n)) ρ (σ++l):=by
 subst hx;subst hn;exact ew (τ:=σ) S.bb Pf rfl ⟨rfl,a,S.eq⟩
theorem dI{rs:List RV}{ρ:ac}{x:PR}(S:St σ0 i ts a σ)(ha:a≤ts.length)(hx:x=dZ (ts.drop a)):fin σ.length rs (PQ ts i σ0 x) (.panic (d9 (eO ts a) a)) ρ (σ++l):=
 cQ (r:=ts.drop a) S (by rw[hx,A8 ts a ha]) (gY ts a ha).symm
end
end Go.Proofs.YtnhphlmblenapaaGreatDoor
namespace Go.Proofs.YtnhphlmblenapaaGreatDoor
open Go.RowKit
open Nat renaming reduceLeDiff -> jA, reduceBEq -> jB, reduceLT -> jC, reduceEqDiff -> jD, reduceAdd -> jE, reduceSub -> jF, reduceMul -> jG
open V renaming copy -> jV, lend -> jW, lend1 -> jX, cells -> jY, boxable -> jZ
theorem DL(ts:List Tok)(a:Nat):∃(kd nm:Int) (tx:ByteArray) (ln:Int) (ok:Bool),ft ts a=.tup [.agg [.d (aa kd),.d (aa nm),.d (ae tx),.d (aa ln)],ak ok]/\((ok=true/\kd=3/\∃n,cm (ts.drop a)=some (n,ts.drop (a+1)))\/(cm (ts.drop a)=none/\(ok=false\/ok=true/\kd≠3))):=by
 unfold ft;by_cases hla:a<ts.length
 .rw[List.getElem?_eq_getElem hla,mg hla];simp only;by_cases hv:bS ts[a]=true
  .rw[if_pos hv];refine⟨_,_,_,_,_,rfl,?_⟩;by_cases hk:ts[a].kind=3
   .exact .inl ⟨rfl,hk,_,if_pos ⟨hv,hk⟩⟩
   .exact .inr ⟨if_neg (fun h=>hk h.2),.inr ⟨rfl,hk⟩⟩
  .rw[if_neg hv];exact⟨_,_,_,_,_,rfl,.inr ⟨if_neg (fun h=>hv h.1),.inl rfl⟩⟩
 .rw[List.getElem?_eq_none (by omega),Pe (by omega)];exact⟨_,_,_,_,_,rfl,.inr ⟨rfl,.inl rfl⟩⟩
theorem iU{ts:List Tok}{a:Nat}(H:TsOK ts){s:ByteArray}{r:List Tok}(h:bD (ts.drop a)=some (s,r)):s.size≤1000:=by
 by_cases hla:a<ts.length
 .rw[qh hla]at h;split at h
  .cases h;exact H.size _ (List.getElem_mem hla)
  .cases h
 .rw[Pe (by omega)]at h;cases h
theorem pk{ts:List Tok}{a:Nat}(H:TsOK ts){n:Int}{r:List Tok}(h:cm (ts.drop a)=some (n,r))(hn:¬65535<n):0≤n/\(Lib.decDigits n.toNat).length≤5:=by
 by_cases hla:a<ts.length
 .rw[mg hla]at h;split at h
  .rename_i hv;cases h;have:=hv.1;unfold bS at this;rw[if_pos hv.2]at this;simp only[Bool.and_eq_true,decide_eq_true_eq]at this;exact⟨this.1.1,CM _ (by omega)⟩
  .cases h
 .rw[Pe (by omega)]at h;cases h
theorem sK(x:Bs)(n:Int):ni (bs x) n=bs (x++91::(Lib.decDigits n.toNat++[93])):=by
 unfold ni;rw[show ah 91=bs [91]from rfl,show ah 93=bs [93]from rfl,show Fx n=bs (Lib.decDigits n.toNat)from rfl,kx,kx,kx];simp
theorem sU(ts:List Tok)(a i:Nat)(H:TsOK ts)(ha:a≤ts.length)
 (hW:∀b,a<b->b≤ts.length->∀σ:LLV,σ[i]? = some (pb ts b)->Fun G 255 [.ptr i 0] σ (PQ ts i σ (par .W (ts.drop b))))
 (σ:LLV)(hi:σ[i]? = some (pb ts a)):Fun G 326 [.ptr i 0] σ (PQ ts i σ (par .P (ts.drop a))):=by
 refine al Tryz.func326 OD rfl fun hb hw=>?_;have S:=St.init hi hb;have hpar:par .P (ts.drop a)=fd par (ts.drop a):=iT .P (ts.drop a);unfold fd at hpar;rw[bA]at hpar;unfold Ky;simp -dsimp only[aw,seval];refine dq H (m:=ah 40) S ha (fun hs ha1 σ1 S1 hl1=>?_) (fun hs=>?_)
 .rw[hs,if_pos rfl]at hpar;simp only at hpar;rw[<-hl1];simp -dsimp only[aw,seval];refine ig H S1 ha1 (hW _ (by omega) ha1 _ (am S1.at_ _)) (fun e a2 hx h1 h2 h3 σ2 S2 hl2=>?_) (fun c r b hx σ2 S2 hl2=>?_)
  .rw[hx,PR.bind,bA]at hpar;rw[<-hl2];simp -dsimp only[aw,seval,au];refine eK H (m:=ah 41) S2 h2 (fun hs3 ha3 σ3 S3 hl3=>?_) (fun hs3=>?_)
   .rw[hs3,if_pos rfl]at hpar;rw[<-hl3];simp -dsimp only[aw,seval];exact da S3 ha3 hpar (by rw[au];simp[ij,aL,bc,aw,seval])
   .rw[hs3,if_neg (by decide)]at hpar;simp -dsimp only[aw,seval];exact dI S2 h2 hpar
  .rw[hx,PR.bind]at hpar;rw[<-hl2];simp -dsimp only[aw,seval];exact cQ S2 hpar rfl
 rw[hs,if_neg (by decide)]at hpar;simp only at hpar;simp -dsimp only[aw,seval];refine aj (mD ts a i H.size ha _ (am hi _)) ?_;obtain⟨kd,nm,tx,ln,ok,hnv,hcase⟩:=DL ts a;rw[hnv];rcases hcase with⟨rfl,rfl,n,hnum⟩|⟨hnum,hok⟩
 .rw[hnum]at hpar;simp only at hpar;simp -dsimp only[aw,seval];refine xR H S ha (fun n' hn hle ha1 σ1 S1 hl1=>?_) (fun n' hn hbig=>?_) (fun hn=>by rw[hnum]at hn;cases hn)
  .rw[hnum]at hn;cases hn;rw[if_neg hle]at hpar;rw[<-hl1];simp -dsimp only[aw,seval];exact da S1 ha1 hpar (by rw[au];simp[ij,aL,bc,ca,bu,aT,aW,aw,seval])
  .rw[hnum]at hn;cases hn;rw[if_pos hbig]at hpar;simp -dsimp only[aw,seval];exact cQ S hpar (gY ts a ha).symm
 rw[hnum]at hpar;simp only at hpar;rcases hok with rfl|⟨rfl,hk⟩
 case' inl=>simp -dsimp only[aw,seval]
 case' inr=>simp -dsimp only[aw,seval,decide_eq_false hk]
 all_goals
  refine DP H S ha (fun s hs1 ha1 σ1 S1 hl1=>?_) (fun hs1=>?_)
  case refine_2=>
   rw[hs1]at hpar;simp -dsimp only[aw,seval];exact dI S ha hpar
  rw[hs1]at hpar;simp only at hpar;rw[<-hl1];by_cases hsum:s=qu
  .have hd:decide (s=(⟨#[115,117,109]⟩:ByteArray))=true:=decide_eq_true hsum;have hones:¬s=jS:=by rw[hsum];decide
   have hd2:decide (s=(⟨#[111,110,101,115]⟩:ByteArray))=false:=decide_eq_false hones;rw[if_pos hsum,bA]at hpar;simp -dsimp only[aw,seval,hd];refine dq H (m:=ah 40) S1 ha1 (fun h40 ha2 σ2 S2 hl2=>?_) (fun h40=>?_)
   .rw[h40,if_pos rfl]at hpar;simp only at hpar;rw[<-hl2];simp -dsimp only[aw,seval];refine DP H S2 ha2 (fun s2 hs2 ha3 σ3 S3 hl3=>?_) (fun hs2=>?_)
    .rw[hs2]at hpar;simp only[bA]at hpar;rw[<-hl3];simp -dsimp only[aw,seval];refine eK H (m:=ah 41) S3 ha3 (fun hs3 ha4 σ4 S4 hl4=>?_) (fun hs3=>?_)
     .rw[hs3,if_pos rfl]at hpar;rw[<-hl4];simp -dsimp only[aw,seval];exact da S4 ha4 hpar (by rw[au];simp[ij,aL,bc,ca,bu,aT,aW,aw,seval])
     .rw[hs3,if_neg (by decide)]at hpar;simp -dsimp only[aw,seval];exact dI S3 ha3 hpar
    .rw[hs2]at hpar;simp -dsimp only[aw,seval];exact dI S2 ha2 hpar
   rw[h40,if_neg (by decide),if_neg hones]at hpar;simp only[bA]at hpar;simp -dsimp only[aw,seval,hd2];refine dq H (m:=ah 91) S1 ha1 (fun h91 ha2 σ2 S2 hl2=>?_) (fun h91=>?_)
   .rw[h91,if_pos rfl]at hpar;simp only at hpar;rw[<-hl2];simp -dsimp only[aw,seval];refine ig H S2 ha2 (hW _ (by omega) ha2 _ (am S2.at_ _)) (fun e a3 hx h1 h2 h3 σ3 S3 hl3=>?_) (fun c r b hx σ3 S3 hl3=>?_)
    .rw[hx,PR.bind,bA]at hpar;rw[<-hl3];simp -dsimp only[aw,seval,au];refine eK H (m:=ah 93) S3 h2 (fun hs3 ha4 σ4 S4 hl4=>?_) (fun hs3=>?_)
     .rw[hs3,if_pos rfl]at hpar;rw[<-hl4];simp -dsimp only[aw,seval];exact da S4 ha4 hpar (by rw[au];simp[ij,aL,bc,bh,ca,bu,aT,aW,bV,aw,seval])
     .rw[hs3,if_neg (by decide)]at hpar;simp -dsimp only[aw,seval];exact dI S3 h2 hpar
    .rw[hx,PR.bind]at hpar;rw[<-hl3];simp -dsimp only[aw,seval];exact cQ S3 hpar rfl
   rw[h91,if_neg (by decide)]at hpar;simp only at hpar;simp -dsimp only[aw,seval];refine dq H (m:=ah 64) S1 ha1 (fun h64 ha2 σ2 S2 hl2=>?_) (fun h64=>?_)
   .rw[h64,if_pos rfl]at hpar;simp only at hpar;rw[<-hl2];have hsz:=iU H hs1;obtain⟨x,rfl⟩:∃x,s=bs x:=⟨_,(lJ s).symm⟩
    rw[bW]at hsz;have a1:co .add (V.d (ae (bs x))) (V.d (ae ⟨#[91]⟩))=some (V.d (ae (bs (x++[91])))):=gR x [91] (by simp;omega);simp -dsimp only[aw,seval,a1];refine xR H S2 ha2 (fun n hn hle ha3 σ3 S3 hl3=>?_) (fun n hn hbig=>?_) (fun hn=>?_)
    .obtain⟨h0,h5⟩:=pk H hn hle
     have a2:co .add (V.d (ae (bs (x++[91])))) (V.d (ae (bs (Lib.decDigits n.toNat))))=some (V.d (ae (bs (x++91::Lib.decDigits n.toNat)))):=by
      rw[show x++91::Lib.decDigits n.toNat=(x++[91])++Lib.decDigits n.toNat by simp];exact gR (x++[91]) _ (by simp;omega)
     have a3:co .add (V.d (ae (bs (x++91::Lib.decDigits n.toNat)))) (V.d (ae ⟨#[93]⟩))=some (V.d (ae (bs (x++91::(Lib.decDigits n.toNat++[93]))))):=by
      rw[show x++91::(Lib.decDigits n.toNat++[93])=(x++91::Lib.decDigits n.toNat)++[93]by simp];exact gR (x++91::Lib.decDigits n.toNat) [93] (by simp;omega)
     rw[hn]at hpar;simp only at hpar;rw[if_neg hle,sK]at hpar;rw[<-hl3];simp -dsimp only[aw,seval];refine aj (il n h0 (by omega) _) ?_;simp -dsimp only[aw,seval,a2,a3];exact da S3 ha3 hpar (by rw[au];simp[ij,aL,bc,ca,bu,aT,aW,aw,seval])
    .rw[hn]at hpar;simp only at hpar;rw[if_pos hbig]at hpar;simp -dsimp only[aw,seval];exact cQ S2 hpar (gY ts _ ha2).symm
    .rw[hn]at hpar;simp -dsimp only[aw,seval];exact dI S2 ha2 hpar
   rw[h64,if_neg (by decide)]at hpar;simp only at hpar;simp -dsimp only[aw,seval];exact da S1 ha1 hpar (by rw[au];simp[ij,aL,bc,ca,bu,aT,aW,aw,seval])
  have hd:decide (s=(⟨#[115,117,109]⟩:ByteArray))=false:=decide_eq_false hsum;rw[if_neg hsum]at hpar;simp only at hpar;by_cases hones:s=jS
  .have hd2:decide (s=(⟨#[111,110,101,115]⟩:ByteArray))=true:=decide_eq_true hones;rw[if_pos hones,bA]at hpar;simp -dsimp only[aw,seval,hd,hd2];refine dq H (m:=ah 40) S1 ha1 (fun h40 ha2 σ2 S2 hl2=>?_) (fun h40=>?_)
   .rw[h40,if_pos rfl]at hpar;simp only at hpar;rw[<-hl2];simp -dsimp only[aw,seval];refine ig H S2 ha2 (hW _ (by omega) ha2 _ (am S2.at_ _)) (fun e a3 hx h1 h2 h3 σ3 S3 hl3=>?_) (fun c r b hx σ3 S3 hl3=>?_)
    .rw[hx,PR.bind,bA]at hpar;rw[<-hl3];simp -dsimp only[aw,seval,au];refine eK H (m:=ah 41) S3 h2 (fun hs3 ha4 σ4 S4 hl4=>?_) (fun hs3=>?_)
     .rw[hs3,if_pos rfl]at hpar;rw[<-hl4];have hNd:=d8 25 [e];simp -dsimp only[aw,seval];refine aj (by simpa only[Ph,Pj,bV]using hNd _) ?_;simp -dsimp only[aw,seval,au,bh,ca,bu,aT,aW];exact da S4 ha4 hpar (by rw[au];simp[ij,aL,bc,bh,ca,bu,aT,aW,bV,aw,seval])
     .rw[hs3,if_neg (by decide)]at hpar;simp -dsimp only[aw,seval];exact dI S3 h2 hpar
    .rw[hx,PR.bind]at hpar;rw[<-hl3];simp -dsimp only[aw,seval];exact cQ S3 hpar rfl
   rw[h40,if_neg (by decide)]at hpar;simp only[bA]at hpar;simp -dsimp only[aw,seval];refine dq H (m:=ah 91) S1 ha1 (fun h91 ha2 σ2 S2 hl2=>?_) (fun h91=>?_)
   .rw[h91,if_pos rfl]at hpar;simp only at hpar;rw[<-hl2];simp -dsimp only[aw,seval];refine ig H S2 ha2 (hW _ (by omega) ha2 _ (am S2.at_ _)) (fun e a3 hx h1 h2 h3 σ3 S3 hl3=>?_) (fun c r b hx σ3 S3 hl3=>?_)
    .rw[hx,PR.bind,bA]at hpar;rw[<-hl3];simp -dsimp only[aw,seval,au];refine eK H (m:=ah 93) S3 h2 (fun hs3 ha4 σ4 S4 hl4=>?_) (fun hs3=>?_)
     .rw[hs3,if_pos rfl]at hpar;rw[<-hl4];simp -dsimp only[aw,seval];exact da S4 ha4 hpar (by rw[au];simp[ij,aL,bc,bh,ca,bu,aT,aW,bV,aw,seval])
     .rw[hs3,if_neg (by decide)]at hpar;simp -dsimp only[aw,seval];exact dI S3 h2 hpar
    .rw[hx,PR.bind]at hpar;rw[<-hl3];simp -dsimp only[aw,seval];exact cQ S3 hpar rfl
   rw[h91,if_neg (by decide)]at hpar;simp only at hpar;simp -dsimp only[aw,seval];refine dq H (m:=ah 64) S1 ha1 (fun h64 ha2 σ2 S2 hl2=>?_) (fun h64=>?_)
   .rw[h64,if_pos rfl]at hpar;simp only at hpar;rw[<-hl2];have hsz:=iU H hs1;obtain⟨x,rfl⟩:∃x,s=bs x:=⟨_,(lJ s).symm⟩
    rw[bW]at hsz;have a1:co .add (V.d (ae (bs x))) (V.d (ae ⟨#[91]⟩))=some (V.d (ae (bs (x++[91])))):=gR x [91] (by simp;omega);simp -dsimp only[aw,seval,a1];refine xR H S2 ha2 (fun n hn hle ha3 σ3 S3 hl3=>?_) (fun n hn hbig=>?_) (fun hn=>?_)
    .obtain⟨h0,h5⟩:=pk H hn hle
     have a2:co .add (V.d (ae (bs (x++[91])))) (V.d (ae (bs (Lib.decDigits n.toNat))))=some (V.d (ae (bs (x++91::Lib.decDigits n.toNat)))):=by
      rw[show x++91::Lib.decDigits n.toNat=(x++[91])++Lib.decDigits n.toNat by simp];exact gR (x++[91]) _ (by simp;omega)
     have a3:co .add (V.d (ae (bs (x++91::Lib.decDigits n.toNat)))) (V.d (ae ⟨#[93]⟩))=some (V.d (ae (bs (x++91::(Lib.decDigits n.toNat++[93]))))):=by
      rw[show x++91::(Lib.decDigits n.toNat++[93])=(x++91::Lib.decDigits n.toNat)++[93]by simp];exact gR (x++91::Lib.decDigits n.toNat) [93] (by simp;omega)
     rw[hn]at hpar;simp only at hpar;rw[if_neg hle,sK]at hpar;rw[<-hl3];simp -dsimp only[aw,seval];refine aj (il n h0 (by omega) _) ?_;simp -dsimp only[aw,seval,a2,a3];exact da S3 ha3 hpar (by rw[au];simp[ij,aL,bc,ca,bu,aT,aW,aw,seval])
    .rw[hn]at hpar;simp only at hpar;rw[if_pos hbig]at hpar;simp -dsimp only[aw,seval];exact cQ S2 hpar (gY ts _ ha2).symm
    .rw[hn]at hpar;simp -dsimp only[aw,seval];exact dI S2 ha2 hpar
   rw[h64,if_neg (by decide)]at hpar;simp only at hpar;simp -dsimp only[aw,seval];exact da S1 ha1 hpar (by rw[au];simp[ij,aL,bc,ca,bu,aT,aW,aw,seval])
  have hd2:decide (s=(⟨#[111,110,101,115]⟩:ByteArray))=false:=decide_eq_false hones;rw[if_neg hones]at hpar;simp only[bA]at hpar;simp -dsimp only[aw,seval,hd,hd2];refine dq H (m:=ah 91) S1 ha1 (fun h91 ha2 σ2 S2 hl2=>?_) (fun h91=>?_)
  .rw[h91,if_pos rfl]at hpar;simp only at hpar;rw[<-hl2];simp -dsimp only[aw,seval];refine ig H S2 ha2 (hW _ (by omega) ha2 _ (am S2.at_ _)) (fun e a3 hx h1 h2 h3 σ3 S3 hl3=>?_) (fun c r b hx σ3 S3 hl3=>?_)
   .rw[hx,PR.bind,bA]at hpar;rw[<-hl3];simp -dsimp only[aw,seval,au];refine eK H (m:=ah 93) S3 h2 (fun hs3 ha4 σ4 S4 hl4=>?_) (fun hs3=>?_)
    .rw[hs3,if_pos rfl]at hpar;rw[<-hl4];simp -dsimp only[aw,seval];exact da S4 ha4 hpar (by rw[au];simp[ij,aL,bc,bh,ca,bu,aT,aW,bV,aw,seval])
    .rw[hs3,if_neg (by decide)]at hpar;simp -dsimp only[aw,seval];exact dI S3 h2 hpar
   .rw[hx,PR.bind]at hpar;rw[<-hl3];simp -dsimp only[aw,seval];exact cQ S3 hpar rfl
  rw[h91,if_neg (by decide)]at hpar;simp only at hpar;simp -dsimp only[aw,seval];refine dq H (m:=ah 64) S1 ha1 (fun h64 ha2 σ2 S2 hl2=>?_) (fun h64=>?_)
  .rw[h64,if_pos rfl]at hpar;simp only at hpar;rw[<-hl2];have hsz:=iU H hs1;obtain⟨x,rfl⟩:∃x,s=bs x:=⟨_,(lJ s).symm⟩
   rw[bW]at hsz;have a1:co .add (V.d (ae (bs x))) (V.d (ae ⟨#[91]⟩))=some (V.d (ae (bs (x++[91])))):=gR x [91] (by simp;omega);simp -dsimp only[aw,seval,a1];refine xR H S2 ha2 (fun n hn hle ha3 σ3 S3 hl3=>?_) (fun n hn hbig=>?_) (fun hn=>?_)
   .obtain⟨h0,h5⟩:=pk H hn hle
    have a2:co .add (V.d (ae (bs (x++[91])))) (V.d (ae (bs (Lib.decDigits n.toNat))))=some (V.d (ae (bs (x++91::Lib.decDigits n.toNat)))):=by
     rw[show x++91::Lib.decDigits n.toNat=(x++[91])++Lib.decDigits n.toNat by simp];exact gR (x++[91]) _ (by simp;omega)
    have a3:co .add (V.d (ae (bs (x++91::Lib.decDigits n.toNat)))) (V.d (ae ⟨#[93]⟩))=some (V.d (ae (bs (x++91::(Lib.decDigits n.toNat++[93]))))):=by
     rw[show x++91::(Lib.decDigits n.toNat++[93])=(x++91::Lib.decDigits n.toNat)++[93]by simp];exact gR (x++91::Lib.decDigits n.toNat) [93] (by simp;omega)
    rw[hn]at hpar;simp only at hpar;rw[if_neg hle,sK]at hpar;rw[<-hl3];simp -dsimp only[aw,seval];refine aj (il n h0 (by omega) _) ?_;simp -dsimp only[aw,seval,a2,a3];exact da S3 ha3 hpar (by rw[au];simp[ij,aL,bc,ca,bu,aT,aW,aw,seval])
   .rw[hn]at hpar;simp only at hpar;rw[if_pos hbig]at hpar;simp -dsimp only[aw,seval];exact cQ S2 hpar (gY ts _ ha2).symm
   .rw[hn]at hpar;simp -dsimp only[aw,seval];exact dI S2 ha2 hpar
  rw[h64,if_neg (by decide)]at hpar;simp only at hpar;simp -dsimp only[aw,seval];exact da S1 ha1 hpar (by rw[au];simp[ij,aL,bc,ca,bu,aT,aW,aw,seval])
end Go.Proofs.YtnhphlmblenapaaGreatDoor
