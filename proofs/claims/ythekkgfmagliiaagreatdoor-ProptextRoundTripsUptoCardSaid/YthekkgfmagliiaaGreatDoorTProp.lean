import Derived.Test.YthekkgfmagliiaaGreatDoorTRef3
set_option linter.unusedVariables false
set_option linter.unusedSimpArgs false
set_option linter.unusedSectionVars false
set_option maxHeartbeats 1000000
open Bool renaming true_and->RS,and_eq_true->RU,and_false->RW,false_and->RX
open Int renaming ofNat_lt->RY,ofNat_inj->RZ,reduceEq->R0
open List renaming getElem?_eq_getElem->R5,drop_of_length_le->R6,take_left->R7,getElem_mem->R8,drop_eq_getElem_cons->R9,take_length->Sa,getElem_cons_zero->Sb,length_map->Sc,map->Sd
namespace Go.Proofs.YthekkgfmagliiaaGreatDoor
open Go.RowKit
open Nat renaming reduceLeDiff -> jA, reduceBEq -> jB, reduceLT -> jC, reduceEqDiff -> jD, reduceAdd -> jE, reduceSub -> jF, reduceMul -> jG
open V renaming copy -> jV, lend -> jW, lend1 -> jX, cells -> jY, boxable -> jZ
mutual
def ju:Ex->Ex->Bool
 | .mk o n s l,.mk o' n' s' l'=>(decide (o=o')&&(decide (n=n')&&(decide (s=s')&&gA l l')))
def gA:List Ex->List Ex->Bool
 | [],[]=>true
 | a::r,b::r'=>ju a b&&gA r r'
 | _,_=>false
end
theorem pd:∀{l l':List Ex},l.length≠l'.length->gA l l'=false
 | [],[],h=>absurd rfl h
 | a::r,b::r',h=>by simp only[gA,pd (l:=r) (l':=r') (by simpa using h),RW]
 | [],_::_,_=>rfl
 | _::_,[],_=>rfl
theorem rH(a b:Ex):ju a b=(decide (a.op=b.op)&&(decide (a.num=b.num)&&(decide (a.name=b.name)&&gA a.args b.args))):=by
 cases a;cases b;rfl
theorem Ex.ind2{P:Ex->Prop}(h:∀e:Ex,(∀a,a∈e.args->P a)->P e):∀e,P e:=Ex.ind fun o n s l ih=>h (.mk o n s l) ih
theorem kB{l l':List Ex}{j:Nat}(h:j<l.length)(h':j<l'.length):gA (l.drop j) (l'.drop j)=(ju l[j] l'[j]&&gA (l.drop (j+1)) (l'.drop (j+1))):=by
 rw[R9 h,R9 h'];rfl
theorem Ea(l l':List Ex)(F:FuncId)(h:∀i (hi:i<l.length) (hi':i<l'.length) σ,Fun G F [vex l[i],vex l'[i]] σ (az (an (ju l[i] l'[i])) σ))(σ:LLV):
 Fun G 122 [.d (.sl (l.map dex)),.d (.sl (l'.map dex)),.fn F []] σ (az (an (gA l l')) σ):=by
 refine ai Tryz.func122 Qq rfl fun hb hw=>?_;have hm:=EP (hw 0 (by simp));rw[Sc]at hm;unfold PN;simp -dsimp only[aw,jV,jW,jX,jY,jZ,jA,reduceIte,reduceCtorEq,jB,jC,jD,jE,jF,jG,RZ];refine aD (fun hne=>?_) (fun hlen=>?_)
 .simp -dsimp only[aw,jV,jW,jX,jY,jZ,jA,reduceIte,reduceCtorEq,jB,jC,jD,jE,jF,jG];exact ao hb rfl rfl Sa ⟨by rw[pd (by simpa using hne)];rfl,rfl⟩
 .have hlen:l.length=l'.length:=by simpa using hlen
  simp -dsimp only[aw,jV,jW,jX,jY,jZ,jA,reduceIte,reduceCtorEq,jB,jC,jD,jE,jF,jG];refine ng (R:=fun(j:Nat) ρ σ'=>ρ=[(1,.d (.sl (l'.map dex))),(2,.fn F []),(15,.d (.sl (l.map dex))),(16,aI .i64 l.length),(17,aI .i64 j)]/\σ'=σ/\gA l l'=gA (l.drop j) (l'.drop j)) l.length ⟨rfl,rfl,by simp⟩ ?_ _;rintro j ρ' σ' hj ⟨rfl,rfl,hrec⟩;by_cases hlt:j<l.length
  .have hlt':j<l'.length:=by omega
   simp -dsimp only[aw,jV,jW,jX,jY,jZ,jA,reduceIte,reduceCtorEq,jB,jC,jD,jE,jF,jG,RY,hlt,decide_true,R5 hlt,R5 hlt',bq];refine ac (by simpa only[al]using h j hlt hlt' _) ?_;simp -dsimp only[aw,jV,jW,jX,jY,jZ,jA,reduceIte,reduceCtorEq,jB,jC,jD,jE,jF,jG,bl hlt hm];refine aD (fun hs=>?_) (fun hs=>?_)
   .simp -dsimp only[aw,jV,jW,jX,jY,jZ,jA,reduceIte,reduceCtorEq,jB,jC,jD,jE,jF,jG];exact ao hb rfl rfl R7 ⟨by rw[hrec,kB hlt hlt'];simp only[Bool.not_eq_true']at hs;rw[hs];rfl,rfl⟩
   .simp -dsimp only[aw,jV,jW,jX,jY,jZ,jA,reduceIte,reduceCtorEq,jB,jC,jD,jE,jF,jG,bl hlt hm];refine⟨hlt,Nxt.drop (Nat.le_refl _) hb ?_ ?_⟩
    .rfl
    .exact⟨rfl,rfl,by rw[hrec,kB hlt hlt'];simp only[Bool.not_eq_false']at hs;rw[hs];rfl⟩
  .simp -dsimp only[aw,jV,jW,jX,jY,jZ,jA,reduceIte,reduceCtorEq,jB,jC,jD,jE,jF,jG,RY,hlt,decide_false];exact ao hb rfl rfl Sa ⟨by rw[hrec,R6 (by omega),R6 (by omega)];rfl,rfl⟩
theorem Hb(a:Ex):∀(b:Ex) (σ:LLV),Fun G 86 [vex a,vex b] σ (az (an (ju a b)) σ):=by
 induction a using Ex.ind2 with
 | h a ih=>
 intro b σ;have hE:=fun σ'=>Ea a.args b.args 86 (fun i hi hi' σ=>ih _ (R8 hi) _ σ) σ';refine ai Tryz.func86 k86 (by simp only[al];rfl) fun hb hw=>?_;have hq:=rH a b;unfold c86;simp -dsimp only[aw,jV,jW,jX,jY,jZ,jA,reduceIte,reduceCtorEq,jB,jC,jD,jE,jF,jG,al];refine aD (fun h1=>?_) (fun h1=>?_)
 .simp -dsimp only[aw,jV,jW,jX,jY,jZ,jA,reduceIte,reduceCtorEq,jB,jC,jD,jE,jF,jG];refine aD (fun h2=>?_) (fun h2=>?_)
  .simp -dsimp only[aw,jV,jW,jX,jY,jZ,jA,reduceIte,reduceCtorEq,jB,jC,jD,jE,jF,jG];refine aD (fun h3=>?_) (fun h3=>?_)
   .simp -dsimp only[aw,jV,jW,jX,jY,jZ,jA,reduceIte,reduceCtorEq,jB,jC,jD,jE,jF,jG];refine ac (hE _) ?_;simp -dsimp only[aw,jV,jW,jX,jY,jZ,jA,reduceIte,reduceCtorEq,jB,jC,jD,jE,jF,jG];exact ao hb rfl rfl R7 ⟨by rw[hq,h1,h2,h3];rfl,rfl⟩
   .simp -dsimp only[aw,jV,jW,jX,jY,jZ,jA,reduceIte,reduceCtorEq,jB,jC,jD,jE,jF,jG];exact ao hb rfl rfl R7 ⟨by rw[hq,h1,h2,h3];rfl,rfl⟩
  .simp -dsimp only[aw,jV,jW,jX,jY,jZ,jA,reduceIte,reduceCtorEq,jB,jC,jD,jE,jF,jG];exact ao hb rfl rfl R7 ⟨by rw[hq,h1,h2];rfl,rfl⟩
 .simp -dsimp only[aw,jV,jW,jX,jY,jZ,jA,reduceIte,reduceCtorEq,jB,jC,jD,jE,jF,jG];exact ao hb rfl rfl R7 ⟨by rw[hq,h1];rfl,rfl⟩
theorem CQ(a:Ex):∀(b:Ex) (σ:LLV),Fun G 34 [vex a,vex b] σ (az (an (ju a b)) σ):=by
 induction a using Ex.ind2 with
 | h a ih=>
 intro b σ;refine ai Tryz.func34 k34 (by simp only[al];rfl) fun hb hw=>?_;have hq:=rH a b;have h0:=hw 0 (by simp);simp only[Sb,al]at h0;have hm:=EP (B2 h0 3 (by simp));simp only[List.getElem_cons_succ,Sb,Sc]at hm
 have out:∀(σ' l:LLV) (b1:Bool),ju a b=b1->σ'=σ++l->fin σ.length Nq (az (an (ju a b)) σ) .ret [(4,.d (.lit (.bool b1)))] σ':=fun σ' l b1 h e=>by
  subst e;exact ao hb rfl rfl R7 ⟨by rw[h];rfl,rfl⟩
 unfold c34;simp -dsimp only[aw,jV,jW,jX,jY,jZ,jA,reduceIte,reduceCtorEq,jB,jC,jD,jE,jF,jG,al];refine aD (fun h1=>?_) (fun h1=>?_)
 .simp -dsimp only[aw,jV,jW,jX,jY,jZ,jA,reduceIte,reduceCtorEq,jB,jC,jD,jE,jF,jG];refine aD (fun h2=>?_) (fun h2=>?_)
  .simp -dsimp only[aw,jV,jW,jX,jY,jZ,jA,reduceIte,reduceCtorEq,jB,jC,jD,jE,jF,jG];refine aD (fun h3=>?_) (fun h3=>?_)
   .simp -dsimp only[aw,jV,jW,jX,jY,jZ,jA,reduceIte,reduceCtorEq,jB,jC,jD,jE,jF,jG,RZ];refine aD (fun h4=>?_) (fun h4=>?_)
    .simp -dsimp only[aw,jV,jW,jX,jY,jZ,jA,reduceIte,reduceCtorEq,jB,jC,jD,jE,jF,jG];exact out _ _ _ (by rw[hq,pd (by simpa using h4)];simp) rfl
    .simp -dsimp only[aw,jV,jW,jX,jY,jZ,jA,reduceIte,reduceCtorEq,jB,jC,jD,jE,jF,jG];have h4:a.args.length=b.args.length:=by simpa using h4
     generalize hbx:[[V.d (ab a.op),V.d (ab a.num),V.d (ae a.name),V.d (D.sl (Sd dex a.args))],[V.d (ab b.op),V.d (ab b.num),V.d (ae b.name),V.d (D.sl (Sd dex b.args))]]=bx at out ⊢;refine ng (R:=fun(j:Nat) ρ σ'=>ρ=[(2,.ptr σ.length 0),(3,.ptr (σ.length+1) 0),(5,aI .i64 j)]/\σ'=σ++bx/\gA a.args b.args=gA (a.args.drop j) (b.args.drop j)) a.args.length ⟨rfl,rfl,by simp⟩ ?_ _;rintro j ρ' σ' hj ⟨rfl,rfl,hrec⟩;subst hbx;by_cases hlt:j<a.args.length
     .have hlt':j<b.args.length:=by omega
      simp -dsimp only[aw,jV,jW,jX,jY,jZ,jA,reduceIte,reduceCtorEq,jB,jC,jD,jE,jF,jG,RY,hlt,decide_true,R5 hlt,R5 hlt',bq];refine aN (by simpa only[al]using ih _ (R8 hlt) _ _) ?_;simp -dsimp only[aw,jV,jW,jX,jY,jZ,jA,reduceIte,reduceCtorEq,jB,jC,jD,jE,jF,jG,bl hlt hm];refine aD (fun hs=>?_) (fun hs=>?_)
      .simp -dsimp only[aw,jV,jW,jX,jY,jZ,jA,reduceIte,reduceCtorEq,jB,jC,jD,jE,jF,jG];exact out _ _ _ (by rw[hq,hrec,kB hlt hlt'];simp_all) rfl
      .simp -dsimp only[aw,jV,jW,jX,jY,jZ,jA,reduceIte,reduceCtorEq,jB,jC,jD,jE,jF,jG,bl hlt hm];refine⟨hlt,Nxt.same (by simp) (av hb rfl) ?_ ?_⟩
       .simp[am,V.under]
       .exact⟨rfl,rfl,by rw[hrec,kB hlt hlt'];simp_all⟩
     .simp -dsimp only[aw,jV,jW,jX,jY,jZ,jA,reduceIte,reduceCtorEq,jB,jC,jD,jE,jF,jG,RY,hlt,decide_false];exact out _ _ _ (by rw[hq,hrec,R6 (by omega),R6 (by omega)];simp_all[gA]) rfl
   .simp -dsimp only[aw,jV,jW,jX,jY,jZ,jA,reduceIte,reduceCtorEq,jB,jC,jD,jE,jF,jG];exact out _ _ _ (by rw[hq];simp_all) rfl
  .simp -dsimp only[aw,jV,jW,jX,jY,jZ,jA,reduceIte,reduceCtorEq,jB,jC,jD,jE,jF,jG];exact out _ _ _ (by rw[hq];simp_all) rfl
 .simp -dsimp only[aw,jV,jW,jX,jY,jZ,jA,reduceIte,reduceCtorEq,jB,jC,jD,jE,jF,jG];exact out _ _ _ (by rw[hq];simp_all) rfl
mutual
def fE:Ts->Ts->Bool
 | .mk o a b e s l,.mk o' a' b' e' s' l'=>decide (o=o')&&(decide (a=a')&&(decide (b=b')&&(decide (s=s')&&(ju e e'&&fh l l'))))
def fh:List Ts->List Ts->Bool
 | [],[]=>true
 | a::r,b::r'=>fE a b&&fh r r'
 | _,_=>false
end
theorem na:∀{l l':List Ts},l.length≠l'.length->fh l l'=false
 | [],[],h=>absurd rfl h
 | a::r,b::r',h=>by simp only[fh,na (l:=r) (l':=r') (by simpa using h),RW]
 | [],_::_,_=>rfl
 | _::_,[],_=>rfl
theorem sw(a b:Ts):fE a b=(decide (a.op=b.op)&&(decide (a.lo=b.lo)&&(decide (a.hi=b.hi)&&(decide (a.name=b.name)&&(ju a.ex b.ex&&fh a.args b.args))))):=by
 cases a;cases b;rfl
theorem pU{l l':List Ts}{j:Nat}(h:j<l.length)(h':j<l'.length):fh (l.drop j) (l'.drop j)=(fE l[j] l'[j]&&fh (l.drop (j+1)) (l'.drop (j+1))):=by
 rw[R9 h,R9 h'];rfl
theorem AR(l l':List Ts)(F:FuncId)(hm:l.length≤1000000)(h:∀i (hi:i<l.length) (hi':i<l'.length) σ,Fun G F [vts l[i],vts l'[i]] σ (az (an (fE l[i] l'[i])) σ))(σ:LLV):
 Fun G 87 [.d (.sl (l.map dts)),.d (.sl (l'.map dts)),.fn F []] σ (az (an (fh l l')) σ):=by
 refine ai Tryz.func87 k87 rfl fun hb hw=>?_;unfold c87;simp -dsimp only[aw,jV,jW,jX,jY,jZ,jA,reduceIte,reduceCtorEq,jB,jC,jD,jE,jF,jG,RZ];refine aD (fun hne=>?_) (fun hlen=>?_)
 .simp -dsimp only[aw,jV,jW,jX,jY,jZ,jA,reduceIte,reduceCtorEq,jB,jC,jD,jE,jF,jG];exact ao hb rfl rfl Sa ⟨by rw[na (by simpa using hne)];rfl,rfl⟩
 .have hlen:l.length=l'.length:=by simpa using hlen
  simp -dsimp only[aw,jV,jW,jX,jY,jZ,jA,reduceIte,reduceCtorEq,jB,jC,jD,jE,jF,jG];refine aY [1,2,15,16,17] (R:=fun(j:Nat) ρ σ'=>ρ=[(1,.d (.sl (l'.map dts))),(2,.fn F []),(15,.d (.sl (l.map dts))),(16,aI .i64 l.length),(17,aI .i64 j)]/\σ'=σ/\fh l l'=fh (l.drop j) (l'.drop j)) l.length ⟨rfl,rfl,by simp⟩ ?_ _;rintro j ρ' σ' hj ⟨rfl,rfl,hrec⟩;by_cases hlt:j<l.length
  .have hlt':j<l'.length:=by omega
   simp -dsimp only[aw,jV,jW,jX,jY,jZ,jA,reduceIte,reduceCtorEq,jB,jC,jD,jE,jF,jG,RY,hlt,decide_true,R5 hlt,R5 hlt',bw];refine ac (by simpa only[ak]using h j hlt hlt' _) ?_;rw[pU hlt hlt']at hrec;cases hs:fE l[j] l'[j]with
   | false=>
    rw[hs,RX]at hrec;simp -dsimp only[aw,jV,jW,jX,jY,jZ,jA,reduceIte,reduceCtorEq,jB,jC,jD,jE,jF,jG];exact ao hb rfl rfl R7 ⟨by rw[hrec];rfl,rfl⟩
   | true=>
    rw[hs,RS]at hrec;simp -dsimp only[aw,jV,jW,jX,jY,jZ,jA,reduceIte,reduceCtorEq,jB,jC,jD,jE,jF,jG,bl hlt (show l.length≤9223372036854775807 by omega)];exact⟨hlt,Nxt.drop (Nat.le_refl _) hb rfl ⟨rfl,rfl,hrec⟩⟩
  .simp -dsimp only[aw,jV,jW,jX,jY,jZ,jA,reduceIte,reduceCtorEq,jB,jC,jD,jE,jF,jG,RY,hlt,decide_false];exact ao hb rfl rfl Sa ⟨by rw[hrec,R6 (by omega),R6 (by omega)];rfl,rfl⟩
theorem Cl(a:Ts):∀(b:Ts),bd a≤1000000->∀(σ:LLV),Fun G 50 [vts a,vts b] σ (az (an (fE a b)) σ):=by
 induction a using Ts.ind with
 | h a ih=>
 intro b hz σ;have hln:=ey a;have hE:=fun σ'=>AR a.args b.args 50 (by omega) (fun i hi hi' σ=>ih _ (R8 hi) _ (by have:=d5 (R8 hi);omega) σ) σ';refine ai Tryz.func50 k50 (by simp only[ak];rfl) fun hb hw=>?_;have hq:=sw a b
 have out:∀(p:Bool) (l:LLV),fE a b=p->fin σ.length ON (az (an (fE a b)) σ) .ret [(4,.d (.lit (.bool p)))] (σ++l):=fun p l h=>by
  rw[h];exact ao hb rfl rfl R7 ⟨rfl,rfl⟩
 unfold c50;simp -dsimp only[aw,jV,jW,jX,jY,jZ,jA,reduceIte,reduceCtorEq,jB,jC,jD,jE,jF,jG,ak];cases h1:decide (a.op=b.op)with
 | false=>rw[h1]at hq;simp -dsimp only[aw,jV,jW,jX,jY,jZ,jA,reduceIte,reduceCtorEq,jB,jC,jD,jE,jF,jG];exact out _ _ hq
 | true=>
 rw[h1,RS]at hq;simp -dsimp only[aw,jV,jW,jX,jY,jZ,jA,reduceIte,reduceCtorEq,jB,jC,jD,jE,jF,jG];cases h2:decide (a.lo=b.lo)with
 | false=>rw[h2]at hq;simp -dsimp only[aw,jV,jW,jX,jY,jZ,jA,reduceIte,reduceCtorEq,jB,jC,jD,jE,jF,jG];exact out _ _ hq
 | true=>
 rw[h2,RS]at hq;simp -dsimp only[aw,jV,jW,jX,jY,jZ,jA,reduceIte,reduceCtorEq,jB,jC,jD,jE,jF,jG];cases h3:decide (a.hi=b.hi)with
 | false=>rw[h3]at hq;simp -dsimp only[aw,jV,jW,jX,jY,jZ,jA,reduceIte,reduceCtorEq,jB,jC,jD,jE,jF,jG];exact out _ _ hq
 | true=>
 rw[h3,RS]at hq;simp -dsimp only[aw,jV,jW,jX,jY,jZ,jA,reduceIte,reduceCtorEq,jB,jC,jD,jE,jF,jG];cases h4:decide (a.name=b.name)with
 | false=>rw[h4]at hq;simp -dsimp only[aw,jV,jW,jX,jY,jZ,jA,reduceIte,reduceCtorEq,jB,jC,jD,jE,jF,jG];exact out _ _ hq
 | true=>
 rw[h4,RS]at hq;simp -dsimp only[aw,jV,jW,jX,jY,jZ,jA,reduceIte,reduceCtorEq,jB,jC,jD,jE,jF,jG];refine ac (by simpa only[al]using Hb a.ex b.ex _) ?_;cases h5:ju a.ex b.ex with
 | false=>rw[h5]at hq;simp -dsimp only[aw,jV,jW,jX,jY,jZ,jA,reduceIte,reduceCtorEq,jB,jC,jD,jE,jF,jG];exact out _ _ hq
 | true=>
 rw[h5,RS]at hq;simp -dsimp only[aw,jV,jW,jX,jY,jZ,jA,reduceIte,reduceCtorEq,jB,jC,jD,jE,jF,jG];refine ac (hE _) ?_;simp -dsimp only[aw,jV,jW,jX,jY,jZ,jA,reduceIte,reduceCtorEq,jB,jC,jD,jE,jF,jG];exact out _ _ hq
theorem kK(a:Ts):∀(b:Ts),bd a≤1000000->∀(σ:LLV),Fun G 13 [vts a,vts b] σ (az (an (fE a b)) σ):=by
 induction a using Ts.ind with
 | h a ih=>
 intro b hz σ;have hln:=ey a;refine ai Tryz.func13 k13 (by simp only[ak];rfl) fun hb hw=>?_;have hq:=sw a b
 have out:∀(p:Bool) (l:LLV),fE a b=p->fin σ.length Pu (az (an (fE a b)) σ) .ret [(4,.d (.lit (.bool p)))] (σ++l):=fun p l h=>by
  rw[h];exact ao hb rfl rfl R7 ⟨rfl,rfl⟩
 unfold c13;simp -dsimp only[aw,jV,jW,jX,jY,jZ,jA,reduceIte,reduceCtorEq,jB,jC,jD,jE,jF,jG,ak,RZ];cases h1:decide (a.op=b.op)with
 | false=>rw[h1]at hq;simp -dsimp only[aw,jV,jW,jX,jY,jZ,jA,reduceIte,reduceCtorEq,jB,jC,jD,jE,jF,jG];exact out _ _ hq
 | true=>
 rw[h1,RS]at hq;simp -dsimp only[aw,jV,jW,jX,jY,jZ,jA,reduceIte,reduceCtorEq,jB,jC,jD,jE,jF,jG];cases h2:decide (a.lo=b.lo)with
 | false=>rw[h2]at hq;simp -dsimp only[aw,jV,jW,jX,jY,jZ,jA,reduceIte,reduceCtorEq,jB,jC,jD,jE,jF,jG];exact out _ _ hq
 | true=>
 rw[h2,RS]at hq;simp -dsimp only[aw,jV,jW,jX,jY,jZ,jA,reduceIte,reduceCtorEq,jB,jC,jD,jE,jF,jG];cases h3:decide (a.hi=b.hi)with
 | false=>rw[h3]at hq;simp -dsimp only[aw,jV,jW,jX,jY,jZ,jA,reduceIte,reduceCtorEq,jB,jC,jD,jE,jF,jG];exact out _ _ hq
 | true=>
 rw[h3,RS]at hq;simp -dsimp only[aw,jV,jW,jX,jY,jZ,jA,reduceIte,reduceCtorEq,jB,jC,jD,jE,jF,jG];cases h4:decide (a.name=b.name)with
 | false=>rw[h4]at hq;simp -dsimp only[aw,jV,jW,jX,jY,jZ,jA,reduceIte,reduceCtorEq,jB,jC,jD,jE,jF,jG];exact out _ _ hq
 | true=>
 rw[h4,RS]at hq;simp -dsimp only[aw,jV,jW,jX,jY,jZ,jA,reduceIte,reduceCtorEq,jB,jC,jD,jE,jF,jG,RZ];by_cases h6:a.args.length=b.args.length
 .simp -dsimp only[aw,jV,jW,jX,jY,jZ,jA,reduceIte,reduceCtorEq,jB,jC,jD,jE,jF,jG,decide_eq_true h6];refine ac (by simpa only[al]using CQ a.ex b.ex _) ?_;cases h5:ju a.ex b.ex with
  | false=>rw[h5]at hq;simp -dsimp only[aw,jV,jW,jX,jY,jZ,jA,reduceIte,reduceCtorEq,jB,jC,jD,jE,jF,jG];exact out _ _ hq
  | true=>
  rw[h5,RS]at hq;simp -dsimp only[aw,jV,jW,jX,jY,jZ,jA,reduceIte,reduceCtorEq,jB,jC,jD,jE,jF,jG];refine aY [2,3,5] (R:=fun(j:Nat) ρ σ'=>ρ=[(2,.ptr σ.length 0),(3,.ptr (σ.length+1) 0),(5,aI .i64 j)]/\σ'=σ++[ig a,ig b]/\fh a.args b.args=fh (a.args.drop j) (b.args.drop j)) a.args.length ⟨rfl,rfl,by simp⟩ ?_ _;rintro j ρ' σ' hj ⟨rfl,rfl,hrec⟩;by_cases hlt:j<a.args.length
  .have hlt':j<b.args.length:=by omega
   simp -dsimp only[aw,jV,jW,jX,jY,jZ,jA,reduceIte,reduceCtorEq,jB,jC,jD,jE,jF,jG,RY,hlt,decide_true,R5 hlt,R5 hlt',bw a.args[j],bw b.args[j]];refine aN (by simpa only[ak]using ih _ (R8 hlt) b.args[j] (by have:=d5 (R8 hlt);omega) _) ?_;rw[pU hlt hlt']at hrec;cases hs:fE a.args[j] b.args[j]with
   | false=>
    rw[hs,RX]at hrec;simp -dsimp only[aw,jV,jW,jX,jY,jZ,jA,reduceIte,reduceCtorEq,jB,jC,jD,jE,jF,jG];exact out _ _ (by rw[hq,hrec])
   | true=>
    rw[hs,RS]at hrec;simp -dsimp only[aw,jV,jW,jX,jY,jZ,jA,reduceIte,reduceCtorEq,jB,jC,jD,jE,jF,jG,bl hlt (show a.args.length≤9223372036854775807 by omega)];exact⟨hlt,Nxt.same (by simp) (av hb rfl) (by simp[am,V.under]) ⟨rfl,rfl,hrec⟩⟩
  .simp -dsimp only[aw,jV,jW,jX,jY,jZ,jA,reduceIte,reduceCtorEq,jB,jC,jD,jE,jF,jG,RY,hlt,decide_false];exact out _ _ (by rw[hq,hrec,R6 (by omega),R6 (by omega)];rfl)
 .simp -dsimp only[aw,jV,jW,jX,jY,jZ,jA,reduceIte,reduceCtorEq,jB,jC,jD,jE,jF,jG,decide_eq_false h6];exact out _ _ (by rw[hq,na h6,RW])
theorem ww:∀(l l':List Ex),(∀a,a∈l->∀b,ju a b=true↔a=b)->(gA l l'=true↔l=l')
 | [],[],_=>by simp[gA]
 | a::r,b::r',h=>by
  simp only[gA,RU,h a (by simp) b,ww r r' (fun x hx=>h x (by simp[hx])),List.cons.injEq]
 | [],_::_,_=>by simp[gA]
 | _::_,[],_=>by simp[gA]
theorem Ey(a:Ex):∀b,ju a b=true↔a=b:=by
 induction a using Ex.ind2 with
 | h a ih=>
 intro b;rw[rH];simp only[RU,decide_eq_true_eq,ww _ _ ih];cases a;cases b;simp only[Ex.op,Ex.num,Ex.name,Ex.args,Ex.mk.injEq]
theorem sj:∀(l l':List Ts),(∀a,a∈l->∀b,fE a b=true↔a=b)->(fh l l'=true↔l=l')
 | [],[],_=>by simp[fh]
 | a::r,b::r',h=>by
  simp only[fh,RU,h a (by simp) b,sj r r' (fun x hx=>h x (by simp[hx])),List.cons.injEq]
 | [],_::_,_=>by simp[fh]
 | _::_,[],_=>by simp[fh]
theorem j0(a:Ts):∀b,fE a b=true↔a=b:=by
 induction a using Ts.ind with
 | h a ih=>
 intro b;rw[sw];simp only[RU,decide_eq_true_eq,sj _ _ ih,Ey];cases a;cases b;simp only[Ts.op,Ts.lo,Ts.hi,Ts.ex,Ts.name,Ts.args,Ts.mk.injEq];constructor
 .rintro⟨h1,h2,h3,h4,h5,h6⟩;exact⟨h1,h2,h3,h5,h4,h6⟩
 .rintro⟨h1,h2,h3,h4,h5,h6⟩;exact⟨h1,h2,h3,h5,h4,h6⟩
structure Pr where
 name:ByteArray
 plain:Bool
 over:Bool
 cond:Ts
 then_:Ts
def dpr(p:Pr):List D:=ae p.name::.lit (.bool p.plain)::.lit (.bool p.over)::(dts p.cond++dts p.then_)
def vpr(p:Pr):V:=.agg ((dpr p).map V.d)
theorem bW(p:Pr):vpr p=.agg [.d (ae p.name),.d (.lit (.bool p.plain)),.d (.lit (.bool p.over)),
 .d (ab p.cond.op),.d (ab p.cond.lo),.d (ab p.cond.hi),.d (ab p.cond.ex.op),.d (ab p.cond.ex.num),.d (ae p.cond.ex.name),.d (.sl (p.cond.ex.args.map dex)),.d (ae p.cond.name),.d (.sl (p.cond.args.map dts)),
 .d (ab p.then_.op),.d (ab p.then_.lo),.d (ab p.then_.hi),.d (ab p.then_.ex.op),.d (ab p.then_.ex.num),.d (ae p.then_.ex.name),.d (.sl (p.then_.ex.args.map dex)),.d (ae p.then_.name),.d (.sl (p.then_.args.map dts))]:=by
 unfold vpr dpr;rw[bw,bw];rfl
def zT:Ts:=.mk 0 0 0 (.mk 0 0 ⟨#[]⟩ []) ⟨#[]⟩ []
def fJ(s:Ts):Bool:=((((decide (s.op=0)&&decide (s.lo=0))&&decide (s.hi=0))&&ib s.ex)&&decide (s.name=⟨#[]⟩))&&decide ((s.args.length:Int)=0)
theorem qQ(s:Ts):fE s zT=fJ s:=by
 have hz:ib s.ex=true↔s.ex=.mk 0 0 ⟨#[]⟩ []:=by
  unfold ib;simp only[RU,decide_eq_true_eq];cases h:s.ex with
  | mk o n m l=>simp[Ex.op,Ex.num,Ex.name,Ex.args]
 rw[Bool.eq_iff_iff,j0];unfold fJ;simp only[RU,decide_eq_true_eq,hz];cases s with
 | mk o a b e n l=>
 simp only[zT,Ts.mk.injEq,Ts.op,Ts.lo,Ts.hi,Ts.ex,Ts.name,Ts.args];constructor
 .rintro⟨h1,h2,h3,h4,h5,h6⟩;exact⟨⟨⟨⟨⟨h1,h2⟩,h3⟩,h4⟩,h5⟩,by rw[h6];rfl⟩
 .rintro⟨⟨⟨⟨⟨h1,h2⟩,h3⟩,h4⟩,h5⟩,h6⟩;exact⟨h1,h2,h3,h4,h5,List.eq_nil_of_length_eq_zero (by omega)⟩
theorem CU(s:Ts)(σ:LLV):Fun G 38 [vts s] σ (az (an (fJ s)) σ):=by
 have hq:fJ s=fJ s:=rfl
 conv at hq=>rhs;unfold fJ
 refine ai Tryz.func38 k38 (by simp only[ak];rfl) fun hb hw=>?_;unfold c38
 have out:∀(b:Bool) (l:LLV),fJ s=b->fin σ.length Oo (az (an (fJ s)) σ) .ret [(2,an b)] (σ++l):=fun b l h=>by
  rw[h];exact ao hb rfl rfl R7 ⟨rfl,rfl⟩
 simp -dsimp only[aw,jV,jW,jX,jY,jZ,jA,reduceIte,reduceCtorEq,jB,jC,jD,jE,jF,jG,ak];refine aD (fun h1=>?_) (fun h1=>?_)
 .simp -dsimp only[aw,jV,jW,jX,jY,jZ,jA,reduceIte,reduceCtorEq,jB,jC,jD,jE,jF,jG];refine aD (fun h2=>?_) (fun h2=>?_)
  .simp -dsimp only[aw,jV,jW,jX,jY,jZ,jA,reduceIte,reduceCtorEq,jB,jC,jD,jE,jF,jG];refine aD (fun h3=>?_) (fun h3=>?_)
   .simp -dsimp only[aw,jV,jW,jX,jY,jZ,jA,reduceIte,reduceCtorEq,jB,jC,jD,jE,jF,jG];refine ac (by simpa only[al]using tg s.ex _) ?_;cases hz:ib s.ex with
    | true=>
     simp -dsimp only[aw,jV,jW,jX,jY,jZ,jA,reduceIte,reduceCtorEq,jB,jC,jD,jE,jF,jG];refine aD (fun h4=>?_) (fun h4=>?_)
     .simp -dsimp only[aw,jV,jW,jX,jY,jZ,jA,reduceIte,reduceCtorEq,jB,jC,jD,jE,jF,jG];exact out _ _ (by rw[hq,h1,h2,h3,hz,h4];simp)
     .simp -dsimp only[aw,jV,jW,jX,jY,jZ,jA,reduceIte,reduceCtorEq,jB,jC,jD,jE,jF,jG];exact out _ _ (by rw[hq,h1,h2,h3,hz,h4];simp)
    | false=>
     simp -dsimp only[aw,jV,jW,jX,jY,jZ,jA,reduceIte,reduceCtorEq,jB,jC,jD,jE,jF,jG];exact out _ _ (by rw[hq,h1,h2,h3,hz];simp)
   .simp -dsimp only[aw,jV,jW,jX,jY,jZ,jA,reduceIte,reduceCtorEq,jB,jC,jD,jE,jF,jG];exact out _ _ (by rw[hq,h1,h2,h3];simp)
  .simp -dsimp only[aw,jV,jW,jX,jY,jZ,jA,reduceIte,reduceCtorEq,jB,jC,jD,jE,jF,jG];exact out _ _ (by rw[hq,h1,h2];simp)
 .simp -dsimp only[aw,jV,jW,jX,jY,jZ,jA,reduceIte,reduceCtorEq,jB,jC,jD,jE,jF,jG];exact out _ _ (by rw[hq,h1];simp)
def cm(p:Pr):Int:=
 if bt p.name=false then 7
 else if p.plain=true/\(p.over=true\/fJ p.cond=false)then 1
 else if p.plain=false/\cy p.cond≠0 then cy p.cond
 else cy p.then_
theorem jJ(p:Pr)(h1:bd p.cond≤1000000)(h2:bd p.then_≤1000000)(σ:LLV):Fun G 25 [vpr p] σ (az (.d (ab (cm p))) σ):=by
 have hq:cm p=cm p:=rfl
 conv at hq=>rhs;unfold cm
 refine ai Tryz.func25 k25 (by simp only[bW];rfl) fun hb hw=>?_;unfold c25
 have out:∀(n:Int) (l:LLV),cm p=n->fin σ.length NT (az (.d (ab (cm p))) σ) .ret [(2,.d (.lit (.int .i64 n)))] (σ++l):=fun n l h=>by
  rw[h];exact ao hb rfl rfl R7 ⟨rfl,rfl⟩
 have hsame:∀σ,Fun G 50 [vts p.cond,vts zT] σ (az (an (fJ p.cond)) σ):=fun σ=>by rw[<-qQ];exact Cl p.cond zT h1 σ
 have hz:vts zT=.agg [.d (ab 0),.d (ab 0),.d (ab 0),.d (ab 0),.d (ab 0),.d (ae ⟨#[]⟩),.d (.sl []),.d (ae ⟨#[]⟩),.d (.sl [])]:=by rw[ak];rfl
 simp only[hz]at hsame;simp -dsimp only[aw,jV,jW,jX,jY,jZ,jA,reduceIte,reduceCtorEq,jB,jC,jD,jE,jF,jG,bW];refine ac (pP p.name _) ?_;cases hn:bt p.name with
 | false=>
  rw[if_pos hn]at hq;simp -dsimp only[aw,jV,jW,jX,jY,jZ,jA,reduceIte,reduceCtorEq,jB,jC,jD,jE,jF,jG];exact out 7 _ hq
 | true=>
 rw[if_neg (by rw[hn];simp)]at hq;cases hp:p.plain with
 | true=>
  rw[hp]at hq;cases ho:p.over with
  | true=>
   rw[if_pos ⟨rfl,.inl ho⟩]at hq;simp -dsimp only[aw,jV,jW,jX,jY,jZ,jA,reduceIte,reduceCtorEq,jB,jC,jD,jE,jF,jG];exact out 1 _ hq
  | false=>
   simp -dsimp only[aw,jV,jW,jX,jY,jZ,jA,reduceIte,reduceCtorEq,jB,jC,jD,jE,jF,jG];refine ac (by simpa only[ak]using hsame _) ?_;cases he:fJ p.cond with
   | false=>
    rw[if_pos ⟨rfl,.inr he⟩]at hq;simp -dsimp only[aw,jV,jW,jX,jY,jZ,jA,reduceIte,reduceCtorEq,jB,jC,jD,jE,jF,jG];exact out 1 _ hq
   | true=>
    rw[if_neg (by rw[ho,he];simp),if_neg (by simp)]at hq;simp -dsimp only[aw,jV,jW,jX,jY,jZ,jA,reduceIte,reduceCtorEq,jB,jC,jD,jE,jF,jG];refine ac (by simpa only[ak]using je p.then_ h2 _) ?_;simp -dsimp only[aw,jV,jW,jX,jY,jZ,jA,reduceIte,reduceCtorEq,jB,jC,jD,jE,jF,jG];exact out _ _ hq
 | false=>
  rw[if_neg (by rw[hp];simp)]at hq;simp -dsimp only[aw,jV,jW,jX,jY,jZ,jA,reduceIte,reduceCtorEq,jB,jC,jD,jE,jF,jG];refine ac (by simpa only[ak]using je p.cond h1 _) ?_;by_cases h0:cy p.cond=0
  .rw[if_neg (by simp[h0])]at hq;simp -dsimp only[aw,jV,jW,jX,jY,jZ,jA,reduceIte,reduceCtorEq,jB,jC,jD,jE,jF,jG,h0,R0,decide_true,decide_false];refine ac (by simpa only[ak]using je p.then_ h2 _) ?_;simp -dsimp only[aw,jV,jW,jX,jY,jZ,jA,reduceIte,reduceCtorEq,jB,jC,jD,jE,jF,jG];exact out _ _ hq
  .rw[if_pos ⟨hp,h0⟩]at hq;simp -dsimp only[aw,jV,jW,jX,jY,jZ,jA,reduceIte,reduceCtorEq,jB,jC,jD,jE,jF,jG,decide_eq_false h0];exact out _ _ hq
theorem qO(p:Pr)(h1:bd p.cond≤1000000)(h2:bd p.then_≤1000000)(σ:LLV):Fun G 18 [vpr p] σ (az (.d (ab (cm p))) σ):=by
 have hq:cm p=cm p:=rfl
 conv at hq=>rhs;unfold cm
 refine ai Tryz.func18 k18 (by simp only[bW];rfl) fun hb hw=>?_;unfold c18
 have out:∀(n:Int) (l:LLV),cm p=n->fin σ.length OL (az (.d (ab (cm p))) σ) .ret [(2,.d (.lit (.int .i64 n)))] (σ++l):=fun n l h=>by
  rw[h];exact ao hb rfl rfl R7 ⟨rfl,rfl⟩
 simp -dsimp only[aw,jV,jW,jX,jY,jZ,jA,reduceIte,reduceCtorEq,jB,jC,jD,jE,jF,jG,bW];refine ac (pZ p.name _) ?_;cases hn:bt p.name with
 | false=>
  rw[if_pos hn]at hq;simp -dsimp only[aw,jV,jW,jX,jY,jZ,jA,reduceIte,reduceCtorEq,jB,jC,jD,jE,jF,jG];exact out 7 _ hq
 | true=>
 rw[if_neg (by rw[hn];simp)]at hq;cases hp:p.plain with
 | true=>
  rw[hp]at hq;cases ho:p.over with
  | true=>
   rw[if_pos ⟨rfl,.inl ho⟩]at hq;simp -dsimp only[aw,jV,jW,jX,jY,jZ,jA,reduceIte,reduceCtorEq,jB,jC,jD,jE,jF,jG];exact out 1 _ hq
  | false=>
   simp -dsimp only[aw,jV,jW,jX,jY,jZ,jA,reduceIte,reduceCtorEq,jB,jC,jD,jE,jF,jG];refine ac (by simpa only[ak]using CU p.cond _) ?_;cases he:fJ p.cond with
   | false=>
    rw[if_pos ⟨rfl,.inr he⟩]at hq;simp -dsimp only[aw,jV,jW,jX,jY,jZ,jA,reduceIte,reduceCtorEq,jB,jC,jD,jE,jF,jG];exact out 1 _ hq
   | true=>
    rw[if_neg (by rw[ho,he];simp),if_neg (by simp)]at hq;simp -dsimp only[aw,jV,jW,jX,jY,jZ,jA,reduceIte,reduceCtorEq,jB,jC,jD,jE,jF,jG];refine ac (by simpa only[ak]using iI p.then_ h2 _) ?_;simp -dsimp only[aw,jV,jW,jX,jY,jZ,jA,reduceIte,reduceCtorEq,jB,jC,jD,jE,jF,jG];exact out _ _ hq
 | false=>
  rw[if_neg (by rw[hp];simp)]at hq;simp -dsimp only[aw,jV,jW,jX,jY,jZ,jA,reduceIte,reduceCtorEq,jB,jC,jD,jE,jF,jG];refine ac (by simpa only[ak]using iI p.cond h1 _) ?_;by_cases h0:cy p.cond=0
  .rw[if_neg (by simp[h0])]at hq;simp -dsimp only[aw,jV,jW,jX,jY,jZ,jA,reduceIte,reduceCtorEq,jB,jC,jD,jE,jF,jG,h0,R0,decide_true,decide_false];refine ac (by simpa only[ak]using iI p.then_ h2 _) ?_;simp -dsimp only[aw,jV,jW,jX,jY,jZ,jA,reduceIte,reduceCtorEq,jB,jC,jD,jE,jF,jG];exact out _ _ hq
  .rw[if_pos ⟨hp,h0⟩]at hq;simp -dsimp only[aw,jV,jW,jX,jY,jZ,jA,reduceIte,reduceCtorEq,jB,jC,jD,jE,jF,jG,decide_eq_false h0];exact out _ _ hq
end Go.Proofs.YthekkgfmagliiaaGreatDoor
