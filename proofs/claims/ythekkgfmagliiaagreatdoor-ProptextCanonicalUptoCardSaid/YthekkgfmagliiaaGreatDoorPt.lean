import Derived.Test.YthekkgfmagliiaaGreatDoorShelf
set_option maxHeartbeats 1000000
set_option linter.unusedVariables false
set_option linter.unusedSimpArgs false
set_option linter.unusedSectionVars false
open Bool renaming true_and->Rs,and_eq_true->Ru,and_false->Rv,false_and->Rw
open Int renaming ofNat_lt->Rx,ofNat_inj->Ry
open List renaming suffix_refl->Rz,getElem?_eq_getElem->RA,drop_of_length_le->RB,take_left->RC,getElem_mem->RD,drop_eq_getElem_cons->RE,take_length->RF,suffix_cons->RG,getElem_cons_zero->RH,length_map->RI,map->RJ
open Nat renaming le_refl->RK,lt_of_lt_of_le->RL,lt_of_le_of_lt->RM,le_succ->RN
namespace Go.Proofs.YthekkgfmagliiaaGreatDoor
open Go.RowKit
open Nat renaming reduceLeDiff -> jA, reduceBEq -> jB, reduceLT -> jC, reduceEqDiff -> jD, reduceAdd -> jE, reduceSub -> jF, reduceMul -> jG
open V renaming copy -> jV, lend -> jW, lend1 -> jX, cells -> jY, boxable -> jZ
mutual
def jh:Ex->Ex->Bool
 | .mk o n s l,.mk o' n' s' l'=>(decide (o=o')&&(decide (n=n')&&(decide (s=s')&&gr l l')))
def gr:List Ex->List Ex->Bool
 | [],[]=>true
 | a::r,b::r'=>jh a b&&gr r r'
 | _,_=>false
end
theorem oh:∀{l l':List Ex},l.length≠l'.length->gr l l'=false
 | [],[],h=>absurd rfl h
 | a::r,b::r',h=>by simp only[gr,oh (l:=r) (l':=r') (by simpa using h),Rv]
 | [],_::_,_=>rfl
 | _::_,[],_=>rfl
theorem qu(a b:Ex):jh a b=(decide (a.op=b.op)&&(decide (a.num=b.num)&&(decide (a.name=b.name)&&gr a.args b.args))):=by
 cases a;cases b;rfl
theorem Ex.ind2{P:Ex->Prop}(h:∀e:Ex,(∀a,a∈e.args->P a)->P e):∀e,P e:=Ex.ind fun o n s l ih=>h (.mk o n s l) ih
theorem ky{l l':List Ex}{j:Nat}(h:j<l.length)(h':j<l'.length):gr (l.drop j) (l'.drop j)=(jh l[j] l'[j]&&gr (l.drop (j+1)) (l'.drop (j+1))):=by
 rw[RE h,RE h'];rfl
theorem DB(l l':List Ex)(F:FuncId)(h:∀i (hi:i<l.length) (hi':i<l'.length) σ,Fun G F [vex l[i],vex l'[i]] σ (aA (aq (jh l[i] l'[i])) σ))(σ:LLV):
 Fun G 122 [.d (.sl (l.map dex)),.d (.sl (l'.map dex)),.fn F []] σ (aA (aq (gr l l')) σ):=by
 refine ai Tryz.func122 Qs rfl fun hb hw=>?_;have hm:=D7 (hw 0 (by simp));rw[RI]at hm;unfold Nc;simp -dsimp only[aw,jV,jW,jX,jY,jZ,jA,reduceIte,reduceCtorEq,jB,jC,jD,jE,jF,jG,Ry];refine bA (fun hne=>?_) (fun hlen=>?_)
 .simp -dsimp only[aw,jV,jW,jX,jY,jZ,jA,reduceIte,reduceCtorEq,jB,jC,jD,jE,jF,jG];exact al hb rfl rfl RF ⟨by rw[oh (by simpa using hne)];rfl,rfl⟩
 .have hlen:l.length=l'.length:=by simpa using hlen
  simp -dsimp only[aw,jV,jW,jX,jY,jZ,jA,reduceIte,reduceCtorEq,jB,jC,jD,jE,jF,jG];refine fT (R:=fun(j:Nat) ρ σ'=>ρ=[(1,.d (.sl (l'.map dex))),(2,.fn F []),(15,.d (.sl (l.map dex))),(16,aL .i64 l.length),(17,aL .i64 j)]/\σ'=σ/\gr l l'=gr (l.drop j) (l'.drop j)) l.length ⟨rfl,rfl,by simp⟩ ?_ _;rintro j ρ' σ' hj ⟨rfl,rfl,hrec⟩;by_cases hlt:j<l.length
  .have hlt':j<l'.length:=by omega
   simp -dsimp only[aw,jV,jW,jX,jY,jZ,jA,reduceIte,reduceCtorEq,jB,jC,jD,jE,jF,jG,Rx,hlt,decide_true,RA hlt,RA hlt',bB];refine ac (by simpa only[ak]using h j hlt hlt' _) ?_;simp -dsimp only[aw,jV,jW,jX,jY,jZ,jA,reduceIte,reduceCtorEq,jB,jC,jD,jE,jF,jG,ba hlt hm];refine bA (fun hs=>?_) (fun hs=>?_)
   .simp -dsimp only[aw,jV,jW,jX,jY,jZ,jA,reduceIte,reduceCtorEq,jB,jC,jD,jE,jF,jG];exact al hb rfl rfl RC ⟨by rw[hrec,ky hlt hlt'];simp only[Bool.not_eq_true']at hs;rw[hs];rfl,rfl⟩
   .simp -dsimp only[aw,jV,jW,jX,jY,jZ,jA,reduceIte,reduceCtorEq,jB,jC,jD,jE,jF,jG,ba hlt hm];refine⟨hlt,Nxt.drop (RK _) hb ?_ ?_⟩
    .rfl
    .exact⟨rfl,rfl,by rw[hrec,ky hlt hlt'];simp only[Bool.not_eq_false']at hs;rw[hs];rfl⟩
  .simp -dsimp only[aw,jV,jW,jX,jY,jZ,jA,reduceIte,reduceCtorEq,jB,jC,jD,jE,jF,jG,Rx,hlt,decide_false];exact al hb rfl rfl RF ⟨by rw[hrec,RB (by omega),RB (by omega)];rfl,rfl⟩
theorem Er(a:Ex):∀(b:Ex) (σ:LLV),Fun G 86 [vex a,vex b] σ (aA (aq (jh a b)) σ):=by
 induction a using Ex.ind2 with
 | h a ih=>
 intro b σ;have hE:=fun σ'=>DB a.args b.args 86 (fun i hi hi' σ=>ih _ (RD hi) _ σ) σ';refine ai Tryz.func86 k86 (by simp only[ak];rfl) fun hb hw=>?_;have hq:=qu a b;unfold c86;simp -dsimp only[aw,jV,jW,jX,jY,jZ,jA,reduceIte,reduceCtorEq,jB,jC,jD,jE,jF,jG,ak];refine bA (fun h1=>?_) (fun h1=>?_)
 .simp -dsimp only[aw,jV,jW,jX,jY,jZ,jA,reduceIte,reduceCtorEq,jB,jC,jD,jE,jF,jG];refine bA (fun h2=>?_) (fun h2=>?_)
  .simp -dsimp only[aw,jV,jW,jX,jY,jZ,jA,reduceIte,reduceCtorEq,jB,jC,jD,jE,jF,jG];refine bA (fun h3=>?_) (fun h3=>?_)
   .simp -dsimp only[aw,jV,jW,jX,jY,jZ,jA,reduceIte,reduceCtorEq,jB,jC,jD,jE,jF,jG];refine ac (hE _) ?_;simp -dsimp only[aw,jV,jW,jX,jY,jZ,jA,reduceIte,reduceCtorEq,jB,jC,jD,jE,jF,jG];exact al hb rfl rfl RC ⟨by rw[hq,h1,h2,h3];rfl,rfl⟩
   .simp -dsimp only[aw,jV,jW,jX,jY,jZ,jA,reduceIte,reduceCtorEq,jB,jC,jD,jE,jF,jG];exact al hb rfl rfl RC ⟨by rw[hq,h1,h2,h3];rfl,rfl⟩
  .simp -dsimp only[aw,jV,jW,jX,jY,jZ,jA,reduceIte,reduceCtorEq,jB,jC,jD,jE,jF,jG];exact al hb rfl rfl RC ⟨by rw[hq,h1,h2];rfl,rfl⟩
 .simp -dsimp only[aw,jV,jW,jX,jY,jZ,jA,reduceIte,reduceCtorEq,jB,jC,jD,jE,jF,jG];exact al hb rfl rfl RC ⟨by rw[hq,h1];rfl,rfl⟩
theorem C1(a:Ex):∀(b:Ex) (σ:LLV),Fun G 34 [vex a,vex b] σ (aA (aq (jh a b)) σ):=by
 induction a using Ex.ind2 with
 | h a ih=>
 intro b σ;refine ai Tryz.func34 k34 (by simp only[ak];rfl) fun hb hw=>?_;have hq:=qu a b;have h0:=hw 0 (by simp);simp only[RH,ak]at h0;have hm:=D7 (uh h0 3 (by simp));simp only[List.getElem_cons_succ,RH,RI]at hm
 have out:∀(σ' l:LLV) (b1:Bool),jh a b=b1->σ'=σ++l->fin σ.length Ok (aA (aq (jh a b)) σ) .ret [(4,.d (.lit (.bool b1)))] σ':=fun σ' l b1 h e=>by
  subst e;exact al hb rfl rfl RC ⟨by rw[h];rfl,rfl⟩
 unfold c34;simp -dsimp only[aw,jV,jW,jX,jY,jZ,jA,reduceIte,reduceCtorEq,jB,jC,jD,jE,jF,jG,ak];refine bA (fun h1=>?_) (fun h1=>?_)
 .simp -dsimp only[aw,jV,jW,jX,jY,jZ,jA,reduceIte,reduceCtorEq,jB,jC,jD,jE,jF,jG];refine bA (fun h2=>?_) (fun h2=>?_)
  .simp -dsimp only[aw,jV,jW,jX,jY,jZ,jA,reduceIte,reduceCtorEq,jB,jC,jD,jE,jF,jG];refine bA (fun h3=>?_) (fun h3=>?_)
   .simp -dsimp only[aw,jV,jW,jX,jY,jZ,jA,reduceIte,reduceCtorEq,jB,jC,jD,jE,jF,jG,Ry];refine bA (fun h4=>?_) (fun h4=>?_)
    .simp -dsimp only[aw,jV,jW,jX,jY,jZ,jA,reduceIte,reduceCtorEq,jB,jC,jD,jE,jF,jG];exact out _ _ _ (by rw[hq,oh (by simpa using h4)];simp) rfl
    .simp -dsimp only[aw,jV,jW,jX,jY,jZ,jA,reduceIte,reduceCtorEq,jB,jC,jD,jE,jF,jG];have h4:a.args.length=b.args.length:=by simpa using h4
     generalize hbx:[[V.d (ab a.op),V.d (ab a.num),V.d (ae a.name),V.d (D.sl (RJ dex a.args))],[V.d (ab b.op),V.d (ab b.num),V.d (ae b.name),V.d (D.sl (RJ dex b.args))]]=bx at out ⊢;refine fT (R:=fun(j:Nat) ρ σ'=>ρ=[(2,.ptr σ.length 0),(3,.ptr (σ.length+1) 0),(5,aL .i64 j)]/\σ'=σ++bx/\gr a.args b.args=gr (a.args.drop j) (b.args.drop j)) a.args.length ⟨rfl,rfl,by simp⟩ ?_ _;rintro j ρ' σ' hj ⟨rfl,rfl,hrec⟩;subst hbx;by_cases hlt:j<a.args.length
     .have hlt':j<b.args.length:=by omega
      simp -dsimp only[aw,jV,jW,jX,jY,jZ,jA,reduceIte,reduceCtorEq,jB,jC,jD,jE,jF,jG,Rx,hlt,decide_true,RA hlt,RA hlt',bB];refine bd (by simpa only[ak]using ih _ (RD hlt) _ _) ?_;simp -dsimp only[aw,jV,jW,jX,jY,jZ,jA,reduceIte,reduceCtorEq,jB,jC,jD,jE,jF,jG,ba hlt hm];refine bA (fun hs=>?_) (fun hs=>?_)
      .simp -dsimp only[aw,jV,jW,jX,jY,jZ,jA,reduceIte,reduceCtorEq,jB,jC,jD,jE,jF,jG];exact out _ _ _ (by rw[hq,hrec,ky hlt hlt'];simp_all) rfl
      .simp -dsimp only[aw,jV,jW,jX,jY,jZ,jA,reduceIte,reduceCtorEq,jB,jC,jD,jE,jF,jG,ba hlt hm];refine⟨hlt,Nxt.same (by simp) (aE hb rfl) ?_ ?_⟩
       .simp[ao,V.under]
       .exact⟨rfl,rfl,by rw[hrec,ky hlt hlt'];simp_all⟩
     .simp -dsimp only[aw,jV,jW,jX,jY,jZ,jA,reduceIte,reduceCtorEq,jB,jC,jD,jE,jF,jG,Rx,hlt,decide_false];exact out _ _ _ (by rw[hq,hrec,RB (by omega),RB (by omega)];simp_all[gr]) rfl
   .simp -dsimp only[aw,jV,jW,jX,jY,jZ,jA,reduceIte,reduceCtorEq,jB,jC,jD,jE,jF,jG];exact out _ _ _ (by rw[hq];simp_all) rfl
  .simp -dsimp only[aw,jV,jW,jX,jY,jZ,jA,reduceIte,reduceCtorEq,jB,jC,jD,jE,jF,jG];exact out _ _ _ (by rw[hq];simp_all) rfl
 .simp -dsimp only[aw,jV,jW,jX,jY,jZ,jA,reduceIte,reduceCtorEq,jB,jC,jD,jE,jF,jG];exact out _ _ _ (by rw[hq];simp_all) rfl
mutual
def fA:Ts->Ts->Bool
 | .mk o a b e s l,.mk o' a' b' e' s' l'=>decide (o=o')&&(decide (a=a')&&(decide (b=b')&&(decide (s=s')&&(jh e e'&&fc l l'))))
def fc:List Ts->List Ts->Bool
 | [],[]=>true
 | a::r,b::r'=>fA a b&&fc r r'
 | _,_=>false
end
theorem mj:∀{l l':List Ts},l.length≠l'.length->fc l l'=false
 | [],[],h=>absurd rfl h
 | a::r,b::r',h=>by simp only[fc,mj (l:=r) (l':=r') (by simpa using h),Rv]
 | [],_::_,_=>rfl
 | _::_,[],_=>rfl
theorem qh(a b:Ts):fA a b=(decide (a.op=b.op)&&(decide (a.lo=b.lo)&&(decide (a.hi=b.hi)&&(decide (a.name=b.name)&&(jh a.ex b.ex&&fc a.args b.args))))):=by
 cases a;cases b;rfl
theorem pz{l l':List Ts}{j:Nat}(h:j<l.length)(h':j<l'.length):fc (l.drop j) (l'.drop j)=(fA l[j] l'[j]&&fc (l.drop (j+1)) (l'.drop (j+1))):=by
 rw[RE h,RE h'];rfl
theorem y4(l l':List Ts)(F:FuncId)(hm:l.length≤1000000)(h:∀i (hi:i<l.length) (hi':i<l'.length) σ,Fun G F [vts l[i],vts l'[i]] σ (aA (aq (fA l[i] l'[i])) σ))(σ:LLV):
 Fun G 87 [.d (.sl (l.map dts)),.d (.sl (l'.map dts)),.fn F []] σ (aA (aq (fc l l')) σ):=by
 refine ai Tryz.func87 k87 rfl fun hb hw=>?_;unfold c87;simp -dsimp only[aw,jV,jW,jX,jY,jZ,jA,reduceIte,reduceCtorEq,jB,jC,jD,jE,jF,jG,Ry];refine bA (fun hne=>?_) (fun hlen=>?_)
 .simp -dsimp only[aw,jV,jW,jX,jY,jZ,jA,reduceIte,reduceCtorEq,jB,jC,jD,jE,jF,jG];exact al hb rfl rfl RF ⟨by rw[mj (by simpa using hne)];rfl,rfl⟩
 .have hlen:l.length=l'.length:=by simpa using hlen
  simp -dsimp only[aw,jV,jW,jX,jY,jZ,jA,reduceIte,reduceCtorEq,jB,jC,jD,jE,jF,jG];refine bj [1,2,15,16,17] (R:=fun(j:Nat) ρ σ'=>ρ=[(1,.d (.sl (l'.map dts))),(2,.fn F []),(15,.d (.sl (l.map dts))),(16,aL .i64 l.length),(17,aL .i64 j)]/\σ'=σ/\fc l l'=fc (l.drop j) (l'.drop j)) l.length ⟨rfl,rfl,by simp⟩ ?_ _;rintro j ρ' σ' hj ⟨rfl,rfl,hrec⟩;by_cases hlt:j<l.length
  .have hlt':j<l'.length:=by omega
   simp -dsimp only[aw,jV,jW,jX,jY,jZ,jA,reduceIte,reduceCtorEq,jB,jC,jD,jE,jF,jG,Rx,hlt,decide_true,RA hlt,RA hlt',bY];refine ac (by simpa only[am]using h j hlt hlt' _) ?_;rw[pz hlt hlt']at hrec;cases hs:fA l[j] l'[j]with
   | false=>
    rw[hs,Rw]at hrec;simp -dsimp only[aw,jV,jW,jX,jY,jZ,jA,reduceIte,reduceCtorEq,jB,jC,jD,jE,jF,jG];exact al hb rfl rfl RC ⟨by rw[hrec];rfl,rfl⟩
   | true=>
    rw[hs,Rs]at hrec;simp -dsimp only[aw,jV,jW,jX,jY,jZ,jA,reduceIte,reduceCtorEq,jB,jC,jD,jE,jF,jG,ba hlt (show l.length≤9223372036854775807 by omega)];exact⟨hlt,Nxt.drop (RK _) hb rfl ⟨rfl,rfl,hrec⟩⟩
  .simp -dsimp only[aw,jV,jW,jX,jY,jZ,jA,reduceIte,reduceCtorEq,jB,jC,jD,jE,jF,jG,Rx,hlt,decide_false];exact al hb rfl rfl RF ⟨by rw[hrec,RB (by omega),RB (by omega)];rfl,rfl⟩
theorem DN(a:Ts):∀(b:Ts),cl a≤1000000->∀(σ:LLV),Fun G 50 [vts a,vts b] σ (aA (aq (fA a b)) σ):=by
 induction a using Ts.ind with
 | h a ih=>
 intro b hz σ;have hln:=gm a;have hE:=fun σ'=>y4 a.args b.args 50 (by omega) (fun i hi hi' σ=>ih _ (RD hi) _ (by have:=f5 (RD hi);omega) σ) σ';refine ai Tryz.func50 k50 (by simp only[am];rfl) fun hb hw=>?_;have hq:=qh a b
 have out:∀(p:Bool) (l:LLV),fA a b=p->fin σ.length N0 (aA (aq (fA a b)) σ) .ret [(4,.d (.lit (.bool p)))] (σ++l):=fun p l h=>by
  rw[h];exact al hb rfl rfl RC ⟨rfl,rfl⟩
 unfold c50;simp -dsimp only[aw,jV,jW,jX,jY,jZ,jA,reduceIte,reduceCtorEq,jB,jC,jD,jE,jF,jG,am];cases h1:decide (a.op=b.op)with
 | false=>rw[h1]at hq;simp -dsimp only[aw,jV,jW,jX,jY,jZ,jA,reduceIte,reduceCtorEq,jB,jC,jD,jE,jF,jG];exact out _ _ hq
 | true=>
 rw[h1,Rs]at hq;simp -dsimp only[aw,jV,jW,jX,jY,jZ,jA,reduceIte,reduceCtorEq,jB,jC,jD,jE,jF,jG];cases h2:decide (a.lo=b.lo)with
 | false=>rw[h2]at hq;simp -dsimp only[aw,jV,jW,jX,jY,jZ,jA,reduceIte,reduceCtorEq,jB,jC,jD,jE,jF,jG];exact out _ _ hq
 | true=>
 rw[h2,Rs]at hq;simp -dsimp only[aw,jV,jW,jX,jY,jZ,jA,reduceIte,reduceCtorEq,jB,jC,jD,jE,jF,jG];cases h3:decide (a.hi=b.hi)with
 | false=>rw[h3]at hq;simp -dsimp only[aw,jV,jW,jX,jY,jZ,jA,reduceIte,reduceCtorEq,jB,jC,jD,jE,jF,jG];exact out _ _ hq
 | true=>
 rw[h3,Rs]at hq;simp -dsimp only[aw,jV,jW,jX,jY,jZ,jA,reduceIte,reduceCtorEq,jB,jC,jD,jE,jF,jG];cases h4:decide (a.name=b.name)with
 | false=>rw[h4]at hq;simp -dsimp only[aw,jV,jW,jX,jY,jZ,jA,reduceIte,reduceCtorEq,jB,jC,jD,jE,jF,jG];exact out _ _ hq
 | true=>
 rw[h4,Rs]at hq;simp -dsimp only[aw,jV,jW,jX,jY,jZ,jA,reduceIte,reduceCtorEq,jB,jC,jD,jE,jF,jG];refine ac (by simpa only[ak]using Er a.ex b.ex _) ?_;cases h5:jh a.ex b.ex with
 | false=>rw[h5]at hq;simp -dsimp only[aw,jV,jW,jX,jY,jZ,jA,reduceIte,reduceCtorEq,jB,jC,jD,jE,jF,jG];exact out _ _ hq
 | true=>
 rw[h5,Rs]at hq;simp -dsimp only[aw,jV,jW,jX,jY,jZ,jA,reduceIte,reduceCtorEq,jB,jC,jD,jE,jF,jG];refine ac (hE _) ?_;simp -dsimp only[aw,jV,jW,jX,jY,jZ,jA,reduceIte,reduceCtorEq,jB,jC,jD,jE,jF,jG];exact out _ _ hq
theorem ko(a:Ts):∀(b:Ts),cl a≤1000000->∀(σ:LLV),Fun G 13 [vts a,vts b] σ (aA (aq (fA a b)) σ):=by
 induction a using Ts.ind with
 | h a ih=>
 intro b hz σ;have hln:=gm a;refine ai Tryz.func13 k13 (by simp only[am];rfl) fun hb hw=>?_;have hq:=qh a b
 have out:∀(p:Bool) (l:LLV),fA a b=p->fin σ.length OS (aA (aq (fA a b)) σ) .ret [(4,.d (.lit (.bool p)))] (σ++l):=fun p l h=>by
  rw[h];exact al hb rfl rfl RC ⟨rfl,rfl⟩
 unfold c13;simp -dsimp only[aw,jV,jW,jX,jY,jZ,jA,reduceIte,reduceCtorEq,jB,jC,jD,jE,jF,jG,am,Ry];cases h1:decide (a.op=b.op)with
 | false=>rw[h1]at hq;simp -dsimp only[aw,jV,jW,jX,jY,jZ,jA,reduceIte,reduceCtorEq,jB,jC,jD,jE,jF,jG];exact out _ _ hq
 | true=>
 rw[h1,Rs]at hq;simp -dsimp only[aw,jV,jW,jX,jY,jZ,jA,reduceIte,reduceCtorEq,jB,jC,jD,jE,jF,jG];cases h2:decide (a.lo=b.lo)with
 | false=>rw[h2]at hq;simp -dsimp only[aw,jV,jW,jX,jY,jZ,jA,reduceIte,reduceCtorEq,jB,jC,jD,jE,jF,jG];exact out _ _ hq
 | true=>
 rw[h2,Rs]at hq;simp -dsimp only[aw,jV,jW,jX,jY,jZ,jA,reduceIte,reduceCtorEq,jB,jC,jD,jE,jF,jG];cases h3:decide (a.hi=b.hi)with
 | false=>rw[h3]at hq;simp -dsimp only[aw,jV,jW,jX,jY,jZ,jA,reduceIte,reduceCtorEq,jB,jC,jD,jE,jF,jG];exact out _ _ hq
 | true=>
 rw[h3,Rs]at hq;simp -dsimp only[aw,jV,jW,jX,jY,jZ,jA,reduceIte,reduceCtorEq,jB,jC,jD,jE,jF,jG];cases h4:decide (a.name=b.name)with
 | false=>rw[h4]at hq;simp -dsimp only[aw,jV,jW,jX,jY,jZ,jA,reduceIte,reduceCtorEq,jB,jC,jD,jE,jF,jG];exact out _ _ hq
 | true=>
 rw[h4,Rs]at hq;simp -dsimp only[aw,jV,jW,jX,jY,jZ,jA,reduceIte,reduceCtorEq,jB,jC,jD,jE,jF,jG,Ry];by_cases h6:a.args.length=b.args.length
 .simp -dsimp only[aw,jV,jW,jX,jY,jZ,jA,reduceIte,reduceCtorEq,jB,jC,jD,jE,jF,jG,decide_eq_true h6];refine ac (by simpa only[ak]using C1 a.ex b.ex _) ?_;cases h5:jh a.ex b.ex with
  | false=>rw[h5]at hq;simp -dsimp only[aw,jV,jW,jX,jY,jZ,jA,reduceIte,reduceCtorEq,jB,jC,jD,jE,jF,jG];exact out _ _ hq
  | true=>
  rw[h5,Rs]at hq;simp -dsimp only[aw,jV,jW,jX,jY,jZ,jA,reduceIte,reduceCtorEq,jB,jC,jD,jE,jF,jG];refine bj [2,3,5] (R:=fun(j:Nat) ρ σ'=>ρ=[(2,.ptr σ.length 0),(3,.ptr (σ.length+1) 0),(5,aL .i64 j)]/\σ'=σ++[wm a,wm b]/\fc a.args b.args=fc (a.args.drop j) (b.args.drop j)) a.args.length ⟨rfl,rfl,by simp⟩ ?_ _;rintro j ρ' σ' hj ⟨rfl,rfl,hrec⟩;by_cases hlt:j<a.args.length
  .have hlt':j<b.args.length:=by omega
   simp -dsimp only[aw,jV,jW,jX,jY,jZ,jA,reduceIte,reduceCtorEq,jB,jC,jD,jE,jF,jG,Rx,hlt,decide_true,RA hlt,RA hlt',bY a.args[j],bY b.args[j]];refine bd (by simpa only[am]using ih _ (RD hlt) b.args[j] (by have:=f5 (RD hlt);omega) _) ?_;rw[pz hlt hlt']at hrec;cases hs:fA a.args[j] b.args[j]with
   | false=>
    rw[hs,Rw]at hrec;simp -dsimp only[aw,jV,jW,jX,jY,jZ,jA,reduceIte,reduceCtorEq,jB,jC,jD,jE,jF,jG];exact out _ _ (by rw[hq,hrec])
   | true=>
    rw[hs,Rs]at hrec;simp -dsimp only[aw,jV,jW,jX,jY,jZ,jA,reduceIte,reduceCtorEq,jB,jC,jD,jE,jF,jG,ba hlt (show a.args.length≤9223372036854775807 by omega)];exact⟨hlt,Nxt.same (by simp) (aE hb rfl) (by simp[ao,V.under]) ⟨rfl,rfl,hrec⟩⟩
  .simp -dsimp only[aw,jV,jW,jX,jY,jZ,jA,reduceIte,reduceCtorEq,jB,jC,jD,jE,jF,jG,Rx,hlt,decide_false];exact out _ _ (by rw[hq,hrec,RB (by omega),RB (by omega)];rfl)
 .simp -dsimp only[aw,jV,jW,jX,jY,jZ,jA,reduceIte,reduceCtorEq,jB,jC,jD,jE,jF,jG,decide_eq_false h6];exact out _ _ (by rw[hq,mj h6,Rv])
theorem vA:∀(l l':List Ex),(∀a,a∈l->∀b,jh a b=true↔a=b)->(gr l l'=true↔l=l')
 | [],[],_=>by simp[gr]
 | a::r,b::r',h=>by
  simp only[gr,Ru,h a (by simp) b,vA r r' (fun x hx=>h x (by simp[hx])),List.cons.injEq]
 | [],_::_,_=>by simp[gr]
 | _::_,[],_=>by simp[gr]
theorem Cl(a:Ex):∀b,jh a b=true↔a=b:=by
 induction a using Ex.ind2 with
 | h a ih=>
 intro b;rw[qu];simp only[Ru,decide_eq_true_eq,vA _ _ ih];cases a;cases b;simp only[Ex.op,Ex.num,Ex.name,Ex.args,Ex.mk.injEq]
theorem rS:∀(l l':List Ts),(∀a,a∈l->∀b,fA a b=true↔a=b)->(fc l l'=true↔l=l')
 | [],[],_=>by simp[fc]
 | a::r,b::r',h=>by
  simp only[fc,Ru,h a (by simp) b,rS r r' (fun x hx=>h x (by simp[hx])),List.cons.injEq]
 | [],_::_,_=>by simp[fc]
 | _::_,[],_=>by simp[fc]
theorem jP(a:Ts):∀b,fA a b=true↔a=b:=by
 induction a using Ts.ind with
 | h a ih=>
 intro b;rw[qh];simp only[Ru,decide_eq_true_eq,rS _ _ ih,Cl];cases a;cases b;simp only[Ts.op,Ts.lo,Ts.hi,Ts.ex,Ts.name,Ts.args,Ts.mk.injEq];constructor
 .rintro⟨h1,h2,h3,h4,h5,h6⟩;exact⟨h1,h2,h3,h5,h4,h6⟩
 .rintro⟨h1,h2,h3,h4,h5,h6⟩;exact⟨h1,h2,h3,h5,h4,h6⟩
structure Pr where
 name:ByteArray
 plain:Bool
 over:Bool
 cond:Ts
 then_:Ts
def dpr(p:Pr):List D:=ae p.name::.lit (.bool p.plain)::.lit (.bool p.over)::(dts p.cond++dts p.then_)
def vpr(p:Pr):V:=.agg ((dpr p).map V.d)
theorem b9(p:Pr):vpr p=.agg [.d (ae p.name),.d (.lit (.bool p.plain)),.d (.lit (.bool p.over)),
 .d (ab p.cond.op),.d (ab p.cond.lo),.d (ab p.cond.hi),.d (ab p.cond.ex.op),.d (ab p.cond.ex.num),.d (ae p.cond.ex.name),.d (.sl (p.cond.ex.args.map dex)),.d (ae p.cond.name),.d (.sl (p.cond.args.map dts)),
 .d (ab p.then_.op),.d (ab p.then_.lo),.d (ab p.then_.hi),.d (ab p.then_.ex.op),.d (ab p.then_.ex.num),.d (ae p.then_.ex.name),.d (.sl (p.then_.ex.args.map dex)),.d (ae p.then_.name),.d (.sl (p.then_.args.map dts))]:=by
 unfold vpr dpr;rw[bY,bY];rfl
def zT:Ts:=.mk 0 0 0 (.mk 0 0 ⟨#[]⟩ []) ⟨#[]⟩ []
def kL(s:Ts):Bool:=((((decide (s.op=0)&&decide (s.lo=0))&&decide (s.hi=0))&&mN s.ex)&&decide (s.name=⟨#[]⟩))&&decide ((s.args.length:Int)=0)
theorem p9(s:Ts):fA s zT=kL s:=by
 have hz:mN s.ex=true↔s.ex=.mk 0 0 ⟨#[]⟩ []:=by
  unfold mN;simp only[Ru,decide_eq_true_eq];cases h:s.ex with
  | mk o n m l=>simp[Ex.op,Ex.num,Ex.name,Ex.args]
 rw[Bool.eq_iff_iff,jP];unfold kL;simp only[Ru,decide_eq_true_eq,hz];cases s with
 | mk o a b e n l=>
 simp only[zT,Ts.mk.injEq,Ts.op,Ts.lo,Ts.hi,Ts.ex,Ts.name,Ts.args];constructor
 .rintro⟨h1,h2,h3,h4,h5,h6⟩;exact⟨⟨⟨⟨⟨h1,h2⟩,h3⟩,h4⟩,h5⟩,by rw[h6];rfl⟩
 .rintro⟨⟨⟨⟨⟨h1,h2⟩,h3⟩,h4⟩,h5⟩,h6⟩;exact⟨h1,h2,h3,h4,h5,List.eq_nil_of_length_eq_zero (by omega)⟩
def eY(p:Pr):Int:=
 if cf p.name=false then 7
 else if p.plain=true/\(p.over=true\/kL p.cond=false)then 1
 else if p.plain=false/\dM p.cond≠0 then dM p.cond
 else dM p.then_
theorem ma(p:Pr)(h1:cl p.cond≤1000000)(h2:cl p.then_≤1000000)(σ:LLV):Fun G 25 [vpr p] σ (aA (.d (ab (eY p))) σ):=by
 have hq:eY p=eY p:=rfl
 conv at hq=>rhs;unfold eY
 refine ai Tryz.func25 k25 (by simp only[b9];rfl) fun hb hw=>?_;unfold c25
 have out:∀(n:Int) (l:LLV),eY p=n->fin σ.length NV (aA (.d (ab (eY p))) σ) .ret [(2,.d (.lit (.int .i64 n)))] (σ++l):=fun n l h=>by
  rw[h];exact al hb rfl rfl RC ⟨rfl,rfl⟩
 have hsame:∀σ,Fun G 50 [vts p.cond,vts zT] σ (aA (aq (kL p.cond)) σ):=fun σ=>by rw[<-p9];exact DN p.cond zT h1 σ
 have hz:vts zT=.agg [.d (ab 0),.d (ab 0),.d (ab 0),.d (ab 0),.d (ab 0),.d (ae ⟨#[]⟩),.d (.sl []),.d (ae ⟨#[]⟩),.d (.sl [])]:=by rw[am];rfl
 simp only[hz]at hsame;simp -dsimp only[aw,jV,jW,jX,jY,jZ,jA,reduceIte,reduceCtorEq,jB,jC,jD,jE,jF,jG,b9];refine ac (o8 p.name _) ?_;cases hn:cf p.name with
 | false=>
  rw[if_pos hn]at hq;simp -dsimp only[aw,jV,jW,jX,jY,jZ,jA,reduceIte,reduceCtorEq,jB,jC,jD,jE,jF,jG];exact out 7 _ hq
 | true=>
 rw[if_neg (by rw[hn];simp)]at hq;cases hp:p.plain with
 | true=>
  rw[hp]at hq;cases ho:p.over with
  | true=>
   rw[if_pos ⟨rfl,.inl ho⟩]at hq;simp -dsimp only[aw,jV,jW,jX,jY,jZ,jA,reduceIte,reduceCtorEq,jB,jC,jD,jE,jF,jG];exact out 1 _ hq
  | false=>
   simp -dsimp only[aw,jV,jW,jX,jY,jZ,jA,reduceIte,reduceCtorEq,jB,jC,jD,jE,jF,jG];refine ac (by simpa only[am]using hsame _) ?_;cases he:kL p.cond with
   | false=>
    rw[if_pos ⟨rfl,.inr he⟩]at hq;simp -dsimp only[aw,jV,jW,jX,jY,jZ,jA,reduceIte,reduceCtorEq,jB,jC,jD,jE,jF,jG];exact out 1 _ hq
   | true=>
    rw[if_neg (by rw[ho,he];simp),if_neg (by simp)]at hq;simp -dsimp only[aw,jV,jW,jX,jY,jZ,jA,reduceIte,reduceCtorEq,jB,jC,jD,jE,jF,jG];refine ac (by simpa only[am]using kr p.then_ h2 _) ?_;simp -dsimp only[aw,jV,jW,jX,jY,jZ,jA,reduceIte,reduceCtorEq,jB,jC,jD,jE,jF,jG];exact out _ _ hq
 | false=>
  rw[if_neg (by rw[hp];simp)]at hq;simp -dsimp only[aw,jV,jW,jX,jY,jZ,jA,reduceIte,reduceCtorEq,jB,jC,jD,jE,jF,jG];refine ac (by simpa only[am]using kr p.cond h1 _) ?_;by_cases h0:dM p.cond=0
  .rw[if_neg (by simp[h0])]at hq;simp -dsimp only[aw,jV,jW,jX,jY,jZ,jA,reduceIte,reduceCtorEq,jB,jC,jD,jE,jF,jG,h0,Int.reduceEq,decide_true,decide_false];refine ac (by simpa only[am]using kr p.then_ h2 _) ?_;simp -dsimp only[aw,jV,jW,jX,jY,jZ,jA,reduceIte,reduceCtorEq,jB,jC,jD,jE,jF,jG];exact out _ _ hq
  .rw[if_pos ⟨hp,h0⟩]at hq;simp -dsimp only[aw,jV,jW,jX,jY,jZ,jA,reduceIte,reduceCtorEq,jB,jC,jD,jE,jF,jG,decide_eq_false h0];exact out _ _ hq
inductive PR where
 | out
 | bad (e:Int) (r:List Tok)
 | ok (e:Ex) (r:List Tok)
def PR.bind(x:PR)(f:Ex->List Tok->PR):PR:=match x with
 | .out=>.out
 | .bad e r=>.bad e r
 | .ok e r=>f e r
inductive PK where
 | W
 | I
 | L (k:Nat)
 | Lp (k:Nat) (a:Ex)
 | In (a:Ex)
 | Ip (args:List Ex)
 | U
 | P
def ey:List Tok->PR
 | []=>.bad 6 []
 | t::r=>.bad 5 (t::r)
def aa(c:UInt8):ByteArray:=⟨#[c]⟩
def aF(c d:UInt8):ByteArray:=⟨#[c,d]⟩
def acc(m:ByteArray):List Tok->Option (List Tok)
 | []=>none
 | t::r=>if bl t=true/\(t.kind=4\/t.kind=2)/\t.text=m then some r else none
def aT(o:Int)(l:List Ex):Ex:=.mk o 0 ⟨#[]⟩ l
def ci:List (ByteArray×Int×Nat):=[(aF 61 62,21,2),(aF 124 124,20,3),(aF 38 38,19,4),(aa 124,11,5),(aa 94,12,6),(aa 38,10,7),(aF 61 61,15,8),(aF 33 61,16,8),(aa 60,17,9),(aF 60 61,18,9),(aF 60 60,13,10),(aF 62 62,14,10),(aa 43,7,11),(aa 45,8,11),(aa 42,9,12)]
def fy:List (ByteArray×Int×Nat)->Nat->List Tok->Option (Int×List Tok)
 | [],_,_=>none
 | b::l,k,r=>if b.2.2=k then(match acc b.1 r with|some r1=>some (b.2.1,r1)|none=>fy l k r)else fy l k r
def dI(k:Nat)(r:List Tok):Option (Int×Bool×List Tok):=match fy ci k r with
 | some (o,r1)=>some (o,false,r1)
 | none=>if k=9 then(match acc (aa 62) r with
  | some r1=>some (17,true,r1)
  | none=>match acc (aF 62 61) r with
   | some r1=>some (18,true,r1)
   | none=>none)else none
def bR:ByteArray:=⟨#[105,110,115,105,100,101]⟩
def jS:ByteArray:=⟨#[115,117,109]⟩
def fz:ByteArray:=⟨#[111,110,101,115]⟩
def bw:List Tok->Option (ByteArray×List Tok)
 | []=>none
 | t::r=>if bl t=true/\t.kind=1 then some (t.text,r)else none
def bW:List Tok->Option (Int×List Tok)
 | []=>none
 | t::r=>if bl t=true/\t.kind=3 then some (t.num,r)else none
def uk(n:Int):ByteArray:=⟨(Lib.decDigits n.toNat).toArray⟩
def od(s:ByteArray)(n:Int):ByteArray:=s++(aa 91++(uk n++aa 93))
def dP(rec:PK->List Tok->PR)(r:List Tok):PR:=match acc (aa 40) r with
 | some r1=>(rec .W r1).bind fun e r2=>match acc (aa 41) r2 with
  | some r3=>.ok e r3
  | none=>ey r2
 | none=>match bW r with
  | some (n,r1)=>if 65535<n then .bad 3 r else .ok (.mk 1 n ⟨#[]⟩ []) r1
  | none=>match bw r with
   | none=>ey r
   | some (s,r1)=>match (if s=jS then acc (aa 40) r1 else none)with
    | some r2=>match bw r2 with
     | none=>ey r2
     | some (a,r3)=>match acc (aa 41) r3 with
      | some r4=>.ok (.mk 24 0 a []) r4
      | none=>ey r3
    | none=>match (if s=fz then acc (aa 40) r1 else none)with
     | some r2=>(rec .W r2).bind fun e r3=>match acc (aa 41) r3 with
      | some r4=>.ok (aT 25 [e]) r4
      | none=>ey r3
     | none=>match acc (aa 91) r1 with
      | some r2=>(rec .W r2).bind fun e r3=>match acc (aa 93) r3 with
       | some r4=>.ok (.mk 3 0 s [e]) r4
       | none=>ey r3
      | none=>match acc (aa 64) r1 with
       | some r2=>match bW r2 with
        | none=>ey r2
        | some (n,r3)=>if 65535<n then .bad 3 r2 else .ok (.mk 2 0 (od s n) []) r3
       | none=>.ok (.mk 2 0 s []) r1
def aP(rec:PK->List Tok->PR):PK->List Tok->PR
 | .W,r=>(rec .I r).bind fun c r1=>match acc (aa 63) r1 with
  | none=>.ok c r1
  | some r2=>(rec .W r2).bind fun a r3=>match acc (aa 58) r3 with
   | none=>ey r3
   | some r4=>(rec .W r4).bind fun b r5=>.ok (aT 22 [c,a,b]) r5
 | .I,r=>(rec (.L 3) r).bind fun a r1=>match acc (aF 61 62) r1 with
  | none=>.ok a r1
  | some r2=>(rec .I r2).bind fun b r3=>.ok (aT 21 [a,b]) r3
 | .L k,r=>if 12<k then rec .U r else(rec (.L (k+1)) r).bind fun a r1=>rec (.Lp k a) r1
 | .Lp k a,r=>match (if k=9 then acc bR r else none)with
  | some r1=>(rec (.In a) r1).bind fun b r2=>rec (.Lp k b) r2
  | none=>match dI k r with
   | none=>.ok a r
   | some (o,ex,r1)=>(rec (.L (k+1)) r1).bind fun c r2=>rec (.Lp k (if ex then aT o [c,a]else aT o [a,c])) r2
 | .In a,r=>match acc (aa 123) r with
  | none=>ey r
  | some r1=>rec (.Ip [a]) r1
 | .Ip args,r=>(rec .W r).bind fun lo r1=>match acc (aF 46 46) r1 with
  | none=>ey r1
  | some r2=>(rec .W r2).bind fun hi r3=>match acc (aa 44) r3 with
   | some r4=>rec (.Ip (args++[lo,hi])) r4
   | none=>match acc (aa 125) r3 with
    | some r5=>.ok (aT 23 (args++[lo,hi])) r5
    | none=>ey r3
 | .U,r=>match acc (aa 33) r with
  | some r1=>(rec .U r1).bind fun a r2=>.ok (aT 4 [a]) r2
  | none=>match acc (aa 126) r with
   | some r1=>(rec .U r1).bind fun a r2=>.ok (aT 5 [a]) r2
   | none=>match acc (aa 45) r with
    | some r1=>(rec .U r1).bind fun a r2=>.ok (aT 6 [a]) r2
    | none=>rec .P r
 | .P,r=>dP rec r
def fW:Nat->PK->List Tok->PR
 | 0,_,_=>.out
 | n+1,k,r=>aP (fW n) k r
theorem xg{m:ByteArray}{r r1:List Tok}(h:acc m r=some r1):∃t,r=t::r1/\bl t=true/\(t.kind=4\/t.kind=2)/\t.text=m:=by
 cases r with
 | nil=>cases h
 | cons t q=>
  simp only[acc]at h;split at h
  .rename_i hc;cases h;exact⟨t,rfl,hc⟩
  .cases h
theorem y3{r r1:List Tok}{s:ByteArray}(h:bw r=some (s,r1)):∃t,r=t::r1/\bl t=true/\t.kind=1/\t.text=s:=by
 cases r with
 | nil=>cases h
 | cons t q=>
  simp only[bw]at h;split at h
  .rename_i hc;cases h;exact⟨t,rfl,hc.1,hc.2,rfl⟩
  .cases h
theorem sG{r r1:List Tok}{n:Int}(h:bW r=some (n,r1)):∃t,r=t::r1/\bl t=true/\t.kind=3/\t.num=n:=by
 cases r with
 | nil=>cases h
 | cons t q=>
  simp only[bW]at h;split at h
  .rename_i hc;cases h;exact⟨t,rfl,hc.1,hc.2,rfl⟩
  .cases h
theorem aB{m:ByteArray}{r r1:List Tok}(h:acc m r=some r1):r1 <:+ r/\r1.length<r.length:=by
 obtain⟨t,rfl,-⟩:=xg h;exact⟨RG _ _,by simp⟩
theorem fK{r r1:List Tok}{s:ByteArray}(h:bw r=some (s,r1)):r1 <:+ r/\r1.length<r.length:=by
 obtain⟨t,rfl,-⟩:=y3 h;exact⟨RG _ _,by simp⟩
theorem kN{r r1:List Tok}{n:Int}(h:bW r=some (n,r1)):r1 <:+ r/\r1.length<r.length:=by
 obtain⟨t,rfl,-⟩:=sG h;exact⟨RG _ _,by simp⟩
theorem oU:∀(l:List (ByteArray×Int×Nat)) (k:Nat) (r:List Tok) {o:Int} {r1:List Tok},fy l k r=some (o,r1)->r1 <:+ r/\r1.length<r.length
 | [],_,_,_,_,h=>by cases h
 | b::l,k,r,o,r1,h=>by
  simp only[fy]at h;split at h
  .split at h
   .rename_i q hq;cases h;exact aB hq
   .exact oU l k r h
  .exact oU l k r h
theorem og{k:Nat}{r r1:List Tok}{o:Int}{ex:Bool}(h:dI k r=some (o,ex,r1)):r1 <:+ r/\r1.length<r.length:=by
 unfold dI at h;split at h
 .rename_i o' q hq;cases h;exact oU _ _ _ hq
 .split at h
  .split at h
   .rename_i q hq;cases h;exact aB hq
   .split at h
    .rename_i q hq;cases h;exact aB hq
    .cases h
  .cases h
def PR.le(x y:PR):Prop:=x=.out\/x=y
theorem PR.le.rfl{x:PR}:x.le x:=.inr (Eq.refl x)
theorem cO{x x':PR}{f f':Ex->List Tok->PR}(h:x.le x')(hf:∀e r,(f e r).le (f' e r)):(x.bind f).le (x'.bind f'):=by
 rcases h with rfl|rfl
 .exact .inl (Eq.refl _)
 .cases x with
  | out=>exact .inl (Eq.refl _)
  | bad e r=>exact .rfl
  | ok e r=>exact hf e r
theorem yO{rec rec':PK->List Tok->PR}(h:∀k r,(rec k r).le (rec' k r))(r:List Tok):(dP rec r).le (dP rec' r):=by
 unfold dP;cases acc (aa 40) r with
 | some r1=>exact cO (h _ _) fun e r2=>.rfl
 | none=>
 cases bW r with
 | some p=>exact .rfl
 | none=>
 cases bw r with
 | none=>exact .rfl
 | some p=>
 obtain⟨s,r1⟩:=p;simp only;cases (if s=jS then acc (aa 40) r1 else none)with
 | some r2=>exact .rfl
 | none=>
 simp only;cases (if s=fz then acc (aa 40) r1 else none)with
 | some r2=>exact cO (h _ _) fun e r3=>.rfl
 | none=>
 simp only;cases acc (aa 91) r1 with
 | some r2=>exact cO (h _ _) fun e r3=>.rfl
 | none=>exact .rfl
theorem rM{rec rec':PK->List Tok->PR}(h:∀k r,(rec k r).le (rec' k r))(k:PK)(r:List Tok):(aP rec k r).le (aP rec' k r):=by
 cases k with
 | W=>
  simp only[aP];refine cO (h _ _) fun c r1=>?_;cases acc (aa 63) r1 with
  | none=>exact .rfl
  | some r2=>
   refine cO (h _ _) fun a r3=>?_;cases acc (aa 58) r3 with
   | none=>exact .rfl
   | some r4=>exact cO (h _ _) fun b r5=>.rfl
 | I=>
  simp only[aP];refine cO (h _ _) fun c r1=>?_;cases acc (aF 61 62) r1 with
  | none=>exact .rfl
  | some r2=>exact cO (h _ _) fun b r5=>.rfl
 | L k=>
  simp only[aP];split
  .exact h _ _
  .exact cO (h _ _) fun b r5=>h _ _
 | Lp k a=>
  simp only[aP];cases (if k=9 then acc bR r else none)with
  | some r1=>exact cO (h _ _) fun b r5=>h _ _
  | none=>
   simp only;cases dI k r with
   | none=>exact .rfl
   | some p=>exact cO (h _ _) fun b r5=>h _ _
 | In a=>
  simp only[aP];cases acc (aa 123) r with
  | none=>exact .rfl
  | some r1=>exact h _ _
 | Ip args=>
  simp only[aP];refine cO (h _ _) fun lo r1=>?_;cases acc (aF 46 46) r1 with
  | none=>exact .rfl
  | some r2=>
   refine cO (h _ _) fun hi r3=>?_;cases acc (aa 44) r3 with
   | some r4=>exact h _ _
   | none=>exact .rfl
 | U=>
  simp only[aP];cases acc (aa 33) r with
  | some r1=>exact cO (h _ _) fun b r5=>.rfl
  | none=>
  cases acc (aa 126) r with
  | some r1=>exact cO (h _ _) fun b r5=>.rfl
  | none=>
  cases acc (aa 45) r with
  | some r1=>exact cO (h _ _) fun b r5=>.rfl
  | none=>exact h _ _
 | P=>exact yO h r
theorem ro:∀(n:Nat) (k:PK) (r:List Tok),(fW n k r).le (fW (n+1) k r)
 | 0,_,_=>.inl rfl
 | n+1,k,r=>rM (ro n) k r
theorem mi{n m:Nat}(h:n≤m)(k:PK)(r:List Tok):(fW n k r).le (fW m k r):=by
 induction h with
 | refl=>exact .rfl
 | step h ih=>
  rcases ih with e|e
  .exact .inl e
  .rw[e];exact ro _ k r
def iv(s:Bool)(r:List Tok):PR->Prop
 | .out=>True
 | .bad _ r'=>r' <:+ r
 | .ok _ r'=>r' <:+ r/\(s=true->r'.length<r.length)
theorem iv.weak{s:Bool}{r r0:List Tok}{x:PR}(h:iv s r x)(hr:r <:+ r0):iv s r0 x:=by
 cases x with
 | out=>trivial
 | bad e q=>exact h.trans hr
 | ok e q=>exact⟨h.1.trans hr,fun e=>RL (h.2 e) hr.length_le⟩
theorem iv.strict{s:Bool}{r r0:List Tok}{x:PR}(h:iv s r x)(hr:r <:+ r0)(hl:r.length<r0.length):iv true r0 x:=by
 cases x with
 | out=>trivial
 | bad e q=>exact h.trans hr
 | ok e q=>exact⟨h.1.trans hr,fun _=>RM h.1.length_le hl⟩
theorem iv.less{s:Bool}{r:List Tok}{x:PR}(h:iv s r x):iv false r x:=by
 cases x with
 | out=>trivial
 | bad e q=>exact h
 | ok e q=>exact⟨h.1,fun h=>by cases h⟩
theorem cN{s t:Bool}{r:List Tok}{x:PR}{f:Ex->List Tok->PR}(h:iv s r x)(hf:∀e r1,r1 <:+ r->iv t r1 (f e r1)):iv (s||t) r (x.bind f):=by
 cases x with
 | out=>trivial
 | bad e q=>exact h
 | ok e q=>
  have h1:=hf e q h.1;show iv (s||t) r (f e q);cases hx:f e q with
  | out=>trivial
  | bad e' q'=>rw[hx]at h1;exact h1.trans h.1
  | ok e' q'=>
   rw[hx]at h1;refine⟨h1.1.trans h.1,fun hs=>?_⟩;rcases Bool.or_eq_true_iff.1 hs with g|g
   .exact RM h1.1.length_le (h.2 g)
   .exact RL (h1.2 g) h.1.length_le
theorem d7{s:Bool}(r:List Tok):iv s r (ey r):=by
 cases r with
 | nil=>exact Rz _
 | cons t r=>exact Rz _
theorem ep(e:Ex){r r1:List Tok}(h:r1 <:+ r):iv false r (.ok e r1):=⟨h,fun h=>by cases h⟩
theorem G5{s:Bool}(e:Ex){r r1:List Tok}(h:r1 <:+ r/\r1.length<r.length):iv s r (.ok e r1):=⟨h.1,fun _=>h.2⟩
def PK.eats:PK->Bool
 | .Lp _ _=>false
 | _=>true
theorem BH{rec:PK->List Tok->PR}(h:∀k r,iv k.eats r (rec k r))(r:List Tok):iv true r (dP rec r):=by
 unfold dP;cases h1:acc (aa 40) r with
 | some r1=>
  obtain⟨a1,a2⟩:=aB h1;refine(cN (t:=false) ((h .W r1)) fun e r2 hs=>?_).strict a1 a2;cases h2:acc (aa 41) r2 with
  | some r3=>exact ep _ (aB h2).1
  | none=>exact d7 _
 | none=>
 cases h2:bW r with
 | some p=>
  obtain⟨n,r1⟩:=p;simp only;split
  .exact Rz _
  .exact G5 _ (kN h2)
 | none=>
 cases h3:bw r with
 | none=>exact d7 _
 | some p=>
 obtain⟨s,r1⟩:=p;obtain⟨n1,n2⟩:=fK h3
 suffices hh:∀x,iv false r1 x->iv true r x by
  refine hh _ ?_;simp only;cases h4:(if s=jS then acc (aa 40) r1 else none)with
  | some r2=>
   have a1:r2 <:+ r1:=by
    split at h4
    .exact(aB h4).1
    .cases h4
   simp only;cases h5:bw r2 with
   | none=>exact(d7 r2).weak a1
   | some p=>
    obtain⟨a,r3⟩:=p;simp only;cases h6:acc (aa 41) r3 with
    | some r4=>exact ep _ (((aB h6).1.trans (fK h5).1).trans a1)
    | none=>exact(d7 r3).weak ((fK h5).1.trans a1)
  | none=>
  simp only;cases h5:(if s=fz then acc (aa 40) r1 else none)with
  | some r2=>
   have a1:r2 <:+ r1:=by
    split at h5
    .exact(aB h5).1
    .cases h5
   have:=(cN (t:=false) (f:=fun e r3=>match acc (aa 41) r3 with|some r4=>.ok (aT 25 [e]) r4|none=>ey r3) (h .W r2) fun e r3 hs=>by
    cases h6:acc (aa 41) r3 with
    | some r4=>exact ep _ (aB h6).1
    | none=>exact d7 _).weak a1
   exact this.less
  | none=>
  simp only;cases h6:acc (aa 91) r1 with
  | some r2=>
   have:=(cN (t:=false) (f:=fun e r3=>match acc (aa 93) r3 with|some r4=>.ok (.mk 3 0 s [e]) r4|none=>ey r3) (h .W r2) fun e r3 hs=>by
    cases h6:acc (aa 93) r3 with
    | some r4=>exact ep _ (aB h6).1
    | none=>exact d7 _).weak (aB h6).1
   exact this.less
  | none=>
  simp only;cases h7:acc (aa 64) r1 with
  | some r2=>
   simp only;cases h8:bW r2 with
   | none=>exact(d7 r2).weak (aB h7).1
   | some p=>
    obtain⟨n,r3⟩:=p;simp only;split
    .exact(aB h7).1
    .exact ep _ ((kN h8).1.trans (aB h7).1)
  | none=>exact ep _ (Rz _)
 intro x hx;exact hx.strict n1 n2
theorem Dv{rec:PK->List Tok->PR}(h:∀k r,iv k.eats r (rec k r))(k:PK)(r:List Tok):iv k.eats r (aP rec k r):=by
 cases k with
 | W=>
  simp only[aP];refine cN (s:=true) (t:=false) (h .I r) fun c r1 _=>?_;cases h1:acc (aa 63) r1 with
  | none=>exact ep _ (Rz _)
  | some r2=>
   have:=cN (s:=true) (t:=false) (f:=fun a r3=>match acc (aa 58) r3 with|none=>ey r3|some r4=>(rec .W r4).bind fun b r5=>.ok (aT 22 [c,a,b]) r5) (h .W r2) fun a r3 _=>by
    cases h2:acc (aa 58) r3 with
    | none=>exact d7 _
    | some r4=>
     have:=(cN (s:=true) (t:=false) (f:=fun b r5=>.ok (aT 22 [c,a,b]) r5) (h .W r4) fun b r5 _=>ep _ (Rz _)).weak (aB h2).1;exact this.less
   have h3:=this.weak (aB h1).1;exact h3.less
 | I=>
  simp only[aP];refine cN (s:=true) (t:=false) (h (.L 3) r) fun c r1 _=>?_;cases h1:acc (aF 61 62) r1 with
  | none=>exact ep _ (Rz _)
  | some r2=>
   have:=(cN (s:=true) (t:=false) (f:=fun b r5=>.ok (aT 21 [c,b]) r5) (h .I r2) fun b r5 _=>ep _ (Rz _)).weak (aB h1).1;exact this.less
 | L k=>
  simp only[aP];split
  .exact h .U r
  .exact cN (s:=true) (t:=false) (h (.L (k+1)) r) fun a r1 _=>h (.Lp k a) r1
 | Lp k a=>
  simp only[aP];cases h1:(if k=9 then acc bR r else none)with
  | some r1=>
   have a1:r1 <:+ r:=by
    split at h1
    .exact(aB h1).1
    .cases h1
   have:=(cN (s:=true) (t:=false) (f:=fun b r2=>rec (.Lp k b) r2) (h (.In a) r1) fun b r2 _=>h (.Lp k b) r2).weak a1;exact this.less
  | none=>
   simp only;cases h2:dI k r with
   | none=>exact ep _ (Rz _)
   | some p=>
    obtain⟨o,ex,r1⟩:=p;have:=(cN (s:=true) (t:=false) (f:=fun c r2=>rec (.Lp k (if ex then aT o [c,a]else aT o [a,c])) r2) (h (.L (k+1)) r1) fun b r2 _=>h (.Lp k _) r2).weak (og h2).1;exact this.less
 | In a=>
  simp only[aP];cases h1:acc (aa 123) r with
  | none=>exact d7 _
  | some r1=>exact(h (.Ip [a]) r1).weak (aB h1).1
 | Ip args=>
  simp only[aP];refine cN (s:=true) (t:=false) (h .W r) fun lo r1 _=>?_;cases h1:acc (aF 46 46) r1 with
  | none=>exact d7 _
  | some r2=>
   have:=(cN (s:=true) (t:=false) (f:=fun hi r3=>match acc (aa 44) r3 with|some r4=>rec (.Ip (args++[lo,hi])) r4|none=>match acc (aa 125) r3 with|some r5=>.ok (aT 23 (args++[lo,hi])) r5|none=>ey r3) (h .W r2) fun hi r3 _=>by
    cases h2:acc (aa 44) r3 with
    | some r4=>
     have:=(h (.Ip (args++[lo,hi])) r4).weak (aB h2).1;exact this.less
    | none=>
     simp only;cases h3:acc (aa 125) r3 with
     | some r5=>exact ep _ (aB h3).1
     | none=>exact d7 _).weak (aB h1).1
   exact this.less
 | U=>
  simp only[aP];cases h1:acc (aa 33) r with
  | some r1=>exact(cN (s:=true) (t:=false) (h .U r1) fun a r2 _=>ep _ (Rz _)).weak (aB h1).1
  | none=>
  cases h2:acc (aa 126) r with
  | some r1=>exact(cN (s:=true) (t:=false) (h .U r1) fun a r2 _=>ep _ (Rz _)).weak (aB h2).1
  | none=>
  cases h3:acc (aa 45) r with
  | some r1=>exact(cN (s:=true) (t:=false) (h .U r1) fun a r2 _=>ep _ (Rz _)).weak (aB h3).1
  | none=>exact h .P r
 | P=>exact BH h r
theorem oO:∀(n:Nat) (k:PK) (r:List Tok),iv k.eats r (fW n k r)
 | 0,_,_=>trivial
 | n+1,k,r=>Dv (oO n) k r
def PK.cost:PK->Nat
 | .W=>15
 | .I=>14
 | .L k=>3+(13-k)
 | .Lp _ _=>1
 | .In _=>1
 | .Ip _=>16
 | .U=>2
 | .P=>1
def oT(k:PK)(r:List Tok):Nat:=40*r.length+k.cost
theorem dZ{x:PR}{f:Ex->List Tok->PR}(h:x≠.out)(hf:∀e r,x=.ok e r->f e r≠.out):x.bind f≠.out:=by
 cases x with
 | out=>exact absurd rfl h
 | bad e r=>intro h;cases h
 | ok e r=>exact hf e r rfl
theorem gi(r:List Tok):ey r≠.out:=by cases r<;>(intro h;cases h)
theorem pL(k:PK):1≤k.cost/\k.cost≤16:=by
 cases k<;>simp only[PK.cost]<;>omega
theorem lr{n:Nat}{k:PK}{r r1:List Tok}{e:Ex}(h:fW n k r=.ok e r1):r1.length≤r.length/\(k.eats=true->r1.length<r.length):=by
 have:=oO n k r;rw[h]at this;exact⟨this.1.length_le,this.2⟩
theorem PI:∀(n:Nat) (k:PK) (r:List Tok),oT k r≤n->fW n k r≠.out:=by
 intro n
 induction n with
 | zero=>intro k r h;have:=(pL k).1;unfold oT at h;omega
 | succ n ih=>
  intro k r hn
  have less:∀(k':PK) (r':List Tok),r'.length<r.length->fW n k' r'≠.out:=fun k' r' hl=>ih k' r' (by
   have:=(pL k').2;have:=(pL k).1;unfold oT at *;omega)
  have same:∀(k':PK),k'.cost<k.cost->fW n k' r≠.out:=fun k' hc=>ih k' r (by unfold oT at *;omega);show aP (fW n) k r≠.out;cases k with
  | W=>
   simp only[aP];refine dZ (same .I (by decide)) fun c r1 h1=>?_;have l1:=(lr h1).2 rfl;cases h2:acc (aa 63) r1 with
   | none=>intro h;cases h
   | some r2=>
    have l2:=(aB h2).2;refine dZ (less _ _ (by omega)) fun a r3 h3=>?_;have l3:=(lr h3).1;cases h4:acc (aa 58) r3 with
    | none=>exact gi _
    | some r4=>
     have l4:=(aB h4).2;exact dZ (less _ _ (by omega)) fun b r5 _ h=>by cases h
  | I=>
   simp only[aP];refine dZ (same (.L 3) (by decide)) fun c r1 h1=>?_;have l1:=(lr h1).2 rfl;cases h2:acc (aF 61 62) r1 with
   | none=>intro h;cases h
   | some r2=>
    have l2:=(aB h2).2;exact dZ (less _ _ (by omega)) fun b r5 _ h=>by cases h
  | L k=>
   simp only[aP];split
   .exact same .U (by simp only[PK.cost];omega)
   .rename_i hk;refine dZ (same (.L (k+1)) (by simp only[PK.cost];omega)) fun c r1 h1=>?_;exact less _ _ ((lr h1).2 rfl)
  | Lp k a=>
   simp only[aP];cases h1:(if k=9 then acc bR r else none)with
   | some r1=>
    have a1:r1.length<r.length:=by
     split at h1
     .exact(aB h1).2
     .cases h1
    exact dZ (less _ _ a1) fun b r2 h2=>less _ _ (by have:=(lr h2).1;omega)
   | none=>
    simp only;cases h2:dI k r with
    | none=>intro h;cases h
    | some p=>
     obtain⟨o,ex,r1⟩:=p;have a1:=(og h2).2;exact dZ (less _ _ a1) fun b r2 h2=>less _ _ (by have:=(lr h2).1;omega)
  | In a=>
   simp only[aP];cases h1:acc (aa 123) r with
   | none=>exact gi _
   | some r1=>exact less _ _ (aB h1).2
  | Ip args=>
   simp only[aP];refine dZ (same .W (by simp only[PK.cost];omega)) fun lo r1 h1=>?_;have l1:=(lr h1).2 rfl;cases h2:acc (aF 46 46) r1 with
   | none=>exact gi _
   | some r2=>
    have l2:=(aB h2).2;refine dZ (less _ _ (by omega)) fun hi r3 h3=>?_;have l3:=(lr h3).1;cases h4:acc (aa 44) r3 with
    | some r4=>exact less _ _ (by have:=(aB h4).2;omega)
    | none=>
     simp only;cases h5:acc (aa 125) r3 with
     | some r5=>intro h;cases h
     | none=>exact gi _
  | U=>
   simp only[aP];cases h1:acc (aa 33) r with
   | some r1=>exact dZ (less _ _ (aB h1).2) fun b r5 _ h=>by cases h
   | none=>
   cases h2:acc (aa 126) r with
   | some r1=>exact dZ (less _ _ (aB h2).2) fun b r5 _ h=>by cases h
   | none=>
   cases h3:acc (aa 45) r with
   | some r1=>exact dZ (less _ _ (aB h3).2) fun b r5 _ h=>by cases h
   | none=>exact same .P (by decide)
  | P=>
   show dP (fW n) r≠.out;unfold dP;cases h1:acc (aa 40) r with
   | some r1=>
    refine dZ (less _ _ (aB h1).2) fun e r2 _=>?_;cases acc (aa 41) r2 with
    | some r3=>intro h;cases h
    | none=>exact gi _
   | none=>
   cases h2:bW r with
   | some p=>simp only;split<;>(intro h;cases h)
   | none=>
   cases h3:bw r with
   | none=>exact gi _
   | some p=>
   obtain⟨s,r1⟩:=p;have l1:=(fK h3).2;simp only;cases h4:(if s=jS then acc (aa 40) r1 else none)with
   | some r2=>
    simp only;cases bw r2 with
    | none=>exact gi _
    | some p=>
     simp only;cases acc (aa 41) p.2 with
     | some r4=>intro h;cases h
     | none=>exact gi _
   | none=>
   simp only;cases h5:(if s=fz then acc (aa 40) r1 else none)with
   | some r2=>
    have a1:r2.length<r1.length:=by
     split at h5
     .exact(aB h5).2
     .cases h5
    refine dZ (less _ _ (by omega)) fun e r2 _=>?_;cases acc (aa 41) r2 with
    | some r3=>intro h;cases h
    | none=>exact gi _
   | none=>
   simp only;cases h6:acc (aa 91) r1 with
   | some r2=>
    have a1:=(aB h6).2;refine dZ (less _ _ (by omega)) fun e r2 _=>?_;cases acc (aa 93) r2 with
    | some r3=>intro h;cases h
    | none=>exact gi _
   | none=>
   simp only;cases h7:acc (aa 64) r1 with
   | some r2=>
    simp only;cases bW r2 with
    | none=>exact gi _
    | some p=>simp only;split<;>(intro h;cases h)
   | none=>intro h;cases h
def par(k:PK)(r:List Tok):PR:=fW (40*r.length+20) k r
theorem dB(k:PK)(r:List Tok):par k r≠.out:=PI _ _ _ (by have:=(pL k).2;unfold oT;omega)
theorem Gz(n:Nat)(k:PK)(r:List Tok):(fW n k r).le (par k r):=by
 rcases Nat.le_total n (40*r.length+20)with h|h
 .exact mi h k r
 .rcases mi h k r with e|e
  .exact absurd e (dB k r)
  .exact .inr e.symm
theorem c6(k:PK)(r:List Tok):par k r=aP par k r:=by
 have h1:=rM (Gz (40*r.length+20)) k r;have h2:=mi (RN (40*r.length+20)) k r;rcases h2 with e|e
 .exact absurd e (dB k r)
 .rcases h1 with g|g
  .exact absurd (e.trans g) (dB k r)
  .exact e.trans g
theorem mO(k:PK)(r:List Tok):iv k.eats r (par k r):=oO _ k r
def gZ(o:Int):Option (ByteArray×Nat):=(ci.find? fun b=>decide (b.2.1=o)).map fun b=>(b.1,b.2.2)
def kQ(o:Int):Nat:=match gZ o with
 | some (_,l)=>l
 | none=>if o=22 then 1 else if o=23 then 9 else if o=4\/o=5\/o=6 then 13 else 14
def tm(m:ByteArray):Tok:=⟨4,0,m,1⟩
def tw(m:ByteArray):Tok:=⟨2,0,m,1⟩
def tn(s:ByteArray):Tok:=⟨1,0,s,1⟩
def td(n:Int):Tok:=⟨3,n,uk n,1⟩
def fG(k:Nat)(a:Int×List Tok):List Tok:=if kQ a.1<k then tm (aa 40)::(a.2++[tm (aa 41)])else a.2
def fk:List (Int×List Tok)->List Tok
 | []=>[]
 | [_]=>[]
 | [a,b]=>a.2++tm (aF 46 46)::b.2
 | a::b::c::r=>a.2++tm (aF 46 46)::(b.2++tm (aa 44)::fk (c::r))
def dY(s:ByteArray):Int:=(((mY s 91).data.toList.headD 0).toNat:Int)-48
def lX(s:ByteArray):List Tok:=if j0 s=true then[tn (j5 s 91),tm (aa 64),td (dY s)]else[tn s]
def lc(o n:Int)(s:ByteArray)(xs:List (Int×List Tok)):List Tok:=match gZ o with
 | some (m,l)=>fG (if l=2 then 3 else l) (xs.getD 0 (1,[]))++tm m::fG (if l=2 then 2 else l+1) (xs.getD 1 (1,[]))
 | none=>
  if o=4 then tm (aa 33)::fG 13 (xs.getD 0 (1,[]))
  else if o=5 then tm (aa 126)::fG 13 (xs.getD 0 (1,[]))
  else if o=6 then tm (aa 45)::fG 13 (xs.getD 0 (1,[]))
  else if o=22 then fG 2 (xs.getD 0 (1,[]))++tm (aa 63)::(fG 1 (xs.getD 1 (1,[]))++tm (aa 58)::fG 1 (xs.getD 2 (1,[])))
  else if o=23 then fG 9 (xs.getD 0 (1,[]))++tw bR::tm (aa 123)::(fk xs.tail++[tm (aa 125)])
  else if o=1 then[td n]
  else if o=3 then tn s::tm (aa 91)::((xs.getD 0 (1,[])).2++[tm (aa 93)])
  else if o=24 then[tn jS,tm (aa 40),tn s,tm (aa 41)]
  else if o=25 then tn fz::tm (aa 40)::((xs.getD 0 (1,[])).2++[tm (aa 41)])
  else lX s
mutual
def bN:Ex->List Tok
 | .mk o n s l=>lc o n s (eF l)
def eF:List Ex->List (Int×List Tok)
 | []=>[]
 | a::r=>(a.op,bN a)::eF r
end
theorem yo(l:List Ex):eF l=l.map fun a=>(a.op,bN a):=by
 induction l with
 | nil=>rfl
 | cons a r ih=>simp only[eF,ih,List.map_cons]
structure Stop(k:Nat)(r:List Tok):Prop where
 q:k≤1->acc (aa 63) r=none
 im:k≤2->acc (aF 61 62) r=none
 op:∀j,k≤j->3≤j->dI j r=none
 ins:k≤9->acc bR r=none
 b:acc (aa 91) r=none
 a:acc (aa 64) r=none
 p:acc (aa 40) r=none
theorem Stop.mono{k j:Nat}{r:List Tok}(h:Stop k r)(hj:k≤j):Stop j r:=
 ⟨fun e=>h.q (by omega),fun e=>h.im (by omega),fun i h1 h2=>h.op i (by omega) h2,fun e=>h.ins (by omega),h.b,h.a,h.p⟩
theorem bJ{m:ByteArray}{t:Tok}{r:List Tok}(h:t.text≠m):acc m (t::r)=none:=by
 simp only[acc];rw[if_neg (fun hc=>h hc.2.2)]
theorem mE{t:Tok}{r:List Tok}{k:Nat}:∀(l:List (ByteArray×Int×Nat)),(∀b,b∈l->b.2.2=k->t.text≠b.1)->fy l k (t::r)=none
 | [],_=>rfl
 | b::l,h=>by
  simp only[fy];split
  .rename_i hb;rw[bJ (h b (by simp) hb)];exact mE l fun c hc=>h c (by simp[hc])
  .exact mE l fun c hc=>h c (by simp[hc])
theorem zj{t:Tok}{r:List Tok}{k:Nat}(h:∀b,b∈ci->b.2.2=k->t.text≠b.1)(h1:t.text≠aa 62)(h2:t.text≠aF 62 61):dI k (t::r)=none:=by
 unfold dI;rw[mE ci h];simp only;split
 .rw[bJ h1,bJ h2]
 .rfl
theorem E1(k:Nat):Stop k []:=by
 refine⟨fun _=>rfl,fun _=>rfl,fun j _ _=>?_,fun _=>rfl,rfl,rfl,rfl⟩
 have:∀l:List (ByteArray×Int×Nat),fy l j []=none:=by
  intro l
  induction l with
  | nil=>rfl
  | cons b l ih=>simp only[fy,acc];split<;>exact ih
 unfold dI;rw[this];simp only[acc];split<;>rfl
theorem nx{k:Nat}{t:Tok}(r:List Tok)(h1:k≤1->t.text≠aa 63)(h2:k≤2->t.text≠aF 61 62)(h3:∀b,b∈ci->k≤b.2.2->t.text≠b.1)(h4:k≤9->t.text≠bR)
 (h5:t.text≠aa 62/\t.text≠aF 62 61/\t.text≠aa 91/\t.text≠aa 64/\t.text≠aa 40):Stop k (t::r):=
 ⟨fun e=>bJ (h1 e),fun e=>bJ (h2 e),fun j hj _=>zj (fun b hb hbj=>h3 b hb (by omega)) h5.1 h5.2.1,fun e=>bJ (h4 e),bJ h5.2.2.1,bJ h5.2.2.2.1,bJ h5.2.2.2.2⟩
theorem fv{m:ByteArray}(h:m∈[aa 41,aa 93,aa 125,aa 44,aF 46 46,aa 58])(k:Nat)(r:List Tok):Stop k (tm m::r):=by
 have hd:∀m,m∈[aa 41,aa 93,aa 125,aa 44,aF 46 46,aa 58]->(m≠aa 63/\m≠aF 61 62/\(∀b,b∈ci->m≠b.1)/\m≠bR)/\(m≠aa 62/\m≠aF 62 61/\m≠aa 91/\m≠aa 64/\m≠aa 40):=by decide +kernel
 obtain⟨⟨h1,h2,h3,h4⟩,h5⟩:=hd m h;exact nx r (fun _=>h1) (fun _=>h2) (fun b hb _=>h3 b hb) (fun _=>h4) h5
theorem K2(r:List Tok):Stop 2 (tm (aa 63)::r):=
 nx r (fun h=>by omega) (fun _=>by decide +kernel) (by decide +kernel) (fun _=>by decide +kernel) (by decide +kernel)
theorem vN{b:ByteArray×Int×Nat}(h:b∈ci)(r:List Tok):Stop (b.2.2+1) (tm b.1::r):=by
 have hd:∀b,b∈ci->(2≤b.2.2/\b.1≠aa 63/\(b.2.2+1≤2->b.1≠aF 61 62)/\(∀c,c∈ci->b.2.2+1≤c.2.2->b.1≠c.1)/\b.1≠bR)/\(b.1≠aa 62/\b.1≠aF 62 61/\b.1≠aa 91/\b.1≠aa 64/\b.1≠aa 40):=by decide +kernel
 obtain⟨⟨h1,h2,h3,h4,h5⟩,h6⟩:=hd b h;exact nx r (fun _=>h2) h3 h4 (fun _=>h5) h6
theorem xy(r:List Tok):Stop 10 (tw bR::r):=
 nx r (fun h=>by omega) (fun h=>by omega) (by decide +kernel) (fun h=>by omega) (by decide +kernel)
theorem cM{m:ByteArray}(h:bl (tm m)=true)(r:List Tok):acc m (tm m::r)=some r:=by
 simp only[acc];rw[if_pos ⟨h,.inl rfl,rfl⟩]
theorem om{m:ByteArray}(h:bl (tw m)=true)(r:List Tok):acc m (tw m::r)=some r:=by
 simp only[acc];rw[if_pos ⟨h,.inr rfl,rfl⟩]
theorem k5(m s:ByteArray)(r:List Tok):acc m (tn s::r)=none:=by
 simp only[acc];rw[if_neg (fun h=>by rcases h.2.1 with h|h<;>cases h)]
theorem rc(m:ByteArray)(n:Int)(r:List Tok):acc m (td n::r)=none:=by
 simp only[acc];rw[if_neg (fun h=>by rcases h.2.1 with h|h<;>cases h)]
theorem ch:∀m,m∈[aa 40,aa 41,aa 123,aa 125,aa 91,aa 93,aa 58,aF 46 46,aa 63,aa 44,aa 64,aa 33,aa 126,aa 45]->bl (tm m)=true:=by decide +kernel
theorem yZ:∀b,b∈ci->bl (tm b.1)=true:=by decide +kernel
theorem sD:bl (tw bR)=true:=by decide +kernel
theorem Eo:∀b,b∈ci->3≤b.2.2->∀r,dI b.2.2 (tm b.1::r)=some (b.2.1,false,r):=by
 intro b hb hk r
 have key:∀(l:List (ByteArray×Int×Nat)),b∈l->(∀c,c∈l->c.1=b.1->c=b)->(∀c,c∈l->bl (tm c.1)=true)->fy l b.2.2 (tm b.1::r)=some (b.2.1,r):=by
  intro l
  induction l with
  | nil=>intro h;cases h
  | cons c l ih=>
   intro hbl hu hv;simp only[fy];by_cases e:c.1=b.1
   .have:=hu c (by simp) e;subst this;rw[if_pos rfl,cM (hv c (by simp))]
   .have hbl':b∈l:=by
     rcases List.mem_cons.1 hbl with h|h
     .subst h;exact absurd rfl e
     .exact h
    have hr:=ih hbl' (fun d hd=>hu d (by simp[hd])) (fun d hd=>hv d (by simp[hd]));rw[bJ (t:=tm b.1) (fun h=>e h.symm),hr];split<;>rfl
 have hu:∀b,b∈ci->∀c,c∈ci->c.1=b.1->c=b:=by decide +kernel
 unfold dI;rw[key ci hb (hu b hb) yZ]
def pk(k:Nat):PK:=if k=1 then .W else if k=2 then .I else if k=14 then .P else .L k
def Bp(k:Nat)(T:List Tok)(e:Ex):Prop:=∀r,Stop k r->par (pk k) (T++r)=.ok e r
theorem tO(r:List Tok):par (.L 13) r=par .U r:=by rw[c6];simp only[aP];rw[if_pos (by omega)]
theorem uZ{k:Nat}{r:List Tok}(h:Stop k r)(hk:3≤k)(e:Ex):par (.Lp k e) r=.ok e r:=by
 rw[c6];simp only[aP]
 have h1:(if k=9 then acc bR r else none)=none:=by
  split
  .exact h.ins (by omega)
  .rfl
 rw[h1,h.op k (RK _) hk]
theorem LE{T:List Tok}{e:Ex}{j:Nat}(h:Bp (j+1) T e)(h1:1≤j)(h2:j≤13)(h3:j=13->∀r,acc (aa 33) (T++r)=none/\acc (aa 126) (T++r)=none/\acc (aa 45) (T++r)=none):Bp j T e:=by
 intro r hr;have hn:=h r (hr.mono (RN j));by_cases j1:j=1
 .subst j1;show par .W (T++r)=_;have hn:par .I (T++r)=.ok e r:=hn;rw[c6];simp only[aP,hn,PR.bind,hr.q (RK _)]
 by_cases j2:j=2
 .subst j2;show par .I (T++r)=_;have hn:par (.L 3) (T++r)=.ok e r:=hn;rw[c6];simp only[aP,hn,PR.bind,hr.im (RK _)]
 by_cases j13:j=13
 .subst j13;show par (.L 13) (T++r)=_;have hn:par .P (T++r)=.ok e r:=hn;obtain⟨a1,a2,a3⟩:=h3 rfl r;rw[tO,c6];simp only[aP,a1,a2,a3,hn]
 .have hp:pk j=.L j:=by unfold pk;rw[if_neg j1,if_neg j2,if_neg (by omega)]
  have hp1:pk (j+1)=.L (j+1):=by unfold pk;rw[if_neg (by omega),if_neg (by omega),if_neg (by omega)]
  rw[hp1]at hn;rw[hp,c6];simp only[aP];rw[if_neg (by omega),hn];simp only[PR.bind];exact uZ hr (by omega) e
theorem IB{T:List Tok}{e:Ex}{k:Nat}(h:Bp (k+1) T e)(h1:3≤k)(h2:k≤12){r:List Tok}(hr:Stop (k+1) r):par (.L k) (T++r)=par (.Lp k e) r:=by
 have hp1:pk (k+1)=.L (k+1):=by unfold pk;rw[if_neg (by omega),if_neg (by omega),if_neg (by omega)]
 have hn:=h r hr;rw[hp1]at hn;rw[c6];simp only[aP];rw[if_neg (by omega),hn];rfl
theorem NU{T:List Tok}{e:Ex}(h:Bp 1 T e):Bp 14 (tm (aa 40)::(T++[tm (aa 41)])) e:=by
 intro r hr;show par .P _=_;rw[c6];simp only[aP];unfold dP;rw[List.cons_append,cM (ch _ (by simp))];have:=h (tm (aa 41)::r) (fv (by simp) 1 r);have hp:pk 1=.W:=rfl;rw[hp]at this;simp only[List.append_assoc,List.singleton_append,this,PR.bind,cM (ch (aa 41) (by simp))]
structure RT(e:Ex):Prop where
 at_:∀k,1≤k->k≤14->Bp k (fG k (e.op,bN e)) e
 left:∀k,3≤k->k≤12->∀r,Stop (k+1) r->par (.L k) (fG k (e.op,bN e)++r)=par (.Lp k e) r
theorem sH{e:Ex}(k0:Nat)(hk:kQ e.op=k0)(h1:1≤k0)(h14:k0≤14)(hb:Bp k0 (bN e) e)(hp:k0=14->∀r,acc (aa 33) (bN e++r)=none/\acc (aa 126) (bN e++r)=none/\acc (aa 45) (bN e++r)=none)
 (hl:3≤k0->k0≤12->∀r,Stop (k0+1) r->par (.L k0) (bN e++r)=par (.Lp k0 e) r):RT e:=by
 have plain:∀n k,k0=k+n->1≤k->Bp k (bN e) e:=by
  intro n
  induction n with
  | zero=>intro k e _;rw[Nat.add_zero]at e;subst e;exact hb
  | succ n ih=>intro k hkn h1;exact LE (ih (k+1) (by omega) (by omega)) h1 (by omega) (fun e=>hp (by omega))
 have b1:Bp 1 (bN e) e:=plain (k0-1) 1 (by omega) (RK _)
 have pr:∀n k,14=k+n->1≤k->Bp k (tm (aa 40)::(bN e++[tm (aa 41)])) e:=by
  intro n
  induction n with
  | zero=>intro k e _;have:k=14:=by omega
          subst this;exact NU b1
  | succ n ih=>intro k hkn h1;exact LE (ih (k+1) (by omega) (by omega)) h1 (by omega) (fun e r=>⟨bJ (t:=tm (aa 40)) (by decide +kernel),bJ (t:=tm (aa 40)) (by decide +kernel),bJ (t:=tm (aa 40)) (by decide +kernel)⟩)
 have at_:∀k,1≤k->k≤14->Bp k (fG k (e.op,bN e)) e:=by
  intro k g1 g2;unfold fG;simp only[hk];split
  .exact pr (14-k) k (by omega) g1
  .exact plain (k0-k) k (by omega) g1
 refine⟨at_,fun k g1 g2 r hr=>?_⟩;by_cases e0:k=k0
 .subst e0;have:fG k (e.op,bN e)=bN e:=by unfold fG;simp only[hk];rw[if_neg (by omega)]
  rw[this];exact hl g1 g2 r hr
 .have:fG k (e.op,bN e)=fG (k+1) (e.op,bN e):=by
   unfold fG;simp only[hk];by_cases g:k0<k
   .rw[if_pos g,if_pos (by omega)]
   .rw[if_neg g,if_neg (by omega)]
  rw[this];exact IB (at_ (k+1) (by omega) (by omega)) g1 g2 hr
end Go.Proofs.YthekkgfmagliiaaGreatDoor
