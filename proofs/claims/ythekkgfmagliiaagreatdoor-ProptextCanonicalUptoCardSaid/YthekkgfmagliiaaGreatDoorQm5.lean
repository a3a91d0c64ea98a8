import Derived.Test.YthekkgfmagliiaaGreatDoorQm2
set_option maxHeartbeats 4000000
set_option linter.unusedVariables false
set_option linter.unusedSimpArgs false
set_option linter.unusedSectionVars false
open List renaming length_set->Rs,append_nil->Ru,getElem?_eq_getElem->Rv,getElem?_set_self->Rw,take_left->Rx,length_drop->Ry,drop_eq_getElem_cons->Rz,set_set->RA,drop_eq_nil_of_le->RB,getElem?_eq_none->RC,getElem_mem->RD
open Nat renaming add_sub_cancel_left->RE,le_refl->RF
namespace Go.Proofs.YthekkgfmagliiaaGreatDoor
open Go.RowKit
open Nat renaming reduceLeDiff -> jA, reduceBEq -> jB, reduceLT -> jC, reduceEqDiff -> jD, reduceAdd -> jE, reduceSub -> jF, reduceMul -> jG
open V renaming copy -> jV, lend -> jW, lend1 -> jX, cells -> jY, boxable -> jZ
theorem yX(e:Ex):dR e=0\/dR e=1\/dR e=7:=by
 induction e using Ex.ind with
 | h o n s l ih=>
 have hl:∀l:List Ex,(∀a,a∈l->dR a=0\/dR a=1\/dR a=7)->lW l=0\/lW l=1\/lW l=7:=by
  intro l
  induction l with
  | nil=>intro _;exact .inl rfl
  | cons a r ihr=>
   intro h;simp only[lW];split
   .exact ihr fun b hb=>h b (by simp[hb])
   .exact h a (by simp)
 have hn:bK o n s l.length=0\/bK o n s l.length=1\/bK o n s l.length=7:=by
  unfold bK;repeat' split
  all_goals simp
 simp only[dR];split
 .exact hl l ih
 .exact hn
theorem uI(e:Ex):aZ e=0\/aZ e=1\/aZ e=2\/aZ e=7:=by
 have:=yX e;unfold aZ;split<;>omega
structure Pst(σ0:LLV)(i:Nat)(ts:List Tok)(a:Nat)(L:Int)(σ:LLV):Prop where
 eq:σ=σ0.set i (pq ts a L)
 below:aj σ0.length σ0=true
 lt:i<σ0.length
section
variable {σ0 σ : LLV} {i : Nat} {ts : List Tok} {a : Nat} {L : Int}
theorem Pst.init(hi:σ[i]? = some (pq ts a L))(hb:aj σ.length σ=true):Pst σ i ts a L σ:=⟨(GE hi).symm,hb,(List.getElem?_eq_some_iff.1 hi).1⟩
theorem Pst.len(S:Pst σ0 i ts a L σ):σ.length=σ0.length:=by rw[S.eq,Rs]
theorem Pst.at_(S:Pst σ0 i ts a L σ):σ[i]? = some (pq ts a L):=by rw[S.eq,Rw S.lt]
theorem Pst.bb(S:Pst σ0 i ts a L σ):aj σ.length σ=true:=by rw[S.len,S.eq];exact ca S.below rfl
theorem Pst.step(S:Pst σ0 i ts a L σ)(b:Nat)(L':Int):Pst σ0 i ts b L' (σ.set i (pq ts b L')):=⟨by rw[S.eq,RA],S.below,S.lt⟩
theorem Pst.slen(S:Pst σ0 i ts a L σ)(X:List V):(σ.set i X).length=σ.length:=Rs
variable (H : TsV ts) {l : LLV} {K P : V -> LLV -> Prop} {s : Tag K} {t : Tag P}
include H
theorem jv{m:ByteArray}(S:Pst σ0 i ts a L σ)(ha:a≤2000000)(ht:aH m ts a=true->a<ts.length->∀σ',Pst σ0 i ts (a+1) L σ'->σ'.length=σ.length->K (aq true) (σ'++l))(hf:aH m ts a=false->K (aq false) (σ++l)):
 js G 48 [.ptr i 0,.d (ae m)] (σ++l) K P s t:=by
 refine aR (sP m ts a i L H ha (σ++l) (ar S.at_ l)) fun o σ' ⟨e1,e2⟩=>?_;subst e1;rw[bc];cases hs:aH m ts a with
 | true=>
  rw[hs,if_pos rfl,aI S.at_]at e2;subst e2;exact ht hs (fe hs) _ (S.step _ _) (S.slen _)
 | false=>
  rw[hs,if_neg (by decide)]at e2;subst e2;exact hf hs
theorem e8{m:ByteArray}(S:Pst σ0 i ts a L σ)(ha:a≤1500000)(ht:aH m ts a=true->a<ts.length->∀σ',Pst σ0 i ts (a+1) L σ'->σ'.length=σ.length->K (.tup []) (σ'++l))(hf:aH m ts a=false->∀σ',Pst σ0 i ts a L σ'->σ'.length=σ.length->P (i6 ts a) (σ'++l)):
 js G 46 [.ptr i 0,.d (.sl [[ae m]])] (σ++l) K P s t:=by
 refine aR (sQ [m] ts a i L H ha (by simp) (σ++l) (ar S.at_ l)) fun o σ' hq=>?_;rcases hq with⟨h1,e1,e2⟩|⟨j,hj,h1,h2,e1,e2⟩
 .subst e1;rw[aI S.at_]at e2;subst e2;simp only[fB,Bool.and_true]at h1;rw[bc];exact ht h1 (fe h1) _ (S.step _ _) (S.slen _)
 .subst e1;rw[aI S.at_]at e2;subst e2;have hj0:j=0:=by simpa using hj
  subst hj0;rw[bz];exact hf h2 _ (S.step _ _) (S.slen _)
theorem Iq{m m':ByteArray}(S:Pst σ0 i ts a L σ)(ha:a≤1500000)(ht:aH m ts a=true->aH m' ts (a+1)=true->a+1<ts.length->∀σ',Pst σ0 i ts (a+2) L σ'->σ'.length=σ.length->K (.tup []) (σ'++l))
 (hf:∀b,(aH m ts a=false/\b=a\/(aH m ts a=true/\aH m' ts (a+1)=false/\b=a+1))->∀σ',Pst σ0 i ts b L σ'->σ'.length=σ.length->P (i6 ts b) (σ'++l)):
 js G 46 [.ptr i 0,.d (.sl [[ae m],[ae m']])] (σ++l) K P s t:=by
 refine aR (sQ [m,m'] ts a i L H ha (by simp) (σ++l) (ar S.at_ l)) fun o σ' hq=>?_;rcases hq with⟨h1,e1,e2⟩|⟨j,hj,h1,h2,e1,e2⟩
 .subst e1;rw[aI S.at_]at e2;subst e2;simp only[fB,Bool.and_true,Bool.and_eq_true]at h1;rw[bc];exact ht h1.1 h1.2 (fe h1.2) _ (S.step _ _) (S.slen _)
 .subst e1;rw[aI S.at_]at e2;subst e2;rw[bz];have hj2:j=0\/j=1:=by simp at hj;omega
  rcases hj2 with rfl|rfl
  .exact hf a (.inl ⟨h2,rfl⟩) _ (S.step _ _) (S.slen _)
  .simp only[List.take_succ_cons,List.take_zero,fB,Bool.and_true]at h1;exact hf (a+1) (.inr ⟨h1,h2,rfl⟩) _ (S.step _ _) (S.slen _)
theorem sK:(∀t,ts[a]? = some t->t.kind=3->bW (ts.drop a)=some (t.num,ts.drop (a+1)))/\((∀t,ts[a]? = some t->t.kind≠3)->bW (ts.drop a)=none):=by
 by_cases h:a<ts.length
 .rw[Rv h,Rz h];refine⟨fun t e hk=>?_,fun hn=>?_⟩
  .cases e;simp only[bW];rw[if_pos ⟨H.v _ (RD h),hk⟩]
  .simp only[bW];rw[if_neg fun hc=>hn _ rfl hc.2]
 .rw[RC (by omega),RB (by omega)];exact⟨fun t e=>(by cases e),fun _=>rfl⟩
theorem iH:(∀t,ts[a]? = some t->t.kind=1->bw (ts.drop a)=some (t.text,ts.drop (a+1)))/\((∀t,ts[a]? = some t->t.kind≠1)->bw (ts.drop a)=none):=by
 by_cases h:a<ts.length
 .rw[Rv h,Rz h];refine⟨fun t e hk=>?_,fun hn=>?_⟩
  .cases e;simp only[bw];rw[if_pos ⟨H.v _ (RD h),hk⟩]
  .simp only[bw];rw[if_neg fun hc=>hn _ rfl hc.2]
 .rw[RC (by omega),RB (by omega)];exact⟨fun t e=>(by cases e),fun _=>rfl⟩
theorem Ba(S:Pst σ0 i ts a L σ)(ha:a≤1500000)(ht:∀t:Tok,bW (ts.drop a)=some (t.num,ts.drop (a+1))->a<ts.length->∀σ',Pst σ0 i ts (a+1) L σ'->σ'.length=σ.length->K (eN t) (σ'++l))(hf:bW (ts.drop a)=none->P (i6 ts a) (σ++l)):
 js G 47 [.ptr i 0,.d (ab 3)] (σ++l) K P s t:=by
 refine aR (nQ ts a i L 3 H (by omega) (σ++l) (ar S.at_ l)) fun o σ' hq=>?_;rcases hq with⟨t,h1,h2,e1,e2⟩|⟨h1,e1,e2⟩
 .subst e1;rw[aI S.at_]at e2;subst e2;rw[bc];exact ht t ((sK H).1 t h1 h2) (List.getElem?_eq_some_iff.1 h1).1 _ (S.step _ _) (S.slen _)
 .subst e1;subst e2;rw[bz];exact hf ((sK H).2 h1)
theorem K1(S:Pst σ0 i ts a L σ)(ha:a≤1500000)(ht:∀t:Tok,bw (ts.drop a)=some (t.text,ts.drop (a+1))->a<ts.length->∀σ',Pst σ0 i ts (a+1) L σ'->σ'.length=σ.length->K (eN t) (σ'++l))(hf:bw (ts.drop a)=none->P (i6 ts a) (σ++l)):
 js G 47 [.ptr i 0,.d (ab 1)] (σ++l) K P s t:=by
 refine aR (nQ ts a i L 1 H (by omega) (σ++l) (ar S.at_ l)) fun o σ' hq=>?_;rcases hq with⟨t,h1,h2,e1,e2⟩|⟨h1,e1,e2⟩
 .subst e1;rw[aI S.at_]at e2;subst e2;rw[bc];exact ht t ((iH H).1 t h1 h2) (List.getElem?_eq_some_iff.1 h1).1 _ (S.step _ _) (S.slen _)
 .subst e1;subst e2;rw[bz];exact hf ((iH H).2 h1)
end
theorem yj(σ:LLV)(i k:Nat)(X:List V)(l:LLV):(σ.set i X++l)[σ.length+k]? = l[k]? := by
 rw[List.getElem?_append_right (by rw[Rs];omega),Rs,RE]
theorem ze(σ:LLV)(i k:Nat)(X Z:List V)(l:LLV):(σ.set i X++l).set (σ.length+k) Z=σ.set i X++l.set k Z:=by
 rw[List.set_append_right _ _ (by rw[Rs];omega),Rs,RE]
def QC{α:Type}(mk:α->V)(ts:List Tok)(i:Nat)(σ:LLV)(y:QF α):Out->LLV->Prop:=fun o σ'=>match y with
 | .out=>False
 | .bad l e=>o=.panic (ij l e)/\∃b L2,σ'=σ.set i (pq ts b L2)
 | .ok v a2 L2=>o=.ret (mk v)/\σ'=σ.set i (pq ts a2 L2)
section
variable {α : Type} {mk : α -> V} {σ0 σ : LLV} {i : Nat} {ts : List Tok} {a : Nat} {L : Int} {l : LLV} {K P : V -> LLV -> Prop} {s : Tag K} {t : Tag P} {f : FuncId} {args : List V} {y : QF α}
theorem eT(S:Pst σ0 i ts a L σ)(hne:y≠.out)(h:Fun G f args (σ++l) (QC mk ts i (σ++l) y))(ht:∀v a2 L2,y=.ok v a2 L2->∀σ',Pst σ0 i ts a2 L2 σ'->σ'.length=σ.length->K (mk v) (σ'++l))(hf:∀l' e b L2,y=.bad l' e->∀σ',Pst σ0 i ts b L2 σ'->σ'.length=σ.length->P (ij l' e) (σ'++l)):
 js G f args (σ++l) K P s t:=by
 refine aR h fun o σ' hq=>?_;cases y with
 | out=>exact absurd rfl hne
 | bad l' e=>
  obtain⟨rfl,b,L2,rfl⟩:=hq;rw[aI S.at_,bz];exact hf l' e b L2 rfl _ (S.step _ _) (S.slen _)
 | ok v a2 L2=>
  obtain⟨rfl,rfl⟩:=hq;rw[aI S.at_,bc];exact ht v a2 L2 rfl _ (S.step _ _) (S.slen _)
theorem qC{pre:List O}{ρ ρ1:ah}(S:Pst σ0 i ts a L σ)(hne:y≠.out)(h:Fun G f args (σ++l) (QC mk ts i (σ++l) y))(ht:∀v a2 L2,y=.ok v a2 L2->∀σ',Pst σ0 i ts a2 L2 σ'->σ'.length=σ.length->bh G pre ρ (σ'++l) (fun ρ'=>ρ'=ρ1) .mk/\K (mk v) (σ'++l))(hf:∀l' e b L2,y=.bad l' e->∀σ',Pst σ0 i ts b L2 σ'->σ'.length=σ.length->P (ij l' e) (σ'++l)):
 FT G f args pre ρ ρ1 (σ++l) K P s t:=by
 cases y with
 | out=>exact absurd rfl hne
 | bad l' e=>
  refine uu (h.mono fun o σ' hq=>?_);obtain⟨rfl,b,L2,rfl⟩:=hq;rw[aI S.at_];exact⟨_,rfl,hf l' e b L2 rfl _ (S.step _ _) (S.slen _)⟩
 | ok v a2 L2=>
  obtain⟨k1,k2⟩:=ht v a2 L2 rfl _ (S.step a2 L2) (S.slen _);refine ui (v:=mk v) (σ1:=σ.set i (pq ts a2 L2)++l) (h.mono fun o σ' hq=>?_) k1 k2;obtain⟨rfl,rfl⟩:=hq;exact⟨rfl,aI S.at_ l _⟩
theorem et{rs:List RV}{ρ:ah}{v:α}(S:Pst σ0 i ts a L σ)(hy:y=.ok v a L)(hu:V.under σ.length (mk v)=true)(h:aU (σ++l) ρ rs=some (mk v)):fin σ.length rs (QC mk ts i σ0 y) .ret ρ (σ++l):=by
 subst hy;exact bH (τ:=σ) S.bb h hu Rx ⟨rfl,S.eq⟩
theorem dp{rs:List RV}{ρ:ah}{l' e:Int}(S:Pst σ0 i ts a L σ)(hy:y=.bad l' e):fin σ.length rs (QC mk ts i σ0 y) (.panic (ij l' e)) ρ (σ++l):=by
 subst hy;exact⟨σ.length,RF _,by rw[Rx];exact S.bb,rfl,by rw[Rx];exact⟨rfl,a,L,S.eq⟩⟩
theorem cC{rs:List RV}{ρ:ah}{b:Nat}(S:Pst σ0 i ts a L σ)(hy:y=.bad (b7 ts b).1 (b7 ts b).2):fin σ.length rs (QC mk ts i σ0 y) (.panic (i6 ts b)) ρ (σ++l):=dp S hy
end
def pp(n:Nat)(r:List Tok):Ex×Int×Int:=match par .W r with
 | .bad c r=>(z0,((n-r.length:Nat):Int),c)
 | .ok e r=>if aZ e=0 then(e,((n-r.length:Nat):Int),0)else(z0,0,aZ e)
 | .out=>(z0,0,0)
theorem Ib(e:Ex)(n c:Int):iK (e,n,c)=.tup [.agg [.d (ab e.op),.d (ab e.num),.d (ae e.name),.d (.sl (e.args.map dex))],.d (ab n),.d (ab c)]:=by unfold iK;rw[ak]
theorem Cf(ts:List Tok)(H:TsOK ts)(a:Nat)(ha:a≤ts.length)(σ:LLV):Fun G 200 [.d (.sl (ts.map dF)),.d (ab a)] σ (aA (iK (pp ts.length (ts.drop a))) σ):=by
 refine ai Tryz.func200 Qx rfl fun hb hw=>?_;unfold LB;have hA:=fun σ=>vo ts H a ha σ;have hL:=H.len;have d0:decide (((a:Nat):Int)<0)=false:=by rw[decide_eq_false_iff_not];omega
 have d1:decide (((ts.length:Nat):Int)<((a:Nat):Int))=false:=by rw[decide_eq_false_iff_not];omega
 simp -dsimp only[aw,jV,jW,jX,jY,jZ,jA,reduceIte,reduceCtorEq,jB,jC,jD,jE,jF,jG,d0,d1];refine ac (hA _) ?_;cases hx:par .W (ts.drop a)with
 | out=>exact absurd hx (dB _ _)
 | bad c r=>
  have hT:pp ts.length (ts.drop a)=(z0,((ts.length-r.length:Nat):Int),c):=by unfold pp;rw[hx]
  have dc:=decide_eq_false (p7 hx).1;rw[hT];simp -dsimp only[aw,jV,jW,jX,jY,jZ,jA,reduceIte,reduceCtorEq,jB,jC,jD,jE,jF,jG,Ew,ak,bS,bi,aN,aO,dc];exact al hb (v:=iK (z0,((ts.length-r.length:Nat):Int),c)) (by unfold iK;rw[kf];simp[z8,aU,cY,bq,aw,jV,jW,jX,jY,jZ,jA,reduceIte,reduceCtorEq,jB,jC,jD,jE,jF,jG]) (by unfold iK;rw[kf];rfl) Rx ⟨rfl,rfl⟩
 | ok e r=>
  have hsz:=Ge hx;rw[Ry]at hsz;have hv:=oP e (by omega) (by have:=D4 e;omega);by_cases h0:aZ e=0
  .have hT:pp ts.length (ts.drop a)=(e,((ts.length-r.length:Nat):Int),0):=by unfold pp;rw[hx];simp[h0]
   rw[hT];simp -dsimp only[aw,jV,jW,jX,jY,jZ,jA,reduceIte,reduceCtorEq,jB,jC,jD,jE,jF,jG,Ew,ak,decide_true];refine ac (by simpa only[ak]using hv _) ?_;simp -dsimp only[aw,jV,jW,jX,jY,jZ,jA,reduceIte,reduceCtorEq,jB,jC,jD,jE,jF,jG,decide_eq_true h0];exact al hb (v:=iK (e,((ts.length-r.length:Nat):Int),0)) (by unfold iK;rw[ak];simp[z8,aU,cY,bq,aw,jV,jW,jX,jY,jZ,jA,reduceIte,reduceCtorEq,jB,jC,jD,jE,jF,jG]) (by unfold iK;rw[ak];rfl) Rx ⟨rfl,rfl⟩
  .have hT:pp ts.length (ts.drop a)=(z0,0,aZ e):=by unfold pp;rw[hx];simp[h0]
   rw[hT];simp -dsimp only[aw,jV,jW,jX,jY,jZ,jA,reduceIte,reduceCtorEq,jB,jC,jD,jE,jF,jG,Ew,ak,decide_true];refine ac (by simpa only[ak]using hv _) ?_;simp -dsimp only[aw,jV,jW,jX,jY,jZ,jA,reduceIte,reduceCtorEq,jB,jC,jD,jE,jF,jG,decide_eq_false h0];exact al hb (v:=iK (z0,0,aZ e)) (by unfold iK;rw[kf];simp[z8,aU,cY,bq,aw,jV,jW,jX,jY,jZ,jA,reduceIte,reduceCtorEq,jB,jC,jD,jE,jF,jG]) (by unfold iK;rw[kf];rfl) Rx ⟨rfl,rfl⟩
theorem oB(ts:List Tok)(a i:Nat)(L:Int)(H:TsV ts)(ha:a≤ts.length)(σ:LLV)(hi:σ[i]? = some (pq ts a L)):
 Fun G 170 [.ptr i 0] σ (QC vex ts i σ (hZ ts a L QF.ok)):=by
 refine ai Tryz.func170 P5 rfl fun hb hw=>?_;unfold NN;have S:=Pst.init hi hb;have hT:=fun σ=>Cf ts H.ok a ha σ;have hL:=H.ok.len;have hil:=(List.getElem?_eq_some_iff.1 hi).1;have hio:=fun l=>ar hi l;have hso:=fun X l=>aI hi X l;have hlast:=fun l=>n9 ts a i L H (σ++l) (ar hi l);unfold hZ;unfold pp at hT;unfold pq at hio hso;cases hx:par .W (ts.drop a)with
 | out=>exact absurd hx (dB _ _)
 | bad c r=>
  have hb3:=vu hx;have hbl:=(p7 hx).2;rw[Ry]at hbl;rw[hx]at hT;simp only at hT ⊢;simp -dsimp only[aw,jV,jW,jX,jY,jZ,jA,reduceIte,reduceCtorEq,jB,jC,jD,jE,jF,jG,hio];refine bd (hT _) ?_;simp -dsimp only[aw,jV,jW,jX,jY,jZ,jA,reduceIte,reduceCtorEq,jB,jC,jD,jE,jF,jG,iK,ak,z0,bS,bi,aN,aO];refine bQ (bQ (bd (hT _) ?_) ?_) ?_
  .simp -dsimp only[aw,jV,jW,jX,jY,jZ,jA,reduceIte,reduceCtorEq,jB,jC,jD,jE,jF,jG,iK,ak,z0,bS,bi,aN,aO]
  .simp -dsimp only[aw,jV,jW,jX,jY,jZ,jA,reduceIte,reduceCtorEq,jB,jC,jD,jE,jF,jG,hio]
  rcases hb3 with h6|⟨h35,hne⟩
  .subst h6;rw[if_pos rfl];simp -dsimp only[aw,jV,jW,jX,jY,jZ,jA,reduceIte,reduceCtorEq,jB,jC,jD,jE,jF,jG,iK,kf,Int.reduceEq,decide_false,decide_true];refine ac (hlast _) ?_;simp -dsimp only[aw,jV,jW,jX,jY,jZ,jA,reduceIte,reduceCtorEq,jB,jC,jD,jE,jF,jG];exact dp (y:=.bad (d6 ts) 6) S rfl
  .have hrl:1≤r.length:=by cases r with|nil=>exact absurd rfl hne|cons _ _=>simp
   have hlt:ts.length-r.length<ts.length:=by omega
   have hc6:c≠6:=by omega
   have hc0:c≠0:=by omega
   have hwl:IntKind.i64.wrap (((ts.length:Nat):Int)-1)=((ts.length-1:Nat):Int):=by rw[aJ (by omega) (by omega)];omega
   have hmx:max (((ts.length-r.length:Nat):Int)) 0=((ts.length-r.length:Nat):Int):=by omega
   have hmn:min (((ts.length-r.length:Nat):Int)) ((ts.length-1:Nat):Int)=((ts.length-r.length:Nat):Int):=by omega
   rw[if_neg hc6];have hF:b7 ts (ts.length-r.length)=(ts[ts.length-r.length].line,5):=by unfold b7;rw[Rv hlt]
   rw[hF];simp only
   have fin:∀(x:LLV) ρ,fin σ.length mh (QC vex ts i σ (.bad ts[ts.length-r.length].line c)) (.panic (ij ts[ts.length-r.length].line c)) ρ (σ.set i (pq ts (ts.length-r.length) L)++x):=fun x ρ=>by
    have:=dp (mk:=vex) (y:=.bad ts[ts.length-r.length].line c) (S.step (ts.length-r.length) L) rfl (rs:=mh) (ρ:=ρ) (l:=x);rwa[Rs]at this
   have hs1:=fun l=>ar (Rw (a:=pq ts (ts.length-r.length) L) hil) l;unfold pq at fin hs1;by_cases h5:c=5
   .subst h5;simp -dsimp only[aw,jV,jW,jX,jY,jZ,jA,reduceIte,reduceCtorEq,jB,jC,jD,jE,jF,jG,iK,kf,Int.reduceEq,decide_false,decide_true,hio,hso,hwl,hmx,hmn,hs1,Rv hlt,bv,dF];intro ρ2;exact fin _ ρ2
   .have h3:c=3:=by omega
    subst h3;simp -dsimp only[aw,jV,jW,jX,jY,jZ,jA,reduceIte,reduceCtorEq,jB,jC,jD,jE,jF,jG,iK,kf,Int.reduceEq,decide_false,decide_true,hio,hso,hwl,hmx,hmn,hs1,Rv hlt,bv,dF];intro ρ2;exact fin _ ρ2
 | ok e r=>
  rw[hx]at hT;simp only at hT ⊢;by_cases hv:aZ e=0
  .rw[if_pos hv]at hT ⊢;simp -dsimp only[aw,jV,jW,jX,jY,jZ,jA,reduceIte,reduceCtorEq,jB,jC,jD,jE,jF,jG,hio];refine bd (hT _) ?_;simp -dsimp only[aw,jV,jW,jX,jY,jZ,jA,reduceIte,reduceCtorEq,jB,jC,jD,jE,jF,jG,iK,ak,z0,bS,bi,aN,aO];refine bQ (bQ (bd (hT _) ?_) ?_) ?_
   .simp -dsimp only[aw,jV,jW,jX,jY,jZ,jA,reduceIte,reduceCtorEq,jB,jC,jD,jE,jF,jG,iK,ak,z0,bS,bi,aN,aO]
   .simp -dsimp only[aw,jV,jW,jX,jY,jZ,jA,reduceIte,reduceCtorEq,jB,jC,jD,jE,jF,jG,hio]
   simp -dsimp only[aw,jV,jW,jX,jY,jZ,jA,reduceIte,reduceCtorEq,jB,jC,jD,jE,jF,jG,Ib,hio,hso,decide_true,lM,pT,yj,ze]
   have hfin:∀(x:LLV) (ρ:ah),aU (σ.set i (pq ts (ts.length-r.length) L)++x) ρ mh=some (vex e)->fin σ.length mh (QC vex ts i σ (.ok e (ts.length-r.length) L)) .ret ρ (σ.set i (pq ts (ts.length-r.length) L)++x):=fun x ρ h=>by
    have:=et (mk:=vex) (y:=.ok e (ts.length-r.length) L) (S.step (ts.length-r.length) L) rfl (by rw[ak];rfl) h;rwa[Rs]at this
   unfold pq at hfin;refine hfin _ _ ?_;rw[ak];simp[mh,aU,bq,aw,jV,jW,jX,jY,jZ,jA,reduceIte,reduceCtorEq,jB,jC,jD,jE,jF,jG]
  .rw[if_neg hv]at hT ⊢;have hcd:=uI e;have h6:¬aZ e=6:=by omega
   have h5:¬aZ e=5:=by omega
   have h3:¬aZ e=3:=by omega
   have hres:∀(L':Int) (x:List V) (y:LLV) (ρ:ah),L'=(if L=0 then aZ e else L)->aU (σ.set i (pq ts (kG ts a) L')++y) ρ mh=some (vex cE)->fin σ.length mh (QC vex ts i σ (.ok cE (kG ts a) (if L=0 then aZ e else L))) .ret ρ (σ.set i (pq ts (kG ts a) L')++y):=fun L' x y ρ hL' h=>by
    subst hL';have:=et (mk:=vex) (y:=.ok cE (kG ts a) _) (S.step (kG ts a) (if L=0 then aZ e else L)) rfl (by rw[ak];rfl) h;rwa[Rs]at this
   unfold pq at hres;simp -dsimp only[aw,jV,jW,jX,jY,jZ,jA,reduceIte,reduceCtorEq,jB,jC,jD,jE,jF,jG,hio];refine bd (hT _) ?_;simp -dsimp only[aw,jV,jW,jX,jY,jZ,jA,reduceIte,reduceCtorEq,jB,jC,jD,jE,jF,jG,iK,ak,z0,bS,bi,aN,aO];refine bQ (bQ (bd (hT _) ?_) ?_) ?_
   .simp -dsimp only[aw,jV,jW,jX,jY,jZ,jA,reduceIte,reduceCtorEq,jB,jC,jD,jE,jF,jG,iK,ak,z0,bS,bi,aN,aO]
   .simp -dsimp only[aw,jV,jW,jX,jY,jZ,jA,reduceIte,reduceCtorEq,jB,jC,jD,jE,jF,jG,hio]
   by_cases hL0:L=0
   .have hE:=fun l=>wW ts a a i (aZ e) H ha (σ.set i (pq ts a (aZ e))++l) (ar (Rw hil) l);have hs1:=fun l=>ar (Rw (a:=pq ts a (aZ e)) hil) l;have hso1:=fun X l=>aI (Rw (a:=pq ts a (aZ e)) hil) X l;unfold pq at hE hs1 hso1;simp -dsimp only[aw,jV,jW,jX,jY,jZ,jA,reduceIte,reduceCtorEq,jB,jC,jD,jE,jF,jG,iK,kf,decide_eq_false hv,decide_eq_false h6,decide_eq_false h5,decide_eq_false h3,hio,hso,decide_eq_true hL0,hs1];refine ac (hE _) ?_;simp -dsimp only[aw,jV,jW,jX,jY,jZ,jA,reduceIte,reduceCtorEq,jB,jC,jD,jE,jF,jG,hs1,hso1,RA,pT,lM,yj,ze];refine hres (aZ e) [] _ _ (by rw[if_pos hL0]) ?_;rw[ak];simp[mh,aU,bq,cE,bS,bi,aN,aO,lM,aw,jV,jW,jX,jY,jZ,jA,reduceIte,reduceCtorEq,jB,jC,jD,jE,jF,jG]
   .have hE:=fun l=>wW ts a a i L H ha (σ++l) (ar hi l);simp -dsimp only[aw,jV,jW,jX,jY,jZ,jA,reduceIte,reduceCtorEq,jB,jC,jD,jE,jF,jG,iK,kf,decide_eq_false hv,decide_eq_false h6,decide_eq_false h5,decide_eq_false h3,hio,hso,decide_eq_false hL0];refine ac (hE _) ?_;simp -dsimp only[aw,jV,jW,jX,jY,jZ,jA,reduceIte,reduceCtorEq,jB,jC,jD,jE,jF,jG,hio,hso,RA,pT,lM,yj,ze];refine hres L [] _ _ (by rw[if_neg hL0]) ?_;rw[ak];simp[mh,aU,bq,cE,bS,bi,aN,aO,lM,aw,jV,jW,jX,jY,jZ,jA,reduceIte,reduceCtorEq,jB,jC,jD,jE,jF,jG]
end Go.Proofs.YthekkgfmagliiaaGreatDoor
namespace Go.Proofs.YthekkgfmagliiaaGreatDoor
open Go.RowKit
open Nat renaming reduceLeDiff -> jA, reduceBEq -> jB, reduceLT -> jC, reduceEqDiff -> jD, reduceAdd -> jE, reduceSub -> jF, reduceMul -> jG
open V renaming copy -> jV, lend -> jW, lend1 -> jX, cells -> jY, boxable -> jZ
section
variable {α : Type} {ts : List Tok} {a : Nat} {m : ByteArray}
theorem df{f:Nat->QF α}(h:aH m ts a=true):cw ts m a f=f (a+1):=if_pos h
theorem dr{f:Nat->QF α}(h:aH m ts a=false):cw ts m a f=.bad (b7 ts a).1 (b7 ts a).2:=if_neg (by rw[h];decide)
theorem qy{n:Int}{r:List Tok}{f:Int->Nat->QF α}(h:bW (ts.drop a)=some (n,r)):kK ts a f=f n (a+1):=by unfold kK;rw[h]
theorem qM{f:Int->Nat->QF α}(h:bW (ts.drop a)=none):kK ts a f=.bad (b7 ts a).1 (b7 ts a).2:=by unfold kK;rw[h]
theorem AO{n:ByteArray}{r:List Tok}{f:ByteArray->Nat->QF α}(h:bw (ts.drop a)=some (n,r)):kM ts a f=f n (a+1):=by unfold kM;rw[h]
theorem Al{f:ByteArray->Nat->QF α}(h:bw (ts.drop a)=none):kM ts a f=.bad (b7 ts a).1 (b7 ts a).2:=by unfold kM;rw[h]
theorem mD{L:Int}(f:Ex->Nat->Int->QF α):hZ ts a L f=(hZ ts a L QF.ok).bind f:=by
 unfold hZ;cases par .W (ts.drop a)with
 | out=>rfl
 | bad c r=>simp only;split<;>rfl
 | ok e r=>simp only;split<;>rfl
theorem qg{L:Int}:hZ ts a L QF.ok≠.out:=by
 unfold hZ;cases h:par .W (ts.drop a)with
 | out=>exact absurd h (dB _ _)
 | bad c r=>simp only;split<;>(intro h;cases h)
 | ok e r=>simp only;split<;>(intro h;cases h)
theorem qL{L:Int}{e:Ex}{b:Nat}{L2:Int}(ha:a≤ts.length)(h:hZ ts a L QF.ok=.ok e b L2):a≤b/\b≤ts.length+1:=by
 unfold hZ at h;cases hp:par .W (ts.drop a)with
 | out=>exact absurd hp (dB _ _)
 | bad c r=>rw[hp]at h;simp only at h;split at h<;>cases h
 | ok e' r=>
  have:=(nO hp).1;rw[Ry]at this;rw[hp]at h;simp only at h;split at h
  .cases h;omega
  .cases h;exact Fw ts ha
end
section
variable {σ0 σ : LLV} {i : Nat} {ts : List Tok} {a : Nat} {L : Int} {K P : V -> LLV -> Prop} {s : Tag K} {t : Tag P}
theorem Hv(H:TsV ts){m:ByteArray}(S:Pst σ0 i ts a L σ)(ha:a≤2000000)(ht:aH m ts a=true->a<ts.length->∀σ',Pst σ0 i ts (a+1) L σ'->σ'.length=σ.length->K (aq true) σ')(hf:aH m ts a=false->K (aq false) σ):
 js G 48 [.ptr i 0,.d (ae m)] σ K P s t:=by
 have:=jv (l:=[]) (K:=K) (P:=P) (s:=s) (t:=t) H S ha (fun h1 h2 σ' h3 h4=>by rw[Ru];exact ht h1 h2 σ' h3 h4) (fun h=>by rw[Ru];exact hf h);rwa[Ru]at this
theorem Gj(H:TsV ts)(S:Pst σ0 i ts a L σ)(ha:a≤1500000)(ht:∀t:Tok,bW (ts.drop a)=some (t.num,ts.drop (a+1))->a<ts.length->∀σ',Pst σ0 i ts (a+1) L σ'->σ'.length=σ.length->K (eN t) σ')(hf:bW (ts.drop a)=none->P (i6 ts a) σ):
 js G 47 [.ptr i 0,.d (ab 3)] σ K P s t:=by
 have:=Ba (l:=[]) (K:=K) (P:=P) (s:=s) (t:=t) H S ha (fun t h1 h2 σ' h3 h4=>by rw[Ru];exact ht t h1 h2 σ' h3 h4) (fun h=>by rw[Ru];exact hf h);rwa[Ru]at this
variable {α : Type} {mk : α -> V} {y : QF α} {rs : List RV} {ρ : ah}
theorem A8{v:α}(S:Pst σ0 i ts a L σ)(hy:y=.ok v a L)(hu:V.under σ.length (mk v)=true)(h:aU σ ρ rs=some (mk v)):fin σ.length rs (QC mk ts i σ0 y) .ret ρ σ:=by
 have:=et (l:=[]) S hy hu (by rwa[Ru]);rwa[Ru]at this
theorem wo{b:Nat}(S:Pst σ0 i ts a L σ)(hy:y=.bad (b7 ts b).1 (b7 ts b).2):fin σ.length rs (QC mk ts i σ0 y) (.panic (i6 ts b)) ρ σ:=by
 have:=cC (l:=[]) (mk:=mk) (rs:=rs) (ρ:=ρ) S hy;rwa[Ru]at this
end
def iq(ts:List Tok)(a:Nat)(L:Int):QF (Int×Int):=kK ts a fun lo a1=>if aH (aa 58) ts a1=true then kK ts (a1+1) fun hi a2=>.ok (lo,hi) a2 L else .ok (lo,lo) a1 L
def JP(p:Int×Int):V:=.tup [.d (ab p.1),.d (ab p.2)]
theorem wu(ts:List Tok)(a i:Nat)(L:Int)(H:TsV ts)(ha:a≤ts.length)(σ:LLV)(hi:σ[i]? = some (pq ts a L)):
 Fun G 199 [.ptr i 0] σ (QC JP ts i σ (iq ts a L)):=by
 refine ai Tryz.func199 PZ rfl fun hb hw=>?_;have S:=Pst.init hi hb;have hL:=H.ok.len;obtain⟨y,hy⟩:∃y,y=iq ts a L:=⟨_,rfl⟩
 rw[<-hy];unfold iq at hy;unfold OW;simp -dsimp only[aw,jV,jW,jX,jY,jZ,jA,reduceIte,reduceCtorEq,jB,jC,jD,jE,jF,jG];refine Gj H S (by omega) (fun t hn ha1 σ1 S1 hl1=>?_) (fun hn=>?_)
 case refine_2=>
  rw[qM hn]at hy;simp -dsimp only[aw,jV,jW,jX,jY,jZ,jA,reduceIte,reduceCtorEq,jB,jC,jD,jE,jF,jG];exact wo S hy
 rw[qy hn]at hy;rw[<-hl1];simp -dsimp only[aw,jV,jW,jX,jY,jZ,jA,reduceIte,reduceCtorEq,jB,jC,jD,jE,jF,jG,eN];refine Hv H (m:=aa 58) S1 (by omega) (fun hs ha2 σ2 S2 hl2=>?_) (fun hs=>?_)
 case refine_2=>
  rw[hs,if_neg (by decide)]at hy;simp -dsimp only[aw,jV,jW,jX,jY,jZ,jA,reduceIte,reduceCtorEq,jB,jC,jD,jE,jF,jG];exact A8 S1 hy rfl rfl
 rw[hs,if_pos rfl]at hy;rw[<-hl2];simp -dsimp only[aw,jV,jW,jX,jY,jZ,jA,reduceIte,reduceCtorEq,jB,jC,jD,jE,jF,jG];refine Gj H S2 (by omega) (fun t2 hn2 ha3 σ3 S3 hl3=>?_) (fun hn2=>?_)
 case refine_2=>
  rw[qM hn2]at hy;simp -dsimp only[aw,jV,jW,jX,jY,jZ,jA,reduceIte,reduceCtorEq,jB,jC,jD,jE,jF,jG];exact wo S2 hy
 rw[qy hn2]at hy;rw[<-hl3];simp -dsimp only[aw,jV,jW,jX,jY,jZ,jA,reduceIte,reduceCtorEq,jB,jC,jD,jE,jF,jG,eN];exact A8 S3 hy rfl rfl
def jj(ts:List Tok)(i n:Nat)(k:QK)(f:FuncId):Prop:=∀(b:Nat) (L:Int),b≤ts.length->aD ts k b≤n->∀σ:LLV,σ[i]? = some (pq ts b L)->Fun G f [.ptr i 0] σ (QC vts ts i σ (ff ts n k b L))
def tsC(q:V)(s:Ts):List V:=[.d (ab s.op),.d (ab s.lo),.d (ab s.hi),.d (ab s.ex.op),.d (ab s.ex.num),.d (ae s.ex.name),q,.d (ae s.name),.d (.sl (s.args.map dts))]
def TsQ(q:V)(s:Ts):Prop:=q=.d (.sl (s.ex.args.map dex))\/(q=.nil/\s.ex.args=[])
theorem oi(o lo hi:Int)(l:List Ts):tsC .nil (nT o lo hi l)=[.d (ab o),.d (ab lo),.d (ab hi),.d (ab 0),.d (ab 0),.d (ae ⟨#[]⟩),.nil,.d (ae ⟨#[]⟩),.d (.sl (l.map dts))]:=rfl
theorem tI(o lo hi:Int)(l:List Ts):TsQ .nil (nT o lo hi l):=.inr ⟨rfl,rfl⟩
theorem GQ(ts:List Tok)(i n:Nat)(H:TsV ts)(hU:jj ts i n .U 198)(a:Nat)(L:Int)(ha:a≤ts.length)(hn:aD ts .R a≤n+1)(σ:LLV)(hi:σ[i]? = some (pq ts a L)):
 Fun G 169 [.ptr i 0] σ (QC vts ts i σ (ff ts (n+1) .R a L)):=by
 refine ai Tryz.func169 QG rfl fun hb hw=>?_;have S:=Pst.init hi hb;have hL:=H.ok.len;obtain⟨y,hy⟩:∃y,y=ff ts (n+1) .R a L:=⟨_,rfl⟩
 rw[<-hy];have hy:y=(ff ts n .U a L).bind fun s a1 L1=>ff ts n (.Rp s) a1 L1:=hy;have hnu:aD ts .U a≤n:=by simp only[aD,QK.cost]at *;omega
 have gU:=fp n .U a L ha hnu;unfold Nk;simp -dsimp only[aw,jV,jW,jX,jY,jZ,jA,reduceIte,reduceCtorEq,jB,jC,jD,jE,jF,jG];refine eT S gU.ne (hU a L ha hnu _ (ar S.at_ _)) (fun s a1 L1 hs σ1 S1 hl1=>?_) (fun l' e b L2 hs σ1 S1 hl1=>?_)
 case refine_2=>
  rw[hs]at hy;rw[<-hl1];simp -dsimp only[aw,jV,jW,jX,jY,jZ,jA,reduceIte,reduceCtorEq,jB,jC,jD,jE,jF,jG];exact dp S1 hy
 rw[hs]at hy;have g1:=gU.ok s a1 L1 hs;simp only[QK.eats]at g1;rw[<-hl1];simp -dsimp only[aw,jV,jW,jX,jY,jZ,jA,reduceIte,reduceCtorEq,jB,jC,jD,jE,jF,jG,am]
 refine bj [0,2,3] (R:=fun(j:Nat) ρ σ'=>∃(m a1:Nat) (L1:Int) (s:Ts) (q:V) (σ2:LLV),ρ=[(0,.ptr i 0),(2,.ptr σ1.length 0),(3,.ptr (σ1.length+1) 0)]/\σ'=σ2++[[.d (ab 0),.d (ab 0),.d (ab 0),.d (ab 0),.d (ab 0),.d (ae ⟨#[]⟩),.nil,.d (ae ⟨#[]⟩),.nil],tsC q s]/\TsQ q s/\Pst σ i ts a1 L1 σ2/\σ2.length=σ1.length/\a+1+j≤a1/\a1≤ts.length/\aD ts (.Rp s) a1≤m/\m≤n/\y=ff ts m (.Rp s) a1 L1) (ts.length-a)
  ⟨n,a1,L1,s,_,σ1,rfl,rfl,.inl rfl,S1,rfl,by omega,g1.2,by simp only[aD,QK.cost]at *;omega,RF _,hy⟩ ?_ _
 rintro j ρ' σ' hj ⟨m,a1,L1,s,q,σ2,rfl,rfl,hq,S2,hl2,h1,h2,h3,h4,hy⟩;obtain⟨m,rfl⟩:∃m',m=m'+1:=⟨m-1,by simp only[aD,QK.cost]at h3;omega⟩
 have hy:y=ft ts (ff ts m) (.Rp s) a1 L1:=hy;simp only[ft]at hy;have h1lt:=S2.lt;rw[<-hl2];unfold tsC;simp -dsimp only[aw,jV,jW,jX,jY,jZ,jA,reduceIte,reduceCtorEq,jB,jC,jD,jE,jF,jG];refine jv H (m:=aa 91) S2 (by omega) (fun hs3 ha3 σ3 S3 hl3=>?_) (fun hs3=>?_)
 case refine_2=>
  rw[hs3,if_neg (by decide)]at hy;rcases hq with rfl|⟨rfl,hq⟩
  .simp -dsimp only[aw,jV,jW,jX,jY,jZ,jA,reduceIte,reduceCtorEq,jB,jC,jD,jE,jF,jG];refine et S2 hy (by rw[am];rfl) ?_;rw[am];simp[Ff,aU,bq,aw,jV,jW,jX,jY,jZ,jA,reduceIte,reduceCtorEq,jB,jC,jD,jE,jF,jG]
  .simp -dsimp only[aw,jV,jW,jX,jY,jZ,jA,reduceIte,reduceCtorEq,jB,jC,jD,jE,jF,jG];refine et S2 hy (by rw[am];rfl) ?_;rw[am,hq];simp[Ff,aU,bq,aw,jV,jW,jX,jY,jZ,jA,reduceIte,reduceCtorEq,jB,jC,jD,jE,jF,jG]
 rw[hs3,if_pos rfl]at hy;rw[<-hl3];simp -dsimp only[aw,jV,jW,jX,jY,jZ,jA,reduceIte,reduceCtorEq,jB,jC,jD,jE,jF,jG];refine e8 H (m:=aa 42) S3 (by omega) (fun hs4 ha4 σ4 S4 hl4=>?_) (fun hs4 σ4 S4 hl4=>?_)
 case refine_2=>
  rw[dr hs4]at hy;rw[<-hl4];simp -dsimp only[aw,jV,jW,jX,jY,jZ,jA,reduceIte,reduceCtorEq,jB,jC,jD,jE,jF,jG];exact cC S4 hy
 rw[df hs4]at hy;rw[<-hl4];simp -dsimp only[aw,jV,jW,jX,jY,jZ,jA,reduceIte,reduceCtorEq,jB,jC,jD,jE,jF,jG]
 have hbF:y=(iq ts (a1+1+1) L1).bind fun p a2 L2=>cw ts (aa 93) a2 fun a4=>ff ts m (.Rp (nT 3 p.1 p.2 [s])) a4 L2:=by
  rw[hy];unfold iq kK;cases bW (ts.drop (a1+1+1))with
  | none=>rfl
  | some p=>
   simp only;cases aH (aa 58) ts (a1+1+1+1)with
   | false=>rfl
   | true=>
    simp only[if_true];cases bW (ts.drop (a1+1+1+1+1))with
    | none=>rfl
    | some p=>rfl
 have hbne:iq ts (a1+1+1) L1≠.out:=by
  unfold iq kK;cases bW (ts.drop (a1+1+1))with
  | none=>intro h;cases h
  | some p=>
   simp only;cases aH (aa 58) ts (a1+1+1+1)with
   | false=>intro h;cases h
   | true=>
    simp only[if_true];cases bW (ts.drop (a1+1+1+1+1))with
    | none=>intro h;cases h
    | some p=>intro h;cases h
 have hbok:∀p a2 L2,iq ts (a1+1+1) L1=.ok p a2 L2->a1+1+1≤a2/\a2≤a1+1+1+3:=by
  intro p a2 L2 h;unfold iq kK at h;cases h1:bW (ts.drop (a1+1+1))with
  | none=>rw[h1]at h;cases h
  | some p=>
   rw[h1]at h;simp only at h;cases h2:aH (aa 58) ts (a1+1+1+1)with
   | false=>rw[h2]at h;simp only[Bool.false_eq_true,if_false]at h;cases h;omega
   | true=>
    rw[h2]at h;simp only[if_true]at h;cases h3:bW (ts.drop (a1+1+1+1+1))with
    | none=>rw[h3]at h;cases h
    | some p=>rw[h3]at h;cases h;omega
 refine eT S4 hbne (wu ts (a1+1+1) i L1 H ha4 _ (ar S4.at_ _)) (fun p a5 L5 hs5 σ5 S5 hl5=>?_) (fun l' e b L5 hs5 σ5 S5 hl5=>?_)
 case refine_2=>
  rw[hs5]at hbF;rw[<-hl5];simp -dsimp only[aw,jV,jW,jX,jY,jZ,jA,reduceIte,reduceCtorEq,jB,jC,jD,jE,jF,jG];exact dp S5 hbF
 rw[hs5]at hbF;have hbF:y=cw ts (aa 93) a5 fun a4=>ff ts m (.Rp (nT 3 p.1 p.2 [s])) a4 L5:=hbF;have hb5:=hbok p a5 L5 hs5;rw[<-hl5];simp -dsimp only[aw,jV,jW,jX,jY,jZ,jA,reduceIte,reduceCtorEq,jB,jC,jD,jE,jF,jG,JP];refine e8 H (m:=aa 93) S5 (by omega) (fun hs6 ha6 σ6 S6 hl6=>?_) (fun hs6 σ6 S6 hl6=>?_)
 case refine_2=>
  rw[dr hs6]at hbF;rw[<-hl6];simp -dsimp only[aw,jV,jW,jX,jY,jZ,jA,reduceIte,reduceCtorEq,jB,jC,jD,jE,jF,jG];exact cC S6 hbF
 rw[df hs6]at hbF;rw[<-hl6];have hN:aD ts (.Rp (nT 3 p.1 p.2 [s])) (a5+1)≤m:=by simp only[aD,QK.cost]at *;omega
 have hsz:(6:Nat)=6:=rfl;rcases hq with rfl|⟨rfl,hq⟩
 .simp -dsimp only[aw,jV,jW,jX,jY,jZ,jA,reduceIte,reduceCtorEq,jB,jC,jD,jE,jF,jG];refine⟨by omega,Nxt.to (σ6++[[.d (ab 0),.d (ab 0),.d (ab 0),.d (ab 0),.d (ab 0),.d (ae ⟨#[]⟩),.nil,.d (ae ⟨#[]⟩),.nil],tsC .nil (nT 3 p.1 p.2 [s])]) [] (by simp[oi,bY]) (by simp) (aE S6.bb rfl) ?_ ⟨m,a5+1,L5,_,_,σ6,?_,rfl,tI _ _ _ _,S6,by omega,by omega,by omega,hN,by omega,hbF⟩⟩
  .have:=S6.lt;simp[ao,V.under,S6.len];omega
  .rw[hl6,hl5,hl4,hl3,hl2]
 .simp -dsimp only[aw,jV,jW,jX,jY,jZ,jA,reduceIte,reduceCtorEq,jB,jC,jD,jE,jF,jG];refine⟨by omega,Nxt.to (σ6++[[.d (ab 0),.d (ab 0),.d (ab 0),.d (ab 0),.d (ab 0),.d (ae ⟨#[]⟩),.nil,.d (ae ⟨#[]⟩),.nil],tsC .nil (nT 3 p.1 p.2 [s])]) [] (by simp[oi,bY,hq]) (by simp) (aE S6.bb rfl) ?_ ⟨m,a5+1,L5,_,_,σ6,?_,rfl,tI _ _ _ _,S6,by omega,by omega,by omega,hN,by omega,hbF⟩⟩
  .have:=S6.lt;simp[ao,V.under,S6.len];omega
  .rw[hl6,hl5,hl4,hl3,hl2]
end Go.Proofs.YthekkgfmagliiaaGreatDoor
namespace Go.Proofs.YthekkgfmagliiaaGreatDoor
open Go.RowKit
open Nat renaming reduceLeDiff -> jA, reduceBEq -> jB, reduceLT -> jC, reduceEqDiff -> jD, reduceAdd -> jE, reduceSub -> jF, reduceMul -> jG
open V renaming copy -> jV, lend -> jW, lend1 -> jX, cells -> jY, boxable -> jZ
section
variable {σ0 σ : LLV} {i : Nat} {ts : List Tok} {a : Nat} {L : Int} {l : LLV} {K P : V -> LLV -> Prop}
theorem Ku{R:LLV->Prop}{pn:Unit->Prop}{tR:Tag R}{tK:Tag K}{tP:Tag P}{tp:Tag pn}(H:TsV ts)(S:Pst σ0 i ts a L σ)(ha:a≤1500000)(ht:∀t:Tok,bw (ts.drop a)=some (t.text,ts.drop (a+1))->a<ts.length->∀σ',Pst σ0 i ts (a+1) L σ'->σ'.length=σ.length->R (σ'++l)/\K (eN t) (σ'++l))(hf:bw (ts.drop a)=none->P (i6 ts a) (σ++l))(hp:bw (ts.drop a)=none->pn ()):
 CT G 47 [.ptr i 0,.d (ab 1)] (σ++l) R K P pn tR tK tP tp:=by
 have h:=nQ ts a i L 1 H (by omega) (σ++l) (ar S.at_ l);by_cases hk:∃t,ts[a]? = some t/\t.kind=1
 .obtain⟨t,h1,h2⟩:=hk;obtain⟨k1,k2⟩:=ht t ((iH H).1 t h1 h2) (List.getElem?_eq_some_iff.1 h1).1 _ (S.step (a+1) L) (S.slen _);refine vM (σ1:=σ.set i (pq ts (a+1) L)++l) (v:=eN t) (h.mono fun o σ' hq=>?_) k1 k2;rcases hq with⟨t',g1,g2,e1,e2⟩|⟨g1,e1,e2⟩
  .rw[h1]at g1;cases g1;exact⟨e1,by rw[e2,aI S.at_]⟩
  .exact absurd h2 (g1 t h1)
 .have hn:∀t,ts[a]? = some t->t.kind≠1:=fun t h1 h2=>hk ⟨t,h1,h2⟩;refine wL (h.mono fun o σ' hq=>?_) (hp ((iH H).2 hn));rcases hq with⟨t',g1,g2,e1,e2⟩|⟨g1,e1,e2⟩
  .exact absurd g2 (hn t' g1)
  .exact⟨_,e1,by rw[e2];exact hf ((iH H).2 hn)⟩
end
theorem Dy(ts:List Tok)(i n:Nat)(H:TsV ts)(hH:jj ts i n .H 138)(hR:jj ts i n .R 169)(a:Nat)(L:Int)(ha:a≤ts.length)(hn:aD ts .H a≤n+1)(σ:LLV)(hi:σ[i]? = some (pq ts a L)):
 Fun G 138 [.ptr i 0] σ (QC vts ts i σ (ff ts (n+1) .H a L)):=by
 refine ai Tryz.func138 P7 rfl fun hb hw=>?_;have S:=Pst.init hi hb;have hL:=H.ok.len;obtain⟨y,hy⟩:∃y,y=ff ts (n+1) .H a L:=⟨_,rfl⟩
 rw[<-hy];have hy:y=ft ts (ff ts n) .H a L:=hy;simp only[ft]at hy;unfold Mk;simp -dsimp only[aw,jV,jW,jX,jY,jZ,jA,reduceIte,reduceCtorEq,jB,jC,jD,jE,jF,jG];refine jv H (m:=fZ) S (by omega) (fun hs1 ha1 σ1 S1 hl1=>?_) (fun hs1=>?_)
 case refine_2=>
  rw[hs1,if_neg (by decide)]at hy;have hnr:aD ts .R a≤n:=by simp only[aD,QK.cost]at *;omega
  simp -dsimp only[aw,jV,jW,jX,jY,jZ,jA,reduceIte,reduceCtorEq,jB,jC,jD,jE,jF,jG];refine eT S (fp n .R a L ha hnr).ne (hR a L ha hnr _ (ar S.at_ _)) (fun s a1 L1 hs σ1 S1 hl1=>?_) (fun l' e b L2 hs σ1 S1 hl1=>?_)
  .rw[hs]at hy;rw[<-hl1];simp -dsimp only[aw,jV,jW,jX,jY,jZ,jA,reduceIte,reduceCtorEq,jB,jC,jD,jE,jF,jG,am];refine et S1 hy (by rw[am];rfl) ?_;rw[am];simp[Gw,aU,bq,aw,jV,jW,jX,jY,jZ,jA,reduceIte,reduceCtorEq,jB,jC,jD,jE,jF,jG]
  .rw[hs]at hy;rw[<-hl1];simp -dsimp only[aw,jV,jW,jX,jY,jZ,jA,reduceIte,reduceCtorEq,jB,jC,jD,jE,jF,jG];exact dp S1 hy
 rw[hs1,if_pos rfl]at hy;rw[<-hl1];simp -dsimp only[aw,jV,jW,jX,jY,jZ,jA,reduceIte,reduceCtorEq,jB,jC,jD,jE,jF,jG];refine e8 H (m:=aa 123) S1 (by omega) (fun hs2 ha2 σ2 S2 hl2=>?_) (fun hs2 σ2 S2 hl2=>?_)
 case refine_2=>
  rw[dr hs2]at hy;rw[<-hl2];simp -dsimp only[aw,jV,jW,jX,jY,jZ,jA,reduceIte,reduceCtorEq,jB,jC,jD,jE,jF,jG];exact cC S2 hy
 rw[df hs2,mD]at hy;rw[<-hl2];simp -dsimp only[aw,jV,jW,jX,jY,jZ,jA,reduceIte,reduceCtorEq,jB,jC,jD,jE,jF,jG];refine eT S2 qg (oB ts (a+1+1) i L H ha2 _ (ar S2.at_ _)) (fun e a3 L3 hs3 σ3 S3 hl3=>?_) (fun l' e b L3 hs3 σ3 S3 hl3=>?_)
 case refine_2=>
  rw[hs3]at hy;rw[<-hl3];simp -dsimp only[aw,jV,jW,jX,jY,jZ,jA,reduceIte,reduceCtorEq,jB,jC,jD,jE,jF,jG];exact dp S3 hy
 rw[hs3]at hy;have hb3:=qL ha2 hs3;have hy:y=cw ts (aa 125) a3 fun a4=>cw ts inW a4 fun a5=>(ff ts n .H a5 L3).bind fun s a6 L6=>.ok (.mk 7 0 0 e ⟨#[]⟩ [s]) a6 L6:=hy;rw[<-hl3];simp -dsimp only[aw,jV,jW,jX,jY,jZ,jA,reduceIte,reduceCtorEq,jB,jC,jD,jE,jF,jG,ak];refine Iq H (m:=aa 125) (m':=inW) S3 (by omega) (fun hs4 hs5 ha5 σ5 S5 hl5=>?_) (fun b hor σ5 S5 hl5=>?_)
 case refine_2=>
  rw[<-hl5];simp -dsimp only[aw,jV,jW,jX,jY,jZ,jA,reduceIte,reduceCtorEq,jB,jC,jD,jE,jF,jG];refine cC S5 ?_;rcases hor with⟨h1,rfl⟩|⟨h1,h2,rfl⟩
  .rw[dr h1]at hy;exact hy
  .rw[df h1,dr h2]at hy;exact hy
 rw[df hs4,df hs5]at hy;have hnh:aD ts .H (a3+2)≤n:=by simp only[aD,QK.cost]at *;omega
 rw[<-hl5];simp -dsimp only[aw,jV,jW,jX,jY,jZ,jA,reduceIte,reduceCtorEq,jB,jC,jD,jE,jF,jG];refine qC S5 (fp n .H (a3+2) L3 (by omega) hnh).ne (hH (a3+2) L3 (by omega) hnh _ (ar S5.at_ _)) (fun s a6 L6 hs6 σ6 S6 hl6=>⟨?_,?_⟩) (fun l' e b L6 hs6 σ6 S6 hl6=>?_)
 .rw[<-hl6];simp -dsimp only[aw,jV,jW,jX,jY,jZ,jA,reduceIte,reduceCtorEq,jB,jC,jD,jE,jF,jG]
 .have hy:=hy.trans (congrArg (fun x=>QF.bind x _) hs6);rw[<-hl6];simp -dsimp only[aw,jV,jW,jX,jY,jZ,jA,reduceIte,reduceCtorEq,jB,jC,jD,jE,jF,jG,am];refine et S6 hy (by rw[am];rfl) ?_;rw[am];simp[Gw,aU,bq,bY,Ts.op,Ts.lo,Ts.hi,Ts.ex,Ts.name,Ts.args,aw,jV,jW,jX,jY,jZ,jA,reduceIte,reduceCtorEq,jB,jC,jD,jE,jF,jG]
 .have hy:=hy.trans (congrArg (fun x=>QF.bind x _) hs6);intro ρ2;rw[<-hl6];simp -dsimp only[aw,jV,jW,jX,jY,jZ,jA,reduceIte,reduceCtorEq,jB,jC,jD,jE,jF,jG];exact dp S6 hy
end Go.Proofs.YthekkgfmagliiaaGreatDoor
