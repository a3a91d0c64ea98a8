import Derived.Test.YthekkgfmagliiaaGreatDoorQm2
set_option linter.unusedVariables false
set_option linter.unusedSimpArgs false
set_option linter.unusedSectionVars false
set_option maxHeartbeats 4000000
open List renaming length_set->RS,append_nil->RU,getElem?_eq_getElem->RW,getElem?_set_self->RX,take_left->RY,length_drop->RZ,drop_eq_getElem_cons->R0,set_set->R5,drop_eq_nil_of_le->R6,getElem?_eq_none->R7,getElem_mem->R8
open Nat renaming add_sub_cancel_left->R9,le_refl->Sa
namespace Go.Proofs.YthekkgfmagliiaaGreatDoor
open Go.RowKit
open Nat renaming reduceLeDiff -> jA, reduceBEq -> jB, reduceLT -> jC, reduceEqDiff -> jD, reduceAdd -> jE, reduceSub -> jF, reduceMul -> jG
open V renaming copy -> jV, lend -> jW, lend1 -> jX, cells -> jY, boxable -> jZ
theorem zV(e:Ex):dF e=0\/dF e=1\/dF e=7:=by
 induction e using Ex.ind with
 | h o n s l ih=>
 have hl:∀l:List Ex,(∀a,a∈l->dF a=0\/dF a=1\/dF a=7)->kC l=0\/kC l=1\/kC l=7:=by
  intro l
  induction l with
  | nil=>intro _;exact .inl rfl
  | cons a r ihr=>
   intro h;simp only[kC];split
   .exact ihr fun b hb=>h b (by simp[hb])
   .exact h a (by simp)
 have hn:aF o n s l.length=0\/aF o n s l.length=1\/aF o n s l.length=7:=by
  unfold aF;repeat' split
  all_goals simp
 simp only[dF];split
 .exact hl l ih
 .exact hn
theorem uY(e:Ex):aH e=0\/aH e=1\/aH e=2\/aH e=7:=by
 have:=zV e;unfold aH;split<;>omega
structure Pst(σ0:LLV)(i:Nat)(ts:List Tok)(a:Nat)(L:Int)(σ:LLV):Prop where
 eq:σ=σ0.set i (pq ts a L)
 below:aj σ0.length σ0=true
 lt:i<σ0.length
section
variable {σ0 σ : LLV} {i : Nat} {ts : List Tok} {a : Nat} {L : Int}
theorem Pst.init(hi:σ[i]? = some (pq ts a L))(hb:aj σ.length σ=true):Pst σ i ts a L σ:=⟨(y0 hi).symm,hb,(List.getElem?_eq_some_iff.1 hi).1⟩
theorem Pst.len(S:Pst σ0 i ts a L σ):σ.length=σ0.length:=by rw[S.eq,RS]
theorem Pst.at_(S:Pst σ0 i ts a L σ):σ[i]? = some (pq ts a L):=by rw[S.eq,RX S.lt]
theorem Pst.bb(S:Pst σ0 i ts a L σ):aj σ.length σ=true:=by rw[S.len,S.eq];exact bv S.below rfl
theorem Pst.step(S:Pst σ0 i ts a L σ)(b:Nat)(L':Int):Pst σ0 i ts b L' (σ.set i (pq ts b L')):=⟨by rw[S.eq,R5],S.below,S.lt⟩
theorem Pst.slen(S:Pst σ0 i ts a L σ)(X:List V):(σ.set i X).length=σ.length:=RS
variable (H : TsV ts) {l : LLV} {K P : V -> LLV -> Prop} {s : Tag K} {t : Tag P}
include H
theorem jL{m:ByteArray}(S:Pst σ0 i ts a L σ)(ha:a≤2000000)(ht:aG m ts a=true->a<ts.length->∀σ',Pst σ0 i ts (a+1) L σ'->σ'.length=σ.length->K (an true) (σ'++l))(hf:aG m ts a=false->K (an false) (σ++l)):
 jN G 48 [.ptr i 0,.d (ae m)] (σ++l) K P s t:=by
 refine aW (tz m ts a i L H ha (σ++l) (au S.at_ l)) fun o σ' ⟨e1,e2⟩=>?_;subst e1;rw[bg];cases hs:aG m ts a with
 | true=>
  rw[hs,if_pos rfl,aR S.at_]at e2;subst e2;exact ht hs (eZ hs) _ (S.step _ _) (S.slen _)
 | false=>
  rw[hs,if_neg (by decide)]at e2;subst e2;exact hf hs
theorem fk{m:ByteArray}(S:Pst σ0 i ts a L σ)(ha:a≤1500000)(ht:aG m ts a=true->a<ts.length->∀σ',Pst σ0 i ts (a+1) L σ'->σ'.length=σ.length->K (.tup []) (σ'++l))(hf:aG m ts a=false->∀σ',Pst σ0 i ts a L σ'->σ'.length=σ.length->P (jm ts a) (σ'++l)):
 jN G 46 [.ptr i 0,.d (.sl [[ae m]])] (σ++l) K P s t:=by
 refine aW (ur [m] ts a i L H ha (by simp) (σ++l) (au S.at_ l)) fun o σ' hq=>?_;rcases hq with⟨h1,e1,e2⟩|⟨j,hj,h1,h2,e1,e2⟩
 .subst e1;rw[aR S.at_]at e2;subst e2;simp only[fG,Bool.and_true]at h1;rw[bg];exact ht h1 (eZ h1) _ (S.step _ _) (S.slen _)
 .subst e1;rw[aR S.at_]at e2;subst e2;have hj0:j=0:=by simpa using hj
  subst hj0;rw[bE];exact hf h2 _ (S.step _ _) (S.slen _)
theorem Jh{m m':ByteArray}(S:Pst σ0 i ts a L σ)(ha:a≤1500000)(ht:aG m ts a=true->aG m' ts (a+1)=true->a+1<ts.length->∀σ',Pst σ0 i ts (a+2) L σ'->σ'.length=σ.length->K (.tup []) (σ'++l))
 (hf:∀b,(aG m ts a=false/\b=a\/(aG m ts a=true/\aG m' ts (a+1)=false/\b=a+1))->∀σ',Pst σ0 i ts b L σ'->σ'.length=σ.length->P (jm ts b) (σ'++l)):
 jN G 46 [.ptr i 0,.d (.sl [[ae m],[ae m']])] (σ++l) K P s t:=by
 refine aW (ur [m,m'] ts a i L H ha (by simp) (σ++l) (au S.at_ l)) fun o σ' hq=>?_;rcases hq with⟨h1,e1,e2⟩|⟨j,hj,h1,h2,e1,e2⟩
 .subst e1;rw[aR S.at_]at e2;subst e2;simp only[fG,Bool.and_true,Bool.and_eq_true]at h1;rw[bg];exact ht h1.1 h1.2 (eZ h1.2) _ (S.step _ _) (S.slen _)
 .subst e1;rw[aR S.at_]at e2;subst e2;rw[bE];have hj2:j=0\/j=1:=by simp at hj;omega
  rcases hj2 with rfl|rfl
  .exact hf a (.inl ⟨h2,rfl⟩) _ (S.step _ _) (S.slen _)
  .simp only[List.take_succ_cons,List.take_zero,fG,Bool.and_true]at h1;exact hf (a+1) (.inr ⟨h1,h2,rfl⟩) _ (S.step _ _) (S.slen _)
theorem ua:(∀t,ts[a]? = some t->t.kind=3->ch (ts.drop a)=some (t.num,ts.drop (a+1)))/\((∀t,ts[a]? = some t->t.kind≠3)->ch (ts.drop a)=none):=by
 by_cases h:a<ts.length
 .rw[RW h,R0 h];refine⟨fun t e hk=>?_,fun hn=>?_⟩
  .cases e;simp only[ch];rw[if_pos ⟨H.v _ (R8 h),hk⟩]
  .simp only[ch];rw[if_neg fun hc=>hn _ rfl hc.2]
 .rw[R7 (by omega),R6 (by omega)];exact⟨fun t e=>(by cases e),fun _=>rfl⟩
theorem iX:(∀t,ts[a]? = some t->t.kind=1->bA (ts.drop a)=some (t.text,ts.drop (a+1)))/\((∀t,ts[a]? = some t->t.kind≠1)->bA (ts.drop a)=none):=by
 by_cases h:a<ts.length
 .rw[RW h,R0 h];refine⟨fun t e hk=>?_,fun hn=>?_⟩
  .cases e;simp only[bA];rw[if_pos ⟨H.v _ (R8 h),hk⟩]
  .simp only[bA];rw[if_neg fun hc=>hn _ rfl hc.2]
 .rw[R7 (by omega),R6 (by omega)];exact⟨fun t e=>(by cases e),fun _=>rfl⟩
theorem Bh(S:Pst σ0 i ts a L σ)(ha:a≤1500000)(ht:∀t:Tok,ch (ts.drop a)=some (t.num,ts.drop (a+1))->a<ts.length->∀σ',Pst σ0 i ts (a+1) L σ'->σ'.length=σ.length->K (fy t) (σ'++l))(hf:ch (ts.drop a)=none->P (jm ts a) (σ++l)):
 jN G 47 [.ptr i 0,.d (ab 3)] (σ++l) K P s t:=by
 refine aW (oY ts a i L 3 H (by omega) (σ++l) (au S.at_ l)) fun o σ' hq=>?_;rcases hq with⟨t,h1,h2,e1,e2⟩|⟨h1,e1,e2⟩
 .subst e1;rw[aR S.at_]at e2;subst e2;rw[bg];exact ht t ((ua H).1 t h1 h2) (List.getElem?_eq_some_iff.1 h1).1 _ (S.step _ _) (S.slen _)
 .subst e1;subst e2;rw[bE];exact hf ((ua H).2 h1)
theorem L9(S:Pst σ0 i ts a L σ)(ha:a≤1500000)(ht:∀t:Tok,bA (ts.drop a)=some (t.text,ts.drop (a+1))->a<ts.length->∀σ',Pst σ0 i ts (a+1) L σ'->σ'.length=σ.length->K (fy t) (σ'++l))(hf:bA (ts.drop a)=none->P (jm ts a) (σ++l)):
 jN G 47 [.ptr i 0,.d (ab 1)] (σ++l) K P s t:=by
 refine aW (oY ts a i L 1 H (by omega) (σ++l) (au S.at_ l)) fun o σ' hq=>?_;rcases hq with⟨t,h1,h2,e1,e2⟩|⟨h1,e1,e2⟩
 .subst e1;rw[aR S.at_]at e2;subst e2;rw[bg];exact ht t ((iX H).1 t h1 h2) (List.getElem?_eq_some_iff.1 h1).1 _ (S.step _ _) (S.slen _)
 .subst e1;subst e2;rw[bE];exact hf ((iX H).2 h1)
end
theorem y4(σ:LLV)(i k:Nat)(X:List V)(l:LLV):(σ.set i X++l)[σ.length+k]? = l[k]? := by
 rw[List.getElem?_append_right (by rw[RS];omega),RS,R9]
theorem Ah(σ:LLV)(i k:Nat)(X Z:List V)(l:LLV):(σ.set i X++l).set (σ.length+k) Z=σ.set i X++l.set k Z:=by
 rw[List.set_append_right _ _ (by rw[RS];omega),RS,R9]
def QC{α:Type}(mk:α->V)(ts:List Tok)(i:Nat)(σ:LLV)(y:QF α):Out->LLV->Prop:=fun o σ'=>match y with
 | .out=>False
 | .bad l e=>o=.panic (gL l e)/\∃b L2,σ'=σ.set i (pq ts b L2)
 | .ok v a2 L2=>o=.ret (mk v)/\σ'=σ.set i (pq ts a2 L2)
section
variable {α : Type} {mk : α -> V} {σ0 σ : LLV} {i : Nat} {ts : List Tok} {a : Nat} {L : Int} {l : LLV} {K P : V -> LLV -> Prop} {s : Tag K} {t : Tag P} {f : FuncId} {args : List V} {y : QF α}
theorem fi(S:Pst σ0 i ts a L σ)(hne:y≠.out)(h:Fun G f args (σ++l) (QC mk ts i (σ++l) y))(ht:∀v a2 L2,y=.ok v a2 L2->∀σ',Pst σ0 i ts a2 L2 σ'->σ'.length=σ.length->K (mk v) (σ'++l))(hf:∀l' e b L2,y=.bad l' e->∀σ',Pst σ0 i ts b L2 σ'->σ'.length=σ.length->P (gL l' e) (σ'++l)):
 jN G f args (σ++l) K P s t:=by
 refine aW h fun o σ' hq=>?_;cases y with
 | out=>exact absurd rfl hne
 | bad l' e=>
  obtain⟨rfl,b,L2,rfl⟩:=hq;rw[aR S.at_,bE];exact hf l' e b L2 rfl _ (S.step _ _) (S.slen _)
 | ok v a2 L2=>
  obtain⟨rfl,rfl⟩:=hq;rw[aR S.at_,bg];exact ht v a2 L2 rfl _ (S.step _ _) (S.slen _)
theorem zc{R:LLV->Prop}{pn:Unit->Prop}{tR:Tag R}{tp:Tag pn}(S:Pst σ0 i ts a L σ)(hne:y≠.out)(h:Fun G f args (σ++l) (QC mk ts i (σ++l) y))(ht:∀v a2 L2,y=.ok v a2 L2->∀σ',Pst σ0 i ts a2 L2 σ'->σ'.length=σ.length->R (σ'++l)/\K (mk v) (σ'++l))(hf:∀l' e b L2,y=.bad l' e->∀σ',Pst σ0 i ts b L2 σ'->σ'.length=σ.length->P (gL l' e) (σ'++l))(hp:pn ()):
 yO G f args (σ++l) R K P pn tR s t tp:=by
 cases y with
 | out=>exact absurd rfl hne
 | bad l' e=>
  refine ry (h.mono fun o σ' hq=>?_) hp;obtain⟨rfl,b,L2,rfl⟩:=hq;rw[aR S.at_];exact⟨_,rfl,hf l' e b L2 rfl _ (S.step _ _) (S.slen _)⟩
 | ok v a2 L2=>
  obtain⟨k1,k2⟩:=ht v a2 L2 rfl _ (S.step a2 L2) (S.slen _);refine rp (v:=mk v) (σ1:=σ.set i (pq ts a2 L2)++l) (h.mono fun o σ' hq=>?_) k1 k2;obtain⟨rfl,rfl⟩:=hq;exact⟨rfl,aR S.at_ l _⟩
theorem ew{rs:List RV}{ρ:ah}{v:α}(S:Pst σ0 i ts a L σ)(hy:y=.ok v a L)(hu:V.under σ.length (mk v)=true)(h:aU (σ++l) ρ rs=some (mk v)):fin σ.length rs (QC mk ts i σ0 y) .ret ρ (σ++l):=by
 subst hy;exact bP (τ:=σ) S.bb h hu RY ⟨rfl,S.eq⟩
theorem dB{rs:List RV}{ρ:ah}{l' e:Int}(S:Pst σ0 i ts a L σ)(hy:y=.bad l' e):fin σ.length rs (QC mk ts i σ0 y) (.panic (gL l' e)) ρ (σ++l):=by
 subst hy;exact⟨σ.length,Sa _,by rw[RY];exact S.bb,rfl,by rw[RY];exact⟨rfl,a,L,S.eq⟩⟩
theorem cx{rs:List RV}{ρ:ah}{b:Nat}(S:Pst σ0 i ts a L σ)(hy:y=.bad (bV ts b).1 (bV ts b).2):fin σ.length rs (QC mk ts i σ0 y) (.panic (jm ts b)) ρ (σ++l):=dB S hy
end
def pO(n:Nat)(r:List Tok):Ex×Int×Int:=match par .W r with
 | .bad c r=>(z0,((n-r.length:Nat):Int),c)
 | .ok e r=>if aH e=0 then(e,((n-r.length:Nat):Int),0)else(z0,0,aH e)
 | .out=>(z0,0,0)
theorem JR(e:Ex)(n c:Int):jd (e,n,c)=.tup [.agg [.d (ab e.op),.d (ab e.num),.d (ae e.name),.d (.sl (e.args.map dex))],.d (ab n),.d (ab c)]:=by unfold jd;rw[al]
theorem CY(ts:List Tok)(H:TsOK ts)(a:Nat)(ha:a≤ts.length)(σ:LLV):Fun G 200 [.d (.sl (ts.map eA)),.d (ab a)] σ (az (jd (pO ts.length (ts.drop a))) σ):=by
 refine ai Tryz.func200 Q3 rfl fun hb hw=>?_;unfold Mx;have hA:=fun σ=>xU ts H a ha σ;have hL:=H.len;have d0:decide (((a:Nat):Int)<0)=false:=by rw[decide_eq_false_iff_not];omega
 have d1:decide (((ts.length:Nat):Int)<((a:Nat):Int))=false:=by rw[decide_eq_false_iff_not];omega
 simp -dsimp only[aw,jV,jW,jX,jY,jZ,jA,reduceIte,reduceCtorEq,jB,jC,jD,jE,jF,jG,d0,d1];refine ac (hA _) ?_;cases hx:par .W (ts.drop a)with
 | out=>exact absurd hx (eV _ _)
 | bad c r=>
  have hT:pO ts.length (ts.drop a)=(z0,((ts.length-r.length:Nat):Int),c):=by unfold pO;rw[hx]
  have dc:=decide_eq_false (qj hx).1;rw[hT];simp -dsimp only[aw,jV,jW,jX,jY,jZ,jA,reduceIte,reduceCtorEq,jB,jC,jD,jE,jF,jG,Hi,al,bL,be,aJ,aK,dc];exact ao hb (v:=jd (z0,((ts.length-r.length:Nat):Int),c)) (by unfold jd;rw[kJ];simp[Bz,aU,di,bu,aw,jV,jW,jX,jY,jZ,jA,reduceIte,reduceCtorEq,jB,jC,jD,jE,jF,jG]) (by unfold jd;rw[kJ];rfl) RY ⟨rfl,rfl⟩
 | ok e r=>
  have hsz:=Gn hx;rw[RZ]at hsz;have hv:=pp e (by omega) (by have:=FN e;omega);by_cases h0:aH e=0
  .have hT:pO ts.length (ts.drop a)=(e,((ts.length-r.length:Nat):Int),0):=by unfold pO;rw[hx];simp[h0]
   rw[hT];simp -dsimp only[aw,jV,jW,jX,jY,jZ,jA,reduceIte,reduceCtorEq,jB,jC,jD,jE,jF,jG,Hi,al,decide_true];refine ac (by simpa only[al]using hv _) ?_;simp -dsimp only[aw,jV,jW,jX,jY,jZ,jA,reduceIte,reduceCtorEq,jB,jC,jD,jE,jF,jG,decide_eq_true h0];exact ao hb (v:=jd (e,((ts.length-r.length:Nat):Int),0)) (by unfold jd;rw[al];simp[Bz,aU,di,bu,aw,jV,jW,jX,jY,jZ,jA,reduceIte,reduceCtorEq,jB,jC,jD,jE,jF,jG]) (by unfold jd;rw[al];rfl) RY ⟨rfl,rfl⟩
  .have hT:pO ts.length (ts.drop a)=(z0,0,aH e):=by unfold pO;rw[hx];simp[h0]
   rw[hT];simp -dsimp only[aw,jV,jW,jX,jY,jZ,jA,reduceIte,reduceCtorEq,jB,jC,jD,jE,jF,jG,Hi,al,decide_true];refine ac (by simpa only[al]using hv _) ?_;simp -dsimp only[aw,jV,jW,jX,jY,jZ,jA,reduceIte,reduceCtorEq,jB,jC,jD,jE,jF,jG,decide_eq_false h0];exact ao hb (v:=jd (z0,0,aH e)) (by unfold jd;rw[kJ];simp[Bz,aU,di,bu,aw,jV,jW,jX,jY,jZ,jA,reduceIte,reduceCtorEq,jB,jC,jD,jE,jF,jG]) (by unfold jd;rw[kJ];rfl) RY ⟨rfl,rfl⟩
theorem pf(ts:List Tok)(a i:Nat)(L:Int)(H:TsV ts)(ha:a≤ts.length)(σ:LLV)(hi:σ[i]? = some (pq ts a L)):
 Fun G 170 [.ptr i 0] σ (QC vex ts i σ (ik ts a L QF.ok)):=by
 refine ai Tryz.func170 RJ rfl fun hb hw=>?_;unfold Ph;have S:=Pst.init hi hb;have hT:=fun σ=>CY ts H.ok a ha σ;have hL:=H.ok.len;have hil:=(List.getElem?_eq_some_iff.1 hi).1;have hio:=fun l=>au hi l;have hso:=fun X l=>aR hi X l;have hlast:=fun l=>oL ts a i L H (σ++l) (au hi l);unfold ik;unfold pO at hT;unfold pq at hio hso;cases hx:par .W (ts.drop a)with
 | out=>exact absurd hx (eV _ _)
 | bad c r=>
  have hb3:=x7 hx;have hbl:=(qj hx).2;rw[RZ]at hbl;rw[hx]at hT;simp only at hT ⊢;simp -dsimp only[aw,jV,jW,jX,jY,jZ,jA,reduceIte,reduceCtorEq,jB,jC,jD,jE,jF,jG,hio];refine aN (hT _) ?_;simp -dsimp only[aw,jV,jW,jX,jY,jZ,jA,reduceIte,reduceCtorEq,jB,jC,jD,jE,jF,jG,jd,al,z0,bL,be,aJ,aK];refine bH (bH (aN (hT _) ?_) ?_) ?_
  .simp -dsimp only[aw,jV,jW,jX,jY,jZ,jA,reduceIte,reduceCtorEq,jB,jC,jD,jE,jF,jG,jd,al,z0,bL,be,aJ,aK]
  .simp -dsimp only[aw,jV,jW,jX,jY,jZ,jA,reduceIte,reduceCtorEq,jB,jC,jD,jE,jF,jG,hio]
  rcases hb3 with h6|⟨h35,hne⟩
  .subst h6;rw[if_pos rfl];simp -dsimp only[aw,jV,jW,jX,jY,jZ,jA,reduceIte,reduceCtorEq,jB,jC,jD,jE,jF,jG,jd,kJ,Int.reduceEq,decide_false,decide_true];refine ac (hlast _) ?_;simp -dsimp only[aw,jV,jW,jX,jY,jZ,jA,reduceIte,reduceCtorEq,jB,jC,jD,jE,jF,jG];exact dB (y:=.bad (dm ts) 6) S rfl
  .have hrl:1≤r.length:=by cases r with|nil=>exact absurd rfl hne|cons _ _=>simp
   have hlt:ts.length-r.length<ts.length:=by omega
   have hc6:c≠6:=by omega
   have hc0:c≠0:=by omega
   have hwl:IntKind.i64.wrap (((ts.length:Nat):Int)-1)=((ts.length-1:Nat):Int):=by rw[aX (by omega) (by omega)];omega
   have hmx:max (((ts.length-r.length:Nat):Int)) 0=((ts.length-r.length:Nat):Int):=by omega
   have hmn:min (((ts.length-r.length:Nat):Int)) ((ts.length-1:Nat):Int)=((ts.length-r.length:Nat):Int):=by omega
   rw[if_neg hc6];have hF:bV ts (ts.length-r.length)=(ts[ts.length-r.length].line,5):=by unfold bV;rw[RW hlt]
   rw[hF];simp only
   have fin:∀(x:LLV) ρ,fin σ.length mD (QC vex ts i σ (.bad ts[ts.length-r.length].line c)) (.panic (gL ts[ts.length-r.length].line c)) ρ (σ.set i (pq ts (ts.length-r.length) L)++x):=fun x ρ=>by
    have:=dB (mk:=vex) (y:=.bad ts[ts.length-r.length].line c) (S.step (ts.length-r.length) L) rfl (rs:=mD) (ρ:=ρ) (l:=x);rwa[RS]at this
   have hs1:=fun l=>au (RX (a:=pq ts (ts.length-r.length) L) hil) l;unfold pq at fin hs1;by_cases h5:c=5
   .subst h5;simp -dsimp only[aw,jV,jW,jX,jY,jZ,jA,reduceIte,reduceCtorEq,jB,jC,jD,jE,jF,jG,jd,kJ,Int.reduceEq,decide_false,decide_true,hio,hso,hwl,hmx,hmn,hs1,RW hlt,aP,eA];intro ρ2;exact fin _ ρ2
   .have h3:c=3:=by omega
    subst h3;simp -dsimp only[aw,jV,jW,jX,jY,jZ,jA,reduceIte,reduceCtorEq,jB,jC,jD,jE,jF,jG,jd,kJ,Int.reduceEq,decide_false,decide_true,hio,hso,hwl,hmx,hmn,hs1,RW hlt,aP,eA];intro ρ2;exact fin _ ρ2
 | ok e r=>
  rw[hx]at hT;simp only at hT ⊢;by_cases hv:aH e=0
  .rw[if_pos hv]at hT ⊢;simp -dsimp only[aw,jV,jW,jX,jY,jZ,jA,reduceIte,reduceCtorEq,jB,jC,jD,jE,jF,jG,hio];refine aN (hT _) ?_;simp -dsimp only[aw,jV,jW,jX,jY,jZ,jA,reduceIte,reduceCtorEq,jB,jC,jD,jE,jF,jG,jd,al,z0,bL,be,aJ,aK];refine bH (bH (aN (hT _) ?_) ?_) ?_
   .simp -dsimp only[aw,jV,jW,jX,jY,jZ,jA,reduceIte,reduceCtorEq,jB,jC,jD,jE,jF,jG,jd,al,z0,bL,be,aJ,aK]
   .simp -dsimp only[aw,jV,jW,jX,jY,jZ,jA,reduceIte,reduceCtorEq,jB,jC,jD,jE,jF,jG,hio]
   simp -dsimp only[aw,jV,jW,jX,jY,jZ,jA,reduceIte,reduceCtorEq,jB,jC,jD,jE,jF,jG,JR,hio,hso,decide_true,mj,qd,y4,Ah]
   have hfin:∀(x:LLV) (ρ:ah),aU (σ.set i (pq ts (ts.length-r.length) L)++x) ρ mD=some (vex e)->fin σ.length mD (QC vex ts i σ (.ok e (ts.length-r.length) L)) .ret ρ (σ.set i (pq ts (ts.length-r.length) L)++x):=fun x ρ h=>by
    have:=ew (mk:=vex) (y:=.ok e (ts.length-r.length) L) (S.step (ts.length-r.length) L) rfl (by rw[al];rfl) h;rwa[RS]at this
   unfold pq at hfin;refine hfin _ _ ?_;rw[al];simp[mD,aU,bu,aw,jV,jW,jX,jY,jZ,jA,reduceIte,reduceCtorEq,jB,jC,jD,jE,jF,jG]
  .rw[if_neg hv]at hT ⊢;have hcd:=uY e;have h6:¬aH e=6:=by omega
   have h5:¬aH e=5:=by omega
   have h3:¬aH e=3:=by omega
   have hres:∀(L':Int) (x:List V) (y:LLV) (ρ:ah),L'=(if L=0 then aH e else L)->aU (σ.set i (pq ts (kU ts a) L')++y) ρ mD=some (vex cE)->fin σ.length mD (QC vex ts i σ (.ok cE (kU ts a) (if L=0 then aH e else L))) .ret ρ (σ.set i (pq ts (kU ts a) L')++y):=fun L' x y ρ hL' h=>by
    subst hL';have:=ew (mk:=vex) (y:=.ok cE (kU ts a) _) (S.step (kU ts a) (if L=0 then aH e else L)) rfl (by rw[al];rfl) h;rwa[RS]at this
   unfold pq at hres;simp -dsimp only[aw,jV,jW,jX,jY,jZ,jA,reduceIte,reduceCtorEq,jB,jC,jD,jE,jF,jG,hio];refine aN (hT _) ?_;simp -dsimp only[aw,jV,jW,jX,jY,jZ,jA,reduceIte,reduceCtorEq,jB,jC,jD,jE,jF,jG,jd,al,z0,bL,be,aJ,aK];refine bH (bH (aN (hT _) ?_) ?_) ?_
   .simp -dsimp only[aw,jV,jW,jX,jY,jZ,jA,reduceIte,reduceCtorEq,jB,jC,jD,jE,jF,jG,jd,al,z0,bL,be,aJ,aK]
   .simp -dsimp only[aw,jV,jW,jX,jY,jZ,jA,reduceIte,reduceCtorEq,jB,jC,jD,jE,jF,jG,hio]
   by_cases hL0:L=0
   .have hE:=fun l=>wN ts a a i (aH e) H ha (σ.set i (pq ts a (aH e))++l) (au (RX hil) l);have hs1:=fun l=>au (RX (a:=pq ts a (aH e)) hil) l;have hso1:=fun X l=>aR (RX (a:=pq ts a (aH e)) hil) X l;unfold pq at hE hs1 hso1;simp -dsimp only[aw,jV,jW,jX,jY,jZ,jA,reduceIte,reduceCtorEq,jB,jC,jD,jE,jF,jG,jd,kJ,decide_eq_false hv,decide_eq_false h6,decide_eq_false h5,decide_eq_false h3,hio,hso,decide_eq_true hL0,hs1];refine ac (hE _) ?_;simp -dsimp only[aw,jV,jW,jX,jY,jZ,jA,reduceIte,reduceCtorEq,jB,jC,jD,jE,jF,jG,hs1,hso1,R5,qd,mj,y4,Ah];refine hres (aH e) [] _ _ (by rw[if_pos hL0]) ?_;rw[al];simp[mD,aU,bu,cE,bL,be,aJ,aK,mj,aw,jV,jW,jX,jY,jZ,jA,reduceIte,reduceCtorEq,jB,jC,jD,jE,jF,jG]
   .have hE:=fun l=>wN ts a a i L H ha (σ++l) (au hi l);simp -dsimp only[aw,jV,jW,jX,jY,jZ,jA,reduceIte,reduceCtorEq,jB,jC,jD,jE,jF,jG,jd,kJ,decide_eq_false hv,decide_eq_false h6,decide_eq_false h5,decide_eq_false h3,hio,hso,decide_eq_false hL0];refine ac (hE _) ?_;simp -dsimp only[aw,jV,jW,jX,jY,jZ,jA,reduceIte,reduceCtorEq,jB,jC,jD,jE,jF,jG,hio,hso,R5,qd,mj,y4,Ah];refine hres L [] _ _ (by rw[if_neg hL0]) ?_;rw[al];simp[mD,aU,bu,cE,bL,be,aJ,aK,mj,aw,jV,jW,jX,jY,jZ,jA,reduceIte,reduceCtorEq,jB,jC,jD,jE,jF,jG]
end Go.Proofs.YthekkgfmagliiaaGreatDoor
namespace Go.Proofs.YthekkgfmagliiaaGreatDoor
open Go.RowKit
open Nat renaming reduceLeDiff -> jA, reduceBEq -> jB, reduceLT -> jC, reduceEqDiff -> jD, reduceAdd -> jE, reduceSub -> jF, reduceMul -> jG
open V renaming copy -> jV, lend -> jW, lend1 -> jX, cells -> jY, boxable -> jZ
section
variable {α : Type} {ts : List Tok} {a : Nat} {m : ByteArray}
theorem cP{f:Nat->QF α}(h:aG m ts a=true):cr ts m a f=f (a+1):=if_pos h
theorem da{f:Nat->QF α}(h:aG m ts a=false):cr ts m a f=.bad (bV ts a).1 (bV ts a).2:=if_neg (by rw[h];decide)
theorem rE{n:Int}{r:List Tok}{f:Int->Nat->QF α}(h:ch (ts.drop a)=some (n,r)):kY ts a f=f n (a+1):=by unfold kY;rw[h]
theorem rO{f:Int->Nat->QF α}(h:ch (ts.drop a)=none):kY ts a f=.bad (bV ts a).1 (bV ts a).2:=by unfold kY;rw[h]
theorem BS{n:ByteArray}{r:List Tok}{f:ByteArray->Nat->QF α}(h:bA (ts.drop a)=some (n,r)):lh ts a f=f n (a+1):=by unfold lh;rw[h]
theorem BP{f:ByteArray->Nat->QF α}(h:bA (ts.drop a)=none):lh ts a f=.bad (bV ts a).1 (bV ts a).2:=by unfold lh;rw[h]
theorem mI{L:Int}(f:Ex->Nat->Int->QF α):ik ts a L f=(ik ts a L QF.ok).bind f:=by
 unfold ik;cases par .W (ts.drop a)with
 | out=>rfl
 | bad c r=>simp only;split<;>rfl
 | ok e r=>simp only;split<;>rfl
theorem sn{L:Int}:ik ts a L QF.ok≠.out:=by
 unfold ik;cases h:par .W (ts.drop a)with
 | out=>exact absurd h (eV _ _)
 | bad c r=>simp only;split<;>(intro h;cases h)
 | ok e r=>simp only;split<;>(intro h;cases h)
theorem sL{L:Int}{e:Ex}{b:Nat}{L2:Int}(ha:a≤ts.length)(h:ik ts a L QF.ok=.ok e b L2):a≤b/\b≤ts.length+1:=by
 unfold ik at h;cases hp:par .W (ts.drop a)with
 | out=>exact absurd hp (eV _ _)
 | bad c r=>rw[hp]at h;simp only at h;split at h<;>cases h
 | ok e' r=>
  have:=(ou hp).1;rw[RZ]at this;rw[hp]at h;simp only at h;split at h
  .cases h;omega
  .cases h;exact Gg ts ha
end
section
variable {σ0 σ : LLV} {i : Nat} {ts : List Tok} {a : Nat} {L : Int} {K P : V -> LLV -> Prop} {s : Tag K} {t : Tag P}
theorem I4(H:TsV ts){m:ByteArray}(S:Pst σ0 i ts a L σ)(ha:a≤2000000)(ht:aG m ts a=true->a<ts.length->∀σ',Pst σ0 i ts (a+1) L σ'->σ'.length=σ.length->K (an true) σ')(hf:aG m ts a=false->K (an false) σ):
 jN G 48 [.ptr i 0,.d (ae m)] σ K P s t:=by
 have:=jL (l:=[]) (K:=K) (P:=P) (s:=s) (t:=t) H S ha (fun h1 h2 σ' h3 h4=>by rw[RU];exact ht h1 h2 σ' h3 h4) (fun h=>by rw[RU];exact hf h);rwa[RU]at this
theorem Hs(H:TsV ts)(S:Pst σ0 i ts a L σ)(ha:a≤1500000)(ht:∀t:Tok,ch (ts.drop a)=some (t.num,ts.drop (a+1))->a<ts.length->∀σ',Pst σ0 i ts (a+1) L σ'->σ'.length=σ.length->K (fy t) σ')(hf:ch (ts.drop a)=none->P (jm ts a) σ):
 jN G 47 [.ptr i 0,.d (ab 3)] σ K P s t:=by
 have:=Bh (l:=[]) (K:=K) (P:=P) (s:=s) (t:=t) H S ha (fun t h1 h2 σ' h3 h4=>by rw[RU];exact ht t h1 h2 σ' h3 h4) (fun h=>by rw[RU];exact hf h);rwa[RU]at this
variable {α : Type} {mk : α -> V} {y : QF α} {rs : List RV} {ρ : ah}
theorem BL{v:α}(S:Pst σ0 i ts a L σ)(hy:y=.ok v a L)(hu:V.under σ.length (mk v)=true)(h:aU σ ρ rs=some (mk v)):fin σ.length rs (QC mk ts i σ0 y) .ret ρ σ:=by
 have:=ew (l:=[]) S hy hu (by rwa[RU]);rwa[RU]at this
theorem xS{b:Nat}(S:Pst σ0 i ts a L σ)(hy:y=.bad (bV ts b).1 (bV ts b).2):fin σ.length rs (QC mk ts i σ0 y) (.panic (jm ts b)) ρ σ:=by
 have:=cx (l:=[]) (mk:=mk) (rs:=rs) (ρ:=ρ) S hy;rwa[RU]at this
end
def iK(ts:List Tok)(a:Nat)(L:Int):QF (Int×Int):=kY ts a fun lo a1=>if aG (aa 58) ts a1=true then kY ts (a1+1) fun hi a2=>.ok (lo,hi) a2 L else .ok (lo,lo) a1 L
def KG(p:Int×Int):V:=.tup [.d (ab p.1),.d (ab p.2)]
theorem x8(ts:List Tok)(a i:Nat)(L:Int)(H:TsV ts)(ha:a≤ts.length)(σ:LLV)(hi:σ[i]? = some (pq ts a L)):
 Fun G 199 [.ptr i 0] σ (QC KG ts i σ (iK ts a L)):=by
 refine ai Tryz.func199 Rk rfl fun hb hw=>?_;have S:=Pst.init hi hb;have hL:=H.ok.len;obtain⟨y,hy⟩:∃y,y=iK ts a L:=⟨_,rfl⟩
 rw[<-hy];unfold iK at hy;unfold NW;simp -dsimp only[aw,jV,jW,jX,jY,jZ,jA,reduceIte,reduceCtorEq,jB,jC,jD,jE,jF,jG];refine Hs H S (by omega) (fun t hn ha1 σ1 S1 hl1=>?_) (fun hn=>?_)
 case refine_2=>
  rw[rO hn]at hy;simp -dsimp only[aw,jV,jW,jX,jY,jZ,jA,reduceIte,reduceCtorEq,jB,jC,jD,jE,jF,jG];exact xS S hy
 rw[rE hn]at hy;rw[<-hl1];simp -dsimp only[aw,jV,jW,jX,jY,jZ,jA,reduceIte,reduceCtorEq,jB,jC,jD,jE,jF,jG,fy];refine I4 H (m:=aa 58) S1 (by omega) (fun hs ha2 σ2 S2 hl2=>?_) (fun hs=>?_)
 case refine_2=>
  rw[hs,if_neg (by decide)]at hy;simp -dsimp only[aw,jV,jW,jX,jY,jZ,jA,reduceIte,reduceCtorEq,jB,jC,jD,jE,jF,jG];exact BL S1 hy rfl rfl
 rw[hs,if_pos rfl]at hy;rw[<-hl2];simp -dsimp only[aw,jV,jW,jX,jY,jZ,jA,reduceIte,reduceCtorEq,jB,jC,jD,jE,jF,jG];refine Hs H S2 (by omega) (fun t2 hn2 ha3 σ3 S3 hl3=>?_) (fun hn2=>?_)
 case refine_2=>
  rw[rO hn2]at hy;simp -dsimp only[aw,jV,jW,jX,jY,jZ,jA,reduceIte,reduceCtorEq,jB,jC,jD,jE,jF,jG];exact xS S2 hy
 rw[rE hn2]at hy;rw[<-hl3];simp -dsimp only[aw,jV,jW,jX,jY,jZ,jA,reduceIte,reduceCtorEq,jB,jC,jD,jE,jF,jG,fy];exact BL S3 hy rfl rfl
def jw(ts:List Tok)(i n:Nat)(k:QK)(f:FuncId):Prop:=∀(b:Nat) (L:Int),b≤ts.length->aC ts k b≤n->∀σ:LLV,σ[i]? = some (pq ts b L)->Fun G f [.ptr i 0] σ (QC vts ts i σ (ff ts n k b L))
def tsC(q:V)(s:Ts):List V:=[.d (ab s.op),.d (ab s.lo),.d (ab s.hi),.d (ab s.ex.op),.d (ab s.ex.num),.d (ae s.ex.name),q,.d (ae s.name),.d (.sl (s.args.map dts))]
def TsQ(q:V)(s:Ts):Prop:=q=.d (.sl (s.ex.args.map dex))\/(q=.nil/\s.ex.args=[])
theorem ov(o lo hi:Int)(l:List Ts):tsC .nil (nT o lo hi l)=[.d (ab o),.d (ab lo),.d (ab hi),.d (ab 0),.d (ab 0),.d (ae ⟨#[]⟩),.nil,.d (ae ⟨#[]⟩),.d (.sl (l.map dts))]:=rfl
theorem Bt(o lo hi:Int)(l:List Ts):TsQ .nil (nT o lo hi l):=.inr ⟨rfl,rfl⟩
theorem GH(ts:List Tok)(i n:Nat)(H:TsV ts)(hU:jw ts i n .U 198)(a:Nat)(L:Int)(ha:a≤ts.length)(hn:aC ts .R a≤n+1)(σ:LLV)(hi:σ[i]? = some (pq ts a L)):
 Fun G 169 [.ptr i 0] σ (QC vts ts i σ (ff ts (n+1) .R a L)):=by
 refine ai Tryz.func169 Re rfl fun hb hw=>?_;have S:=Pst.init hi hb;have hL:=H.ok.len;obtain⟨y,hy⟩:∃y,y=ff ts (n+1) .R a L:=⟨_,rfl⟩
 rw[<-hy];have hy:y=(ff ts n .U a L).bind fun s a1 L1=>ff ts n (.Rp s) a1 L1:=hy;have hnu:aC ts .U a≤n:=by simp only[aC,QK.cost]at *;omega
 have gU:=fw n .U a L ha hnu;unfold PT;simp -dsimp only[aw,jV,jW,jX,jY,jZ,jA,reduceIte,reduceCtorEq,jB,jC,jD,jE,jF,jG];refine fi S gU.ne (hU a L ha hnu _ (au S.at_ _)) (fun s a1 L1 hs σ1 S1 hl1=>?_) (fun l' e b L2 hs σ1 S1 hl1=>?_)
 case refine_2=>
  rw[hs]at hy;rw[<-hl1];simp -dsimp only[aw,jV,jW,jX,jY,jZ,jA,reduceIte,reduceCtorEq,jB,jC,jD,jE,jF,jG];exact dB S1 hy
 rw[hs]at hy;have g1:=gU.ok s a1 L1 hs;simp only[QK.eats]at g1;rw[<-hl1];simp -dsimp only[aw,jV,jW,jX,jY,jZ,jA,reduceIte,reduceCtorEq,jB,jC,jD,jE,jF,jG,ak]
 refine aY [0,2,3] (R:=fun(j:Nat) ρ σ'=>∃(m a1:Nat) (L1:Int) (s:Ts) (q:V) (σ2:LLV),ρ=[(0,.ptr i 0),(2,.ptr σ1.length 0),(3,.ptr (σ1.length+1) 0)]/\σ'=σ2++[[.d (ab 0),.d (ab 0),.d (ab 0),.d (ab 0),.d (ab 0),.d (ae ⟨#[]⟩),.nil,.d (ae ⟨#[]⟩),.nil],tsC q s]/\TsQ q s/\Pst σ i ts a1 L1 σ2/\σ2.length=σ1.length/\a+1+j≤a1/\a1≤ts.length/\aC ts (.Rp s) a1≤m/\m≤n/\y=ff ts m (.Rp s) a1 L1) (ts.length-a)
  ⟨n,a1,L1,s,_,σ1,rfl,rfl,.inl rfl,S1,rfl,by omega,g1.2,by simp only[aC,QK.cost]at *;omega,Sa _,hy⟩ ?_ _
 rintro j ρ' σ' hj ⟨m,a1,L1,s,q,σ2,rfl,rfl,hq,S2,hl2,h1,h2,h3,h4,hy⟩;obtain⟨m,rfl⟩:∃m',m=m'+1:=⟨m-1,by simp only[aC,QK.cost]at h3;omega⟩
 have hy:y=fD ts (ff ts m) (.Rp s) a1 L1:=hy;simp only[fD]at hy;have h1lt:=S2.lt;rw[<-hl2];unfold tsC;simp -dsimp only[aw,jV,jW,jX,jY,jZ,jA,reduceIte,reduceCtorEq,jB,jC,jD,jE,jF,jG];refine jL H (m:=aa 91) S2 (by omega) (fun hs3 ha3 σ3 S3 hl3=>?_) (fun hs3=>?_)
 case refine_2=>
  rw[hs3,if_neg (by decide)]at hy;rcases hq with rfl|⟨rfl,hq⟩
  .simp -dsimp only[aw,jV,jW,jX,jY,jZ,jA,reduceIte,reduceCtorEq,jB,jC,jD,jE,jF,jG];refine ew S2 hy (by rw[ak];rfl) ?_;rw[ak];simp[F7,aU,bu,aw,jV,jW,jX,jY,jZ,jA,reduceIte,reduceCtorEq,jB,jC,jD,jE,jF,jG]
  .simp -dsimp only[aw,jV,jW,jX,jY,jZ,jA,reduceIte,reduceCtorEq,jB,jC,jD,jE,jF,jG];refine ew S2 hy (by rw[ak];rfl) ?_;rw[ak,hq];simp[F7,aU,bu,aw,jV,jW,jX,jY,jZ,jA,reduceIte,reduceCtorEq,jB,jC,jD,jE,jF,jG]
 rw[hs3,if_pos rfl]at hy;rw[<-hl3];simp -dsimp only[aw,jV,jW,jX,jY,jZ,jA,reduceIte,reduceCtorEq,jB,jC,jD,jE,jF,jG];refine fk H (m:=aa 42) S3 (by omega) (fun hs4 ha4 σ4 S4 hl4=>?_) (fun hs4 σ4 S4 hl4=>?_)
 case refine_2=>
  rw[da hs4]at hy;rw[<-hl4];simp -dsimp only[aw,jV,jW,jX,jY,jZ,jA,reduceIte,reduceCtorEq,jB,jC,jD,jE,jF,jG];exact cx S4 hy
 rw[cP hs4]at hy;rw[<-hl4];simp -dsimp only[aw,jV,jW,jX,jY,jZ,jA,reduceIte,reduceCtorEq,jB,jC,jD,jE,jF,jG]
 have hbF:y=(iK ts (a1+1+1) L1).bind fun p a2 L2=>cr ts (aa 93) a2 fun a4=>ff ts m (.Rp (nT 3 p.1 p.2 [s])) a4 L2:=by
  rw[hy];unfold iK kY;cases ch (ts.drop (a1+1+1))with
  | none=>rfl
  | some p=>
   simp only;cases aG (aa 58) ts (a1+1+1+1)with
   | false=>rfl
   | true=>
    simp only[if_true];cases ch (ts.drop (a1+1+1+1+1))with
    | none=>rfl
    | some p=>rfl
 have hbne:iK ts (a1+1+1) L1≠.out:=by
  unfold iK kY;cases ch (ts.drop (a1+1+1))with
  | none=>intro h;cases h
  | some p=>
   simp only;cases aG (aa 58) ts (a1+1+1+1)with
   | false=>intro h;cases h
   | true=>
    simp only[if_true];cases ch (ts.drop (a1+1+1+1+1))with
    | none=>intro h;cases h
    | some p=>intro h;cases h
 have hbok:∀p a2 L2,iK ts (a1+1+1) L1=.ok p a2 L2->a1+1+1≤a2/\a2≤a1+1+1+3:=by
  intro p a2 L2 h;unfold iK kY at h;cases h1:ch (ts.drop (a1+1+1))with
  | none=>rw[h1]at h;cases h
  | some p=>
   rw[h1]at h;simp only at h;cases h2:aG (aa 58) ts (a1+1+1+1)with
   | false=>rw[h2]at h;simp only[Bool.false_eq_true,if_false]at h;cases h;omega
   | true=>
    rw[h2]at h;simp only[if_true]at h;cases h3:ch (ts.drop (a1+1+1+1+1))with
    | none=>rw[h3]at h;cases h
    | some p=>rw[h3]at h;cases h;omega
 refine fi S4 hbne (x8 ts (a1+1+1) i L1 H ha4 _ (au S4.at_ _)) (fun p a5 L5 hs5 σ5 S5 hl5=>?_) (fun l' e b L5 hs5 σ5 S5 hl5=>?_)
 case refine_2=>
  rw[hs5]at hbF;rw[<-hl5];simp -dsimp only[aw,jV,jW,jX,jY,jZ,jA,reduceIte,reduceCtorEq,jB,jC,jD,jE,jF,jG];exact dB S5 hbF
 rw[hs5]at hbF;have hbF:y=cr ts (aa 93) a5 fun a4=>ff ts m (.Rp (nT 3 p.1 p.2 [s])) a4 L5:=hbF;have hb5:=hbok p a5 L5 hs5;rw[<-hl5];simp -dsimp only[aw,jV,jW,jX,jY,jZ,jA,reduceIte,reduceCtorEq,jB,jC,jD,jE,jF,jG,KG];refine fk H (m:=aa 93) S5 (by omega) (fun hs6 ha6 σ6 S6 hl6=>?_) (fun hs6 σ6 S6 hl6=>?_)
 case refine_2=>
  rw[da hs6]at hbF;rw[<-hl6];simp -dsimp only[aw,jV,jW,jX,jY,jZ,jA,reduceIte,reduceCtorEq,jB,jC,jD,jE,jF,jG];exact cx S6 hbF
 rw[cP hs6]at hbF;rw[<-hl6];have hN:aC ts (.Rp (nT 3 p.1 p.2 [s])) (a5+1)≤m:=by simp only[aC,QK.cost]at *;omega
 have hsz:(6:Nat)=6:=rfl;rcases hq with rfl|⟨rfl,hq⟩
 .simp -dsimp only[aw,jV,jW,jX,jY,jZ,jA,reduceIte,reduceCtorEq,jB,jC,jD,jE,jF,jG];refine⟨by omega,Nxt.to (σ6++[[.d (ab 0),.d (ab 0),.d (ab 0),.d (ab 0),.d (ab 0),.d (ae ⟨#[]⟩),.nil,.d (ae ⟨#[]⟩),.nil],tsC .nil (nT 3 p.1 p.2 [s])]) [] (by simp[ov,bw]) (by simp) (av S6.bb rfl) ?_ ⟨m,a5+1,L5,_,_,σ6,?_,rfl,Bt _ _ _ _,S6,by omega,by omega,by omega,hN,by omega,hbF⟩⟩
  .have:=S6.lt;simp[am,V.under,S6.len];omega
  .rw[hl6,hl5,hl4,hl3,hl2]
 .simp -dsimp only[aw,jV,jW,jX,jY,jZ,jA,reduceIte,reduceCtorEq,jB,jC,jD,jE,jF,jG];refine⟨by omega,Nxt.to (σ6++[[.d (ab 0),.d (ab 0),.d (ab 0),.d (ab 0),.d (ab 0),.d (ae ⟨#[]⟩),.nil,.d (ae ⟨#[]⟩),.nil],tsC .nil (nT 3 p.1 p.2 [s])]) [] (by simp[ov,bw,hq]) (by simp) (av S6.bb rfl) ?_ ⟨m,a5+1,L5,_,_,σ6,?_,rfl,Bt _ _ _ _,S6,by omega,by omega,by omega,hN,by omega,hbF⟩⟩
  .have:=S6.lt;simp[am,V.under,S6.len];omega
  .rw[hl6,hl5,hl4,hl3,hl2]
end Go.Proofs.YthekkgfmagliiaaGreatDoor
namespace Go.Proofs.YthekkgfmagliiaaGreatDoor
open Go.RowKit
open Nat renaming reduceLeDiff -> jA, reduceBEq -> jB, reduceLT -> jC, reduceEqDiff -> jD, reduceAdd -> jE, reduceSub -> jF, reduceMul -> jG
open V renaming copy -> jV, lend -> jW, lend1 -> jX, cells -> jY, boxable -> jZ
section
variable {σ0 σ : LLV} {i : Nat} {ts : List Tok} {a : Nat} {L : Int} {l : LLV} {K P : V -> LLV -> Prop}
theorem Lt{R:LLV->Prop}{pn:Unit->Prop}{tR:Tag R}{tK:Tag K}{tP:Tag P}{tp:Tag pn}(H:TsV ts)(S:Pst σ0 i ts a L σ)(ha:a≤1500000)(ht:∀t:Tok,bA (ts.drop a)=some (t.text,ts.drop (a+1))->a<ts.length->∀σ',Pst σ0 i ts (a+1) L σ'->σ'.length=σ.length->R (σ'++l)/\K (fy t) (σ'++l))(hf:bA (ts.drop a)=none->P (jm ts a) (σ++l))(hp:bA (ts.drop a)=none->pn ()):
 yO G 47 [.ptr i 0,.d (ab 1)] (σ++l) R K P pn tR tK tP tp:=by
 have h:=oY ts a i L 1 H (by omega) (σ++l) (au S.at_ l);by_cases hk:∃t,ts[a]? = some t/\t.kind=1
 .obtain⟨t,h1,h2⟩:=hk;obtain⟨k1,k2⟩:=ht t ((iX H).1 t h1 h2) (List.getElem?_eq_some_iff.1 h1).1 _ (S.step (a+1) L) (S.slen _);refine rp (σ1:=σ.set i (pq ts (a+1) L)++l) (v:=fy t) (h.mono fun o σ' hq=>?_) k1 k2;rcases hq with⟨t',g1,g2,e1,e2⟩|⟨g1,e1,e2⟩
  .rw[h1]at g1;cases g1;exact⟨e1,by rw[e2,aR S.at_]⟩
  .exact absurd h2 (g1 t h1)
 .have hn:∀t,ts[a]? = some t->t.kind≠1:=fun t h1 h2=>hk ⟨t,h1,h2⟩;refine ry (h.mono fun o σ' hq=>?_) (hp ((iX H).2 hn));rcases hq with⟨t',g1,g2,e1,e2⟩|⟨g1,e1,e2⟩
  .exact absurd g2 (hn t' g1)
  .exact⟨_,e1,by rw[e2];exact hf ((iX H).2 hn)⟩
end
theorem D6(ts:List Tok)(i n:Nat)(H:TsV ts)(hH:jw ts i n .H 138)(hR:jw ts i n .R 169)(a:Nat)(L:Int)(ha:a≤ts.length)(hn:aC ts .H a≤n+1)(σ:LLV)(hi:σ[i]? = some (pq ts a L)):
 Fun G 138 [.ptr i 0] σ (QC vts ts i σ (ff ts (n+1) .H a L)):=by
 refine ai Tryz.func138 QN rfl fun hb hw=>?_;have S:=Pst.init hi hb;have hL:=H.ok.len;obtain⟨y,hy⟩:∃y,y=ff ts (n+1) .H a L:=⟨_,rfl⟩
 rw[<-hy];have hy:y=fD ts (ff ts n) .H a L:=hy;simp only[fD]at hy;unfold OZ;simp -dsimp only[aw,jV,jW,jX,jY,jZ,jA,reduceIte,reduceCtorEq,jB,jC,jD,jE,jF,jG];refine jL H (m:=iB) S (by omega) (fun hs1 ha1 σ1 S1 hl1=>?_) (fun hs1=>?_)
 case refine_2=>
  rw[hs1,if_neg (by decide)]at hy;have hnr:aC ts .R a≤n:=by simp only[aC,QK.cost]at *;omega
  simp -dsimp only[aw,jV,jW,jX,jY,jZ,jA,reduceIte,reduceCtorEq,jB,jC,jD,jE,jF,jG];refine fi S (fw n .R a L ha hnr).ne (hR a L ha hnr _ (au S.at_ _)) (fun s a1 L1 hs σ1 S1 hl1=>?_) (fun l' e b L2 hs σ1 S1 hl1=>?_)
  .rw[hs]at hy;rw[<-hl1];simp -dsimp only[aw,jV,jW,jX,jY,jZ,jA,reduceIte,reduceCtorEq,jB,jC,jD,jE,jF,jG,ak];refine ew S1 hy (by rw[ak];rfl) ?_;rw[ak];simp[Id,aU,bu,aw,jV,jW,jX,jY,jZ,jA,reduceIte,reduceCtorEq,jB,jC,jD,jE,jF,jG]
  .rw[hs]at hy;rw[<-hl1];simp -dsimp only[aw,jV,jW,jX,jY,jZ,jA,reduceIte,reduceCtorEq,jB,jC,jD,jE,jF,jG];exact dB S1 hy
 rw[hs1,if_pos rfl]at hy;rw[<-hl1];simp -dsimp only[aw,jV,jW,jX,jY,jZ,jA,reduceIte,reduceCtorEq,jB,jC,jD,jE,jF,jG];refine fk H (m:=aa 123) S1 (by omega) (fun hs2 ha2 σ2 S2 hl2=>?_) (fun hs2 σ2 S2 hl2=>?_)
 case refine_2=>
  rw[da hs2]at hy;rw[<-hl2];simp -dsimp only[aw,jV,jW,jX,jY,jZ,jA,reduceIte,reduceCtorEq,jB,jC,jD,jE,jF,jG];exact cx S2 hy
 rw[cP hs2,mI]at hy;rw[<-hl2];simp -dsimp only[aw,jV,jW,jX,jY,jZ,jA,reduceIte,reduceCtorEq,jB,jC,jD,jE,jF,jG];refine fi S2 sn (pf ts (a+1+1) i L H ha2 _ (au S2.at_ _)) (fun e a3 L3 hs3 σ3 S3 hl3=>?_) (fun l' e b L3 hs3 σ3 S3 hl3=>?_)
 case refine_2=>
  rw[hs3]at hy;rw[<-hl3];simp -dsimp only[aw,jV,jW,jX,jY,jZ,jA,reduceIte,reduceCtorEq,jB,jC,jD,jE,jF,jG];exact dB S3 hy
 rw[hs3]at hy;have hb3:=sL ha2 hs3;have hy:y=cr ts (aa 125) a3 fun a4=>cr ts inW a4 fun a5=>(ff ts n .H a5 L3).bind fun s a6 L6=>.ok (.mk 7 0 0 e ⟨#[]⟩ [s]) a6 L6:=hy;rw[<-hl3];simp -dsimp only[aw,jV,jW,jX,jY,jZ,jA,reduceIte,reduceCtorEq,jB,jC,jD,jE,jF,jG,al];refine Jh H (m:=aa 125) (m':=inW) S3 (by omega) (fun hs4 hs5 ha5 σ5 S5 hl5=>?_) (fun b hor σ5 S5 hl5=>?_)
 case refine_2=>
  rw[<-hl5];simp -dsimp only[aw,jV,jW,jX,jY,jZ,jA,reduceIte,reduceCtorEq,jB,jC,jD,jE,jF,jG];refine cx S5 ?_;rcases hor with⟨h1,rfl⟩|⟨h1,h2,rfl⟩
  .rw[da h1]at hy;exact hy
  .rw[cP h1,da h2]at hy;exact hy
 rw[cP hs4,cP hs5]at hy;have hnh:aC ts .H (a3+2)≤n:=by simp only[aC,QK.cost]at *;omega
 rw[<-hl5];simp -dsimp only[aw,jV,jW,jX,jY,jZ,jA,reduceIte,reduceCtorEq,jB,jC,jD,jE,jF,jG];refine zc S5 (fw n .H (a3+2) L3 (by omega) hnh).ne (hH (a3+2) L3 (by omega) hnh _ (au S5.at_ _)) (fun s a6 L6 hs6 σ6 S6 hl6=>⟨?_,?_⟩) (fun l' e b L6 hs6 σ6 S6 hl6=>?_) ?_
 .rw[<-hl6];simp -dsimp only[aw,jV,jW,jX,jY,jZ,jA,reduceIte,reduceCtorEq,jB,jC,jD,jE,jF,jG]
 .have hy:=hy.trans (congrArg (fun x=>QF.bind x _) hs6);rw[<-hl6];simp -dsimp only[aw,jV,jW,jX,jY,jZ,jA,reduceIte,reduceCtorEq,jB,jC,jD,jE,jF,jG,ak];refine ew S6 hy (by rw[ak];rfl) ?_;rw[ak];simp[Id,aU,bu,bw,Ts.op,Ts.lo,Ts.hi,Ts.ex,Ts.name,Ts.args,aw,jV,jW,jX,jY,jZ,jA,reduceIte,reduceCtorEq,jB,jC,jD,jE,jF,jG]
 .have hy:=hy.trans (congrArg (fun x=>QF.bind x _) hs6);intro ρ2;rw[<-hl6];simp -dsimp only[aw,jV,jW,jX,jY,jZ,jA,reduceIte,reduceCtorEq,jB,jC,jD,jE,jF,jG];exact dB S6 hy
 .simp -dsimp only[aw,jV,jW,jX,jY,jZ,jA,reduceIte,reduceCtorEq,jB,jC,jD,jE,jF,jG]
end Go.Proofs.YthekkgfmagliiaaGreatDoor
