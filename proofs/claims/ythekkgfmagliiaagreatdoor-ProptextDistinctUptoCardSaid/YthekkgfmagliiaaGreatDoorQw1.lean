import Derived.Test.YthekkgfmagliiaaGreatDoorQp2
import Derived.Test.YthekkgfmagliiaaGreatDoorEv1
set_option linter.unusedVariables false
set_option linter.unusedSimpArgs false
set_option linter.unusedSectionVars false
namespace Go.Proofs.YthekkgfmagliiaaGreatDoor
open Go.RowKit
def fV(p q:Pr):Bool:=decide (p.name=q.name)&&(p.plain==q.plain)&&(p.over==q.over)&&el p.cond q.cond&&el p.then_ q.then_
theorem wO(p q:Pr):fV p q=true↔p=q:=by
 unfold fV;simp only[Bool.and_eq_true,decide_eq_true_eq,beq_iff_eq,iw];cases p;cases q;simp only[Pr.mk.injEq,and_assoc]
set_option maxHeartbeats 4000000 in
theorem qe(p q:Pr)(h1:bq p.cond≤1000000)(h2:bq p.then_≤1000000)(σ:List (List V)):Fun G 11 [vpr p,vpr q] σ (aG (aA (fV p q)) σ):=by
 have f1:=fun σ=>iQ p.cond q.cond h1 σ;have f2:=fun σ=>iQ p.then_ q.then_ h2 σ;rw[ax,ax]at f1 f2;by_cases hn:p.name=q.name
 case neg=>
  have hv:fV p q=false:=by unfold fV;rw[decide_eq_false hn];simp
  rw[hv];refine aD Tryz.func11 k11 (by simp only[cu];rfl) fun hb hw=>?_;unfold c11;simp -dsimp -implicitDefEqProofs only[aw,ac,V.copy,V.lend,V.lend1,V.cells,V.boxable,over,al,ah,ae,ai,V.plain,Nat.reduceLeDiff,cond_true,cond_false,implies_true,eq_self,ne_eq,reduceIte,reduceCtorEq,Nat.reduceBEq,Nat.reduceLT,Nat.reduceEqDiff,Nat.reduceAdd,Nat.reduceSub,Nat.reduceMul,cu,decide_eq_false hn];first|exact am hb rfl rfl List.take_length ⟨rfl,rfl⟩|exact am hb rfl rfl List.take_left ⟨rfl,rfl⟩|(trace_state;fail "fin")
 by_cases hp:p.plain=q.plain
 case neg=>
  have e1:(p.plain==q.plain)=false:=by simpa using hp
  have hv:fV p q=false:=by unfold fV;rw[e1];simp
  rw[hv];refine aD Tryz.func11 k11 (by simp only[cu];rfl) fun hb hw=>?_;unfold c11;simp -dsimp -implicitDefEqProofs only[aw,ac,V.copy,V.lend,V.lend1,V.cells,V.boxable,over,al,ah,ae,ai,V.plain,Nat.reduceLeDiff,cond_true,cond_false,implies_true,eq_self,ne_eq,reduceIte,reduceCtorEq,Nat.reduceBEq,Nat.reduceLT,Nat.reduceEqDiff,Nat.reduceAdd,Nat.reduceSub,Nat.reduceMul,cu,decide_eq_true hn,e1];first|exact am hb rfl rfl List.take_length ⟨rfl,rfl⟩|exact am hb rfl rfl List.take_left ⟨rfl,rfl⟩|(trace_state;fail "fin")
 have e1:(p.plain==q.plain)=true:=by simpa using hp
 by_cases ho:p.over=q.over
 case neg=>
  have e2:(p.over==q.over)=false:=by simpa using ho
  have hv:fV p q=false:=by unfold fV;rw[e2];simp
  rw[hv];refine aD Tryz.func11 k11 (by simp only[cu];rfl) fun hb hw=>?_;unfold c11;simp -dsimp -implicitDefEqProofs only[aw,ac,V.copy,V.lend,V.lend1,V.cells,V.boxable,over,al,ah,ae,ai,V.plain,Nat.reduceLeDiff,cond_true,cond_false,implies_true,eq_self,ne_eq,reduceIte,reduceCtorEq,Nat.reduceBEq,Nat.reduceLT,Nat.reduceEqDiff,Nat.reduceAdd,Nat.reduceSub,Nat.reduceMul,cu,decide_eq_true hn,e1,e2];first|exact am hb rfl rfl List.take_length ⟨rfl,rfl⟩|exact am hb rfl rfl List.take_left ⟨rfl,rfl⟩|(trace_state;fail "fin")
 have e2:(p.over==q.over)=true:=by simpa using ho
 have hv:fV p q=(el p.cond q.cond&&el p.then_ q.then_):=by unfold fV;rw[decide_eq_true hn,e1,e2];simp
 rw[hv];generalize el p.cond q.cond=x at *;generalize el p.then_ q.then_=y at *;refine aD Tryz.func11 k11 (by simp only[cu];rfl) fun hb hw=>?_;unfold c11;simp -dsimp -implicitDefEqProofs only[aw,ac,V.copy,V.lend,V.lend1,V.cells,V.boxable,over,al,ah,ae,ai,V.plain,Nat.reduceLeDiff,cond_true,cond_false,implies_true,eq_self,ne_eq,reduceIte,reduceCtorEq,Nat.reduceBEq,Nat.reduceLT,Nat.reduceEqDiff,Nat.reduceAdd,Nat.reduceSub,Nat.reduceMul,cu,decide_eq_true hn,e1,e2];refine aq (f1 _) ?_;cases x with
 | false=>
  simp -dsimp -implicitDefEqProofs only[aw,ac,V.copy,V.lend,V.lend1,V.cells,V.boxable,over,al,ah,ae,ai,V.plain,Nat.reduceLeDiff,cond_true,cond_false,implies_true,eq_self,ne_eq,reduceIte,reduceCtorEq,Nat.reduceBEq,Nat.reduceLT,Nat.reduceEqDiff,Nat.reduceAdd,Nat.reduceSub,Nat.reduceMul];first|exact am hb rfl rfl List.take_length ⟨rfl,rfl⟩|exact am hb rfl rfl List.take_left ⟨rfl,rfl⟩|(trace_state;fail "fin")
 | true=>
  simp -dsimp -implicitDefEqProofs only[aw,ac,V.copy,V.lend,V.lend1,V.cells,V.boxable,over,al,ah,ae,ai,V.plain,Nat.reduceLeDiff,cond_true,cond_false,implies_true,eq_self,ne_eq,reduceIte,reduceCtorEq,Nat.reduceBEq,Nat.reduceLT,Nat.reduceEqDiff,Nat.reduceAdd,Nat.reduceSub,Nat.reduceMul];refine aq (f2 _) ?_;simp -dsimp -implicitDefEqProofs only[aw,ac,V.copy,V.lend,V.lend1,V.cells,V.boxable,over,al,ah,ae,ai,V.plain,Nat.reduceLeDiff,cond_true,cond_false,implies_true,eq_self,ne_eq,reduceIte,reduceCtorEq,Nat.reduceBEq,Nat.reduceLT,Nat.reduceEqDiff,Nat.reduceAdd,Nat.reduceSub,Nat.reduceMul];first|exact am hb rfl rfl List.take_length ⟨rfl,rfl⟩|exact am hb rfl rfl List.take_left ⟨rfl,rfl⟩|(trace_state;fail "fin")
theorem lJ{p:Pr}(h:cB p=0):cq p.then_=0:=(sd h).th
theorem Mr{p q:Pr}(hp:cB p=0)(hq:cB q=0):decide (bs (vR p.then_)=bs (vR q.then_))=el p.then_ q.then_:=by
 rw[Bool.eq_iff_iff,decide_eq_true_eq,iw];constructor
 ·intro h;have:=rN.1 h;unfold vR at this;rw[if_pos (lJ hp),if_pos (lJ hq)]at this;exact FQ (cE (lJ hp)) (cE (lJ hq)) this
 ·intro h;rw[h]
theorem K5{p q:Pr}(hp:cB p=0)(hq:cB q=0):decide (bs (mZ p)=bs (mZ q))=fV p q:=by
 rw[Bool.eq_iff_iff,decide_eq_true_eq,wO];constructor
 ·intro h;have:=rN.1 h;unfold mZ at this;rw[if_pos hp,if_pos hq]at this;exact BF (sd hp) (sd hq) this
 ·intro h;rw[h]
set_option maxHeartbeats 4000000 in
theorem rZ(p q:Pr)(h1:bq p.cond≤1000000)(h2:bq p.then_≤1000000)(h3:bq q.cond≤1000000)(h4:bq q.then_≤1000000):Fun G 5 [vpr p,vpr q] [] (aG (aA true) []):=by
 have v1:=fun σ=>jB p h1 h2 σ;have v2:=fun σ=>jB q h3 h4 σ;rw[cu]at v1 v2;refine aD Tryz.func5 k5 (by simp only[cu];rfl) fun hb hw=>?_;unfold c5;by_cases e1:cB p=0
 case neg=>
  simp -dsimp -implicitDefEqProofs only[aw,ac,V.copy,V.lend,V.lend1,V.cells,V.boxable,over,al,ah,ae,ai,V.plain,Nat.reduceLeDiff,cond_true,cond_false,implies_true,eq_self,ne_eq,reduceIte,reduceCtorEq,Nat.reduceBEq,Nat.reduceLT,Nat.reduceEqDiff,Nat.reduceAdd,Nat.reduceSub,Nat.reduceMul,cu];refine aq (v1 _) ?_;simp -dsimp -implicitDefEqProofs only[aw,ac,V.copy,V.lend,V.lend1,V.cells,V.boxable,over,al,ah,ae,ai,V.plain,Nat.reduceLeDiff,cond_true,cond_false,implies_true,eq_self,ne_eq,reduceIte,reduceCtorEq,Nat.reduceBEq,Nat.reduceLT,Nat.reduceEqDiff,Nat.reduceAdd,Nat.reduceSub,Nat.reduceMul,decide_eq_false e1];refine aq (mi _) ?_
  simp -dsimp -implicitDefEqProofs only[aw,ac,V.copy,V.lend,V.lend1,V.cells,V.boxable,over,al,ah,ae,ai,V.plain,Nat.reduceLeDiff,cond_true,cond_false,implies_true,eq_self,ne_eq,reduceIte,reduceCtorEq,Nat.reduceBEq,Nat.reduceLT,Nat.reduceEqDiff,Nat.reduceAdd,Nat.reduceSub,Nat.reduceMul];first|exact am hb rfl rfl List.take_length ⟨rfl,rfl⟩|exact am hb rfl rfl List.take_left ⟨rfl,rfl⟩|(trace_state;fail "fin")
 by_cases e2:cB q=0
 case neg=>
  simp -dsimp -implicitDefEqProofs only[aw,ac,V.copy,V.lend,V.lend1,V.cells,V.boxable,over,al,ah,ae,ai,V.plain,Nat.reduceLeDiff,cond_true,cond_false,implies_true,eq_self,ne_eq,reduceIte,reduceCtorEq,Nat.reduceBEq,Nat.reduceLT,Nat.reduceEqDiff,Nat.reduceAdd,Nat.reduceSub,Nat.reduceMul,cu];refine aq (v1 _) ?_;simp -dsimp -implicitDefEqProofs only[aw,ac,V.copy,V.lend,V.lend1,V.cells,V.boxable,over,al,ah,ae,ai,V.plain,Nat.reduceLeDiff,cond_true,cond_false,implies_true,eq_self,ne_eq,reduceIte,reduceCtorEq,Nat.reduceBEq,Nat.reduceLT,Nat.reduceEqDiff,Nat.reduceAdd,Nat.reduceSub,Nat.reduceMul,decide_eq_true e1];refine aq (v2 _) ?_
  simp -dsimp -implicitDefEqProofs only[aw,ac,V.copy,V.lend,V.lend1,V.cells,V.boxable,over,al,ah,ae,ai,V.plain,Nat.reduceLeDiff,cond_true,cond_false,implies_true,eq_self,ne_eq,reduceIte,reduceCtorEq,Nat.reduceBEq,Nat.reduceLT,Nat.reduceEqDiff,Nat.reduceAdd,Nat.reduceSub,Nat.reduceMul,decide_eq_false e2];refine aq (mi _) ?_;simp -dsimp -implicitDefEqProofs only[aw,ac,V.copy,V.lend,V.lend1,V.cells,V.boxable,over,al,ah,ae,ai,V.plain,Nat.reduceLeDiff,cond_true,cond_false,implies_true,eq_self,ne_eq,reduceIte,reduceCtorEq,Nat.reduceBEq,Nat.reduceLT,Nat.reduceEqDiff,Nat.reduceAdd,Nat.reduceSub,Nat.reduceMul];first|exact am hb rfl rfl List.take_length ⟨rfl,rfl⟩|exact am hb rfl rfl List.take_left ⟨rfl,rfl⟩|(trace_state;fail "fin")
 have f1:=fun σ=>rm p.then_ h2 σ;have f2:=fun σ=>rm q.then_ h4 σ;have f3:=fun σ=>jz p h1 h2 σ;have f4:=fun σ=>jz q h3 h4 σ;have f5:=fun σ=>iQ p.then_ q.then_ h2 σ;have f6:=fun σ=>qe p q h1 h2 σ;rw[←Mr e1 e2]at f5;rw[←K5 e1 e2]at f6;generalize bs (vR p.then_)=A at *;generalize bs (vR q.then_)=B at *;generalize bs (mZ p)=C at *;generalize bs (mZ q)=D at *;generalize hx:decide (A=B)=x at *;generalize hy:decide (C=D)=y at *;rw[ax]at f1 f2 f5;rw[ax]at f5;rw[cu]at f3 f4 f6;rw[cu]at f6;simp -dsimp -implicitDefEqProofs only[aw,ac,V.copy,V.lend,V.lend1,V.cells,V.boxable,over,al,ah,ae,ai,V.plain,Nat.reduceLeDiff,cond_true,cond_false,implies_true,eq_self,ne_eq,reduceIte,reduceCtorEq,Nat.reduceBEq,Nat.reduceLT,Nat.reduceEqDiff,Nat.reduceAdd,Nat.reduceSub,Nat.reduceMul,cu];refine aq (v1 _) ?_
 simp -dsimp -implicitDefEqProofs only[aw,ac,V.copy,V.lend,V.lend1,V.cells,V.boxable,over,al,ah,ae,ai,V.plain,Nat.reduceLeDiff,cond_true,cond_false,implies_true,eq_self,ne_eq,reduceIte,reduceCtorEq,Nat.reduceBEq,Nat.reduceLT,Nat.reduceEqDiff,Nat.reduceAdd,Nat.reduceSub,Nat.reduceMul,decide_eq_true e1];refine aq (v2 _) ?_;simp -dsimp -implicitDefEqProofs only[aw,ac,V.copy,V.lend,V.lend1,V.cells,V.boxable,over,al,ah,ae,ai,V.plain,Nat.reduceLeDiff,cond_true,cond_false,implies_true,eq_self,ne_eq,reduceIte,reduceCtorEq,Nat.reduceBEq,Nat.reduceLT,Nat.reduceEqDiff,Nat.reduceAdd,Nat.reduceSub,Nat.reduceMul,decide_eq_true e2];refine aS (f1 _) ?_
 simp -dsimp -implicitDefEqProofs only[aw,ac,V.copy,V.lend,V.lend1,V.cells,V.boxable,over,al,ah,ae,ai,V.plain,Nat.reduceLeDiff,cond_true,cond_false,implies_true,eq_self,ne_eq,reduceIte,reduceCtorEq,Nat.reduceBEq,Nat.reduceLT,Nat.reduceEqDiff,Nat.reduceAdd,Nat.reduceSub,Nat.reduceMul];refine aS (f2 _) ?_;simp -dsimp -implicitDefEqProofs only[aw,ac,V.copy,V.lend,V.lend1,V.cells,V.boxable,over,al,ah,ae,ai,V.plain,Nat.reduceLeDiff,cond_true,cond_false,implies_true,eq_self,ne_eq,reduceIte,reduceCtorEq,Nat.reduceBEq,Nat.reduceLT,Nat.reduceEqDiff,Nat.reduceAdd,Nat.reduceSub,Nat.reduceMul];refine aS (f5 _) ?_
 simp -dsimp -implicitDefEqProofs only[aw,ac,V.copy,V.lend,V.lend1,V.cells,V.boxable,over,al,ah,ae,ai,V.plain,Nat.reduceLeDiff,cond_true,cond_false,implies_true,eq_self,ne_eq,reduceIte,reduceCtorEq,Nat.reduceBEq,Nat.reduceLT,Nat.reduceEqDiff,Nat.reduceAdd,Nat.reduceSub,Nat.reduceMul,hx,beq_self_eq_true];refine aS (f3 _) ?_;simp -dsimp -implicitDefEqProofs only[aw,ac,V.copy,V.lend,V.lend1,V.cells,V.boxable,over,al,ah,ae,ai,V.plain,Nat.reduceLeDiff,cond_true,cond_false,implies_true,eq_self,ne_eq,reduceIte,reduceCtorEq,Nat.reduceBEq,Nat.reduceLT,Nat.reduceEqDiff,Nat.reduceAdd,Nat.reduceSub,Nat.reduceMul];refine aS (f4 _) ?_
 simp -dsimp -implicitDefEqProofs only[aw,ac,V.copy,V.lend,V.lend1,V.cells,V.boxable,over,al,ah,ae,ai,V.plain,Nat.reduceLeDiff,cond_true,cond_false,implies_true,eq_self,ne_eq,reduceIte,reduceCtorEq,Nat.reduceBEq,Nat.reduceLT,Nat.reduceEqDiff,Nat.reduceAdd,Nat.reduceSub,Nat.reduceMul];refine aS (f6 _) ?_;simp -dsimp -implicitDefEqProofs only[aw,ac,V.copy,V.lend,V.lend1,V.cells,V.boxable,over,al,ah,ae,ai,V.plain,Nat.reduceLeDiff,cond_true,cond_false,implies_true,eq_self,ne_eq,reduceIte,reduceCtorEq,Nat.reduceBEq,Nat.reduceLT,Nat.reduceEqDiff,Nat.reduceAdd,Nat.reduceSub,Nat.reduceMul,hy,beq_self_eq_true];refine aS (mi _) ?_
 simp -dsimp -implicitDefEqProofs only[aw,ac,V.copy,V.lend,V.lend1,V.cells,V.boxable,over,al,ah,ae,ai,V.plain,Nat.reduceLeDiff,cond_true,cond_false,implies_true,eq_self,ne_eq,reduceIte,reduceCtorEq,Nat.reduceBEq,Nat.reduceLT,Nat.reduceEqDiff,Nat.reduceAdd,Nat.reduceSub,Nat.reduceMul];first|exact am hb rfl rfl List.take_length ⟨rfl,rfl⟩|exact am hb rfl rfl List.take_left ⟨rfl,rfl⟩|(trace_state;fail "fin")
end Go.Proofs.YthekkgfmagliiaaGreatDoor
