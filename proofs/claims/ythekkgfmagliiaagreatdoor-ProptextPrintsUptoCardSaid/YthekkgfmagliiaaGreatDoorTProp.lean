import Derived.Test.YthekkgfmagliiaaGreatDoorTRef3
import Derived.Test.YthekkgfmagliiaaGreatDoorTLaw
set_option linter.unusedVariables false
set_option linter.unusedSimpArgs false
set_option linter.unusedSectionVars false
namespace Go.Proofs.YthekkgfmagliiaaGreatDoor
open Go.RowKit
structure Pr where
 name:ByteArray
 plain:Bool
 over:Bool
 cond:Ts
 then_:Ts
def dpr(p:Pr):List D:=ak p.name::.lit (.bool p.plain)::.lit (.bool p.over)::(dts p.cond++dts p.then_)
def vpr(p:Pr):V:=.agg ((dpr p).map V.d)
theorem cL(p:Pr):vpr p=.agg [.d (ak p.name),.d (.lit (.bool p.plain)),.d (.lit (.bool p.over)),
 .d (an p.cond.op),.d (an p.cond.lo),.d (an p.cond.hi),.d (an p.cond.ex.op),.d (an p.cond.ex.num),.d (ak p.cond.ex.name),.d (.sl (p.cond.ex.args.map dex)),.d (ak p.cond.name),.d (.sl (p.cond.args.map dts)),
 .d (an p.then_.op),.d (an p.then_.lo),.d (an p.then_.hi),.d (an p.then_.ex.op),.d (an p.then_.ex.num),.d (ak p.then_.ex.name),.d (.sl (p.then_.ex.args.map dex)),.d (ak p.then_.name),.d (.sl (p.then_.args.map dts))]:=by
 unfold vpr dpr;rw[aW,aW];rfl
def zT:Ts:=.mk 0 0 0 (.mk 0 0 ⟨#[]⟩ []) ⟨#[]⟩ []
def dw(s:Ts):Bool:=((((decide (s.op=0)&&decide (s.lo=0))&&decide (s.hi=0))&&eC s.ex)&&decide (s.name=⟨#[]⟩))&&decide ((s.args.length:Int)=0)
theorem lE(s:Ts):fe s zT=dw s:=by
 have hz:eC s.ex=true↔s.ex=.mk 0 0 ⟨#[]⟩ []:=by
  unfold eC;simp only[Bool.and_eq_true,decide_eq_true_eq];cases h:s.ex with
  | mk o n m l=>simp[Ex.op,Ex.num,Ex.name,Ex.args]
 rw[Bool.eq_iff_iff,jB];unfold dw;simp only[Bool.and_eq_true,decide_eq_true_eq,hz];cases s with
 | mk o a b e n l=>
 simp only[zT,Ts.mk.injEq,Ts.op,Ts.lo,Ts.hi,Ts.ex,Ts.name,Ts.args];constructor
 ·rintro⟨h1,h2,h3,h4,h5,h6⟩;exact⟨⟨⟨⟨⟨h1,h2⟩,h3⟩,h4⟩,h5⟩,by rw[h6];rfl⟩
 ·rintro⟨⟨⟨⟨⟨h1,h2⟩,h3⟩,h4⟩,h5⟩,h6⟩;exact⟨h1,h2,h3,h4,h5,List.eq_nil_of_length_eq_zero (by omega)⟩
theorem wD(s:Ts)(σ:List (List V)):Fun G 38 [vts s] σ (aB (aD (dw s)) σ):=by
 have hq:dw s=dw s:=rfl
 conv at hq=>rhs;unfold dw
 refine ax Tryz.func38 k38 (by simp only[aq];rfl) fun hb hw=>?_;unfold c38
 have out:∀(b:Bool) (l:List (List V)),dw s=b→fin σ.length GU (aB (aD (dw s)) σ) .ret [(2,aD b)] (σ++l):=fun b l h=>by
  rw[h];exact aj hb rfl rfl List.take_left ⟨rfl,rfl⟩
 simp -dsimp -implicitDefEqProofs only[aw,ac,V.copy,V.lend,V.lend1,V.cells,V.boxable,over,al,ah,ae,ai,V.plain,Nat.reduceLeDiff,cond_true,cond_false,implies_true,eq_self,ne_eq,reduceIte,reduceCtorEq,Nat.reduceBEq,Nat.reduceLT,Nat.reduceEqDiff,Nat.reduceAdd,Nat.reduceSub,Nat.reduceMul,aq];refine aI (fun h1=>?_) (fun h1=>?_)
 ·simp -dsimp -implicitDefEqProofs only[aw,ac,V.copy,V.lend,V.lend1,V.cells,V.boxable,over,al,ah,ae,ai,V.plain,Nat.reduceLeDiff,cond_true,cond_false,implies_true,eq_self,ne_eq,reduceIte,reduceCtorEq,Nat.reduceBEq,Nat.reduceLT,Nat.reduceEqDiff,Nat.reduceAdd,Nat.reduceSub,Nat.reduceMul];refine aI (fun h2=>?_) (fun h2=>?_)
  ·simp -dsimp -implicitDefEqProofs only[aw,ac,V.copy,V.lend,V.lend1,V.cells,V.boxable,over,al,ah,ae,ai,V.plain,Nat.reduceLeDiff,cond_true,cond_false,implies_true,eq_self,ne_eq,reduceIte,reduceCtorEq,Nat.reduceBEq,Nat.reduceLT,Nat.reduceEqDiff,Nat.reduceAdd,Nat.reduceSub,Nat.reduceMul];refine aI (fun h3=>?_) (fun h3=>?_)
   ·simp -dsimp -implicitDefEqProofs only[aw,ac,V.copy,V.lend,V.lend1,V.cells,V.boxable,over,al,ah,ae,ai,V.plain,Nat.reduceLeDiff,cond_true,cond_false,implies_true,eq_self,ne_eq,reduceIte,reduceCtorEq,Nat.reduceBEq,Nat.reduceLT,Nat.reduceEqDiff,Nat.reduceAdd,Nat.reduceSub,Nat.reduceMul];refine ao (by simpa only[aG]using nc s.ex _) ?_;cases hz:eC s.ex with
    | true=>
     simp -dsimp -implicitDefEqProofs only[aw,ac,V.copy,V.lend,V.lend1,V.cells,V.boxable,over,al,ah,ae,ai,V.plain,Nat.reduceLeDiff,cond_true,cond_false,implies_true,eq_self,ne_eq,reduceIte,reduceCtorEq,Nat.reduceBEq,Nat.reduceLT,Nat.reduceEqDiff,Nat.reduceAdd,Nat.reduceSub,Nat.reduceMul];refine aI (fun h4=>?_) (fun h4=>?_)
     ·simp -dsimp -implicitDefEqProofs only[aw,ac,V.copy,V.lend,V.lend1,V.cells,V.boxable,over,al,ah,ae,ai,V.plain,Nat.reduceLeDiff,cond_true,cond_false,implies_true,eq_self,ne_eq,reduceIte,reduceCtorEq,Nat.reduceBEq,Nat.reduceLT,Nat.reduceEqDiff,Nat.reduceAdd,Nat.reduceSub,Nat.reduceMul];exact out _ _ (by rw[hq,h1,h2,h3,hz,h4];simp)
     ·simp -dsimp -implicitDefEqProofs only[aw,ac,V.copy,V.lend,V.lend1,V.cells,V.boxable,over,al,ah,ae,ai,V.plain,Nat.reduceLeDiff,cond_true,cond_false,implies_true,eq_self,ne_eq,reduceIte,reduceCtorEq,Nat.reduceBEq,Nat.reduceLT,Nat.reduceEqDiff,Nat.reduceAdd,Nat.reduceSub,Nat.reduceMul];exact out _ _ (by rw[hq,h1,h2,h3,hz,h4];simp)
    | false=>
     simp -dsimp -implicitDefEqProofs only[aw,ac,V.copy,V.lend,V.lend1,V.cells,V.boxable,over,al,ah,ae,ai,V.plain,Nat.reduceLeDiff,cond_true,cond_false,implies_true,eq_self,ne_eq,reduceIte,reduceCtorEq,Nat.reduceBEq,Nat.reduceLT,Nat.reduceEqDiff,Nat.reduceAdd,Nat.reduceSub,Nat.reduceMul];exact out _ _ (by rw[hq,h1,h2,h3,hz];simp)
   ·simp -dsimp -implicitDefEqProofs only[aw,ac,V.copy,V.lend,V.lend1,V.cells,V.boxable,over,al,ah,ae,ai,V.plain,Nat.reduceLeDiff,cond_true,cond_false,implies_true,eq_self,ne_eq,reduceIte,reduceCtorEq,Nat.reduceBEq,Nat.reduceLT,Nat.reduceEqDiff,Nat.reduceAdd,Nat.reduceSub,Nat.reduceMul];exact out _ _ (by rw[hq,h1,h2,h3];simp)
  ·simp -dsimp -implicitDefEqProofs only[aw,ac,V.copy,V.lend,V.lend1,V.cells,V.boxable,over,al,ah,ae,ai,V.plain,Nat.reduceLeDiff,cond_true,cond_false,implies_true,eq_self,ne_eq,reduceIte,reduceCtorEq,Nat.reduceBEq,Nat.reduceLT,Nat.reduceEqDiff,Nat.reduceAdd,Nat.reduceSub,Nat.reduceMul];exact out _ _ (by rw[hq,h1,h2];simp)
 ·simp -dsimp -implicitDefEqProofs only[aw,ac,V.copy,V.lend,V.lend1,V.cells,V.boxable,over,al,ah,ae,ai,V.plain,Nat.reduceLeDiff,cond_true,cond_false,implies_true,eq_self,ne_eq,reduceIte,reduceCtorEq,Nat.reduceBEq,Nat.reduceLT,Nat.reduceEqDiff,Nat.reduceAdd,Nat.reduceSub,Nat.reduceMul];exact out _ _ (by rw[hq,h1];simp)
def c6(p:Pr):Int:=
 if bj p.name=false then 7
 else if p.plain=true∧(p.over=true∨dw p.cond=false)then 1
 else if p.plain=false∧b7 p.cond≠0 then b7 p.cond
 else b7 p.then_
set_option maxHeartbeats 1000000 in
theorem ip(p:Pr)(h1:bC p.cond≤1000000)(h2:bC p.then_≤1000000)(σ:List (List V)):Fun G 25 [vpr p] σ (aB (.d (an (c6 p))) σ):=by
 have hq:c6 p=c6 p:=rfl
 conv at hq=>rhs;unfold c6
 refine ax Tryz.func25 k25 (by simp only[cL];rfl) fun hb hw=>?_;unfold c25
 have out:∀(n:Int) (l:List (List V)),c6 p=n→fin σ.length G8 (aB (.d (an (c6 p))) σ) .ret [(2,.d (.lit (.int .i64 n)))] (σ++l):=fun n l h=>by
  rw[h];exact aj hb rfl rfl List.take_left ⟨rfl,rfl⟩
 have hsame:∀σ,Fun G 50 [vts p.cond,vts zT] σ (aB (aD (dw p.cond)) σ):=fun σ=>by rw[←lE];exact u4 p.cond zT h1 σ
 have hz:vts zT=.agg [.d (an 0),.d (an 0),.d (an 0),.d (an 0),.d (an 0),.d (ak ⟨#[]⟩),.d (.sl []),.d (ak ⟨#[]⟩),.d (.sl [])]:=by rw[aq];rfl
 simp only[hz]at hsame;simp -dsimp -implicitDefEqProofs only[aw,ac,V.copy,V.lend,V.lend1,V.cells,V.boxable,over,al,ah,ae,ai,V.plain,Nat.reduceLeDiff,cond_true,cond_false,implies_true,eq_self,ne_eq,reduceIte,reduceCtorEq,Nat.reduceBEq,Nat.reduceLT,Nat.reduceEqDiff,Nat.reduceAdd,Nat.reduceSub,Nat.reduceMul,cL];refine ao (kJ p.name _) ?_;cases hn:bj p.name with
 | false=>
  rw[if_pos hn]at hq;simp -dsimp -implicitDefEqProofs only[aw,ac,V.copy,V.lend,V.lend1,V.cells,V.boxable,over,al,ah,ae,ai,V.plain,Nat.reduceLeDiff,cond_true,cond_false,implies_true,eq_self,ne_eq,reduceIte,reduceCtorEq,Nat.reduceBEq,Nat.reduceLT,Nat.reduceEqDiff,Nat.reduceAdd,Nat.reduceSub,Nat.reduceMul];exact out 7 _ hq
 | true=>
 rw[if_neg (by rw[hn];simp)]at hq;cases hp:p.plain with
 | true=>
  rw[hp]at hq;cases ho:p.over with
  | true=>
   rw[if_pos ⟨rfl,.inl ho⟩]at hq;simp -dsimp -implicitDefEqProofs only[aw,ac,V.copy,V.lend,V.lend1,V.cells,V.boxable,over,al,ah,ae,ai,V.plain,Nat.reduceLeDiff,cond_true,cond_false,implies_true,eq_self,ne_eq,reduceIte,reduceCtorEq,Nat.reduceBEq,Nat.reduceLT,Nat.reduceEqDiff,Nat.reduceAdd,Nat.reduceSub,Nat.reduceMul];exact out 1 _ hq
  | false=>
   simp -dsimp -implicitDefEqProofs only[aw,ac,V.copy,V.lend,V.lend1,V.cells,V.boxable,over,al,ah,ae,ai,V.plain,Nat.reduceLeDiff,cond_true,cond_false,implies_true,eq_self,ne_eq,reduceIte,reduceCtorEq,Nat.reduceBEq,Nat.reduceLT,Nat.reduceEqDiff,Nat.reduceAdd,Nat.reduceSub,Nat.reduceMul];refine ao (by simpa only[aq]using hsame _) ?_;cases he:dw p.cond with
   | false=>
    rw[if_pos ⟨rfl,.inr he⟩]at hq;simp -dsimp -implicitDefEqProofs only[aw,ac,V.copy,V.lend,V.lend1,V.cells,V.boxable,over,al,ah,ae,ai,V.plain,Nat.reduceLeDiff,cond_true,cond_false,implies_true,eq_self,ne_eq,reduceIte,reduceCtorEq,Nat.reduceBEq,Nat.reduceLT,Nat.reduceEqDiff,Nat.reduceAdd,Nat.reduceSub,Nat.reduceMul];exact out 1 _ hq
   | true=>
    rw[if_neg (by rw[ho,he];simp),if_neg (by simp)]at hq;simp -dsimp -implicitDefEqProofs only[aw,ac,V.copy,V.lend,V.lend1,V.cells,V.boxable,over,al,ah,ae,ai,V.plain,Nat.reduceLeDiff,cond_true,cond_false,implies_true,eq_self,ne_eq,reduceIte,reduceCtorEq,Nat.reduceBEq,Nat.reduceLT,Nat.reduceEqDiff,Nat.reduceAdd,Nat.reduceSub,Nat.reduceMul];refine ao (by simpa only[aq]using d6 p.then_ h2 _) ?_;simp -dsimp -implicitDefEqProofs only[aw,ac,V.copy,V.lend,V.lend1,V.cells,V.boxable,over,al,ah,ae,ai,V.plain,Nat.reduceLeDiff,cond_true,cond_false,implies_true,eq_self,ne_eq,reduceIte,reduceCtorEq,Nat.reduceBEq,Nat.reduceLT,Nat.reduceEqDiff,Nat.reduceAdd,Nat.reduceSub,Nat.reduceMul];exact out _ _ hq
 | false=>
  rw[if_neg (by rw[hp];simp)]at hq;simp -dsimp -implicitDefEqProofs only[aw,ac,V.copy,V.lend,V.lend1,V.cells,V.boxable,over,al,ah,ae,ai,V.plain,Nat.reduceLeDiff,cond_true,cond_false,implies_true,eq_self,ne_eq,reduceIte,reduceCtorEq,Nat.reduceBEq,Nat.reduceLT,Nat.reduceEqDiff,Nat.reduceAdd,Nat.reduceSub,Nat.reduceMul];refine ao (by simpa only[aq]using d6 p.cond h1 _) ?_;by_cases h0:b7 p.cond=0
  ·rw[if_neg (by simp[h0])]at hq;simp -dsimp -implicitDefEqProofs only[aw,ac,V.copy,V.lend,V.lend1,V.cells,V.boxable,over,al,ah,ae,ai,V.plain,Nat.reduceLeDiff,cond_true,cond_false,implies_true,eq_self,ne_eq,reduceIte,reduceCtorEq,Nat.reduceBEq,Nat.reduceLT,Nat.reduceEqDiff,Nat.reduceAdd,Nat.reduceSub,Nat.reduceMul,h0,Int.reduceEq,decide_true,decide_false];refine ao (by simpa only[aq]using d6 p.then_ h2 _) ?_;simp -dsimp -implicitDefEqProofs only[aw,ac,V.copy,V.lend,V.lend1,V.cells,V.boxable,over,al,ah,ae,ai,V.plain,Nat.reduceLeDiff,cond_true,cond_false,implies_true,eq_self,ne_eq,reduceIte,reduceCtorEq,Nat.reduceBEq,Nat.reduceLT,Nat.reduceEqDiff,Nat.reduceAdd,Nat.reduceSub,Nat.reduceMul];exact out _ _ hq
  ·rw[if_pos ⟨hp,h0⟩]at hq;simp -dsimp -implicitDefEqProofs only[aw,ac,V.copy,V.lend,V.lend1,V.cells,V.boxable,over,al,ah,ae,ai,V.plain,Nat.reduceLeDiff,cond_true,cond_false,implies_true,eq_self,ne_eq,reduceIte,reduceCtorEq,Nat.reduceBEq,Nat.reduceLT,Nat.reduceEqDiff,Nat.reduceAdd,Nat.reduceSub,Nat.reduceMul,decide_eq_false h0];exact out _ _ hq
set_option maxHeartbeats 1000000 in
theorem lR(p:Pr)(h1:bC p.cond≤1000000)(h2:bC p.then_≤1000000)(σ:List (List V)):Fun G 18 [vpr p] σ (aB (.d (an (c6 p))) σ):=by
 have hq:c6 p=c6 p:=rfl
 conv at hq=>rhs;unfold c6
 refine ax Tryz.func18 k18 (by simp only[cL];rfl) fun hb hw=>?_;unfold c18
 have out:∀(n:Int) (l:List (List V)),c6 p=n→fin σ.length Gz (aB (.d (an (c6 p))) σ) .ret [(2,.d (.lit (.int .i64 n)))] (σ++l):=fun n l h=>by
  rw[h];exact aj hb rfl rfl List.take_left ⟨rfl,rfl⟩
 simp -dsimp -implicitDefEqProofs only[aw,ac,V.copy,V.lend,V.lend1,V.cells,V.boxable,over,al,ah,ae,ai,V.plain,Nat.reduceLeDiff,cond_true,cond_false,implies_true,eq_self,ne_eq,reduceIte,reduceCtorEq,Nat.reduceBEq,Nat.reduceLT,Nat.reduceEqDiff,Nat.reduceAdd,Nat.reduceSub,Nat.reduceMul,cL];refine ao (kw p.name _) ?_;cases hn:bj p.name with
 | false=>
  rw[if_pos hn]at hq;simp -dsimp -implicitDefEqProofs only[aw,ac,V.copy,V.lend,V.lend1,V.cells,V.boxable,over,al,ah,ae,ai,V.plain,Nat.reduceLeDiff,cond_true,cond_false,implies_true,eq_self,ne_eq,reduceIte,reduceCtorEq,Nat.reduceBEq,Nat.reduceLT,Nat.reduceEqDiff,Nat.reduceAdd,Nat.reduceSub,Nat.reduceMul];exact out 7 _ hq
 | true=>
 rw[if_neg (by rw[hn];simp)]at hq;cases hp:p.plain with
 | true=>
  rw[hp]at hq;cases ho:p.over with
  | true=>
   rw[if_pos ⟨rfl,.inl ho⟩]at hq;simp -dsimp -implicitDefEqProofs only[aw,ac,V.copy,V.lend,V.lend1,V.cells,V.boxable,over,al,ah,ae,ai,V.plain,Nat.reduceLeDiff,cond_true,cond_false,implies_true,eq_self,ne_eq,reduceIte,reduceCtorEq,Nat.reduceBEq,Nat.reduceLT,Nat.reduceEqDiff,Nat.reduceAdd,Nat.reduceSub,Nat.reduceMul];exact out 1 _ hq
  | false=>
   simp -dsimp -implicitDefEqProofs only[aw,ac,V.copy,V.lend,V.lend1,V.cells,V.boxable,over,al,ah,ae,ai,V.plain,Nat.reduceLeDiff,cond_true,cond_false,implies_true,eq_self,ne_eq,reduceIte,reduceCtorEq,Nat.reduceBEq,Nat.reduceLT,Nat.reduceEqDiff,Nat.reduceAdd,Nat.reduceSub,Nat.reduceMul];refine ao (by simpa only[aq]using wD p.cond _) ?_;cases he:dw p.cond with
   | false=>
    rw[if_pos ⟨rfl,.inr he⟩]at hq;simp -dsimp -implicitDefEqProofs only[aw,ac,V.copy,V.lend,V.lend1,V.cells,V.boxable,over,al,ah,ae,ai,V.plain,Nat.reduceLeDiff,cond_true,cond_false,implies_true,eq_self,ne_eq,reduceIte,reduceCtorEq,Nat.reduceBEq,Nat.reduceLT,Nat.reduceEqDiff,Nat.reduceAdd,Nat.reduceSub,Nat.reduceMul];exact out 1 _ hq
   | true=>
    rw[if_neg (by rw[ho,he];simp),if_neg (by simp)]at hq;simp -dsimp -implicitDefEqProofs only[aw,ac,V.copy,V.lend,V.lend1,V.cells,V.boxable,over,al,ah,ae,ai,V.plain,Nat.reduceLeDiff,cond_true,cond_false,implies_true,eq_self,ne_eq,reduceIte,reduceCtorEq,Nat.reduceBEq,Nat.reduceLT,Nat.reduceEqDiff,Nat.reduceAdd,Nat.reduceSub,Nat.reduceMul];refine ao (by simpa only[aq]using eL p.then_ h2 _) ?_;simp -dsimp -implicitDefEqProofs only[aw,ac,V.copy,V.lend,V.lend1,V.cells,V.boxable,over,al,ah,ae,ai,V.plain,Nat.reduceLeDiff,cond_true,cond_false,implies_true,eq_self,ne_eq,reduceIte,reduceCtorEq,Nat.reduceBEq,Nat.reduceLT,Nat.reduceEqDiff,Nat.reduceAdd,Nat.reduceSub,Nat.reduceMul];exact out _ _ hq
 | false=>
  rw[if_neg (by rw[hp];simp)]at hq;simp -dsimp -implicitDefEqProofs only[aw,ac,V.copy,V.lend,V.lend1,V.cells,V.boxable,over,al,ah,ae,ai,V.plain,Nat.reduceLeDiff,cond_true,cond_false,implies_true,eq_self,ne_eq,reduceIte,reduceCtorEq,Nat.reduceBEq,Nat.reduceLT,Nat.reduceEqDiff,Nat.reduceAdd,Nat.reduceSub,Nat.reduceMul];refine ao (by simpa only[aq]using eL p.cond h1 _) ?_;by_cases h0:b7 p.cond=0
  ·rw[if_neg (by simp[h0])]at hq;simp -dsimp -implicitDefEqProofs only[aw,ac,V.copy,V.lend,V.lend1,V.cells,V.boxable,over,al,ah,ae,ai,V.plain,Nat.reduceLeDiff,cond_true,cond_false,implies_true,eq_self,ne_eq,reduceIte,reduceCtorEq,Nat.reduceBEq,Nat.reduceLT,Nat.reduceEqDiff,Nat.reduceAdd,Nat.reduceSub,Nat.reduceMul,h0,Int.reduceEq,decide_true,decide_false];refine ao (by simpa only[aq]using eL p.then_ h2 _) ?_;simp -dsimp -implicitDefEqProofs only[aw,ac,V.copy,V.lend,V.lend1,V.cells,V.boxable,over,al,ah,ae,ai,V.plain,Nat.reduceLeDiff,cond_true,cond_false,implies_true,eq_self,ne_eq,reduceIte,reduceCtorEq,Nat.reduceBEq,Nat.reduceLT,Nat.reduceEqDiff,Nat.reduceAdd,Nat.reduceSub,Nat.reduceMul];exact out _ _ hq
  ·rw[if_pos ⟨hp,h0⟩]at hq;simp -dsimp -implicitDefEqProofs only[aw,ac,V.copy,V.lend,V.lend1,V.cells,V.boxable,over,al,ah,ae,ai,V.plain,Nat.reduceLeDiff,cond_true,cond_false,implies_true,eq_self,ne_eq,reduceIte,reduceCtorEq,Nat.reduceBEq,Nat.reduceLT,Nat.reduceEqDiff,Nat.reduceAdd,Nat.reduceSub,Nat.reduceMul,decide_eq_false h0];exact out _ _ hq
end Go.Proofs.YthekkgfmagliiaaGreatDoor
