import Derived.Test.YthekkgfmagliiaaGreatDoorTRef1
import Derived.Test.YthekkgfmagliiaaGreatDoorTSame
import Derived.Test.YthekkgfmagliiaaGreatDoorTRef3
set_option linter.unusedVariables false
set_option linter.unusedSimpArgs false
set_option linter.unusedSectionVars false
namespace Go.Proofs.YthekkgfmagliiaaGreatDoor
open Go.RowKit
theorem uI:∀(l l':List Ex),(∀a,a∈l→∀b,gL a b=true↔a=b)→(fe l l'=true↔l=l')
 | [],[],_=>by simp[fe]
 | a::r,b::r',h=>by
  simp only[fe,Bool.and_eq_true,h a (by simp) b,uI r r' (fun x hx=>h x (by simp[hx])),List.cons.injEq]
 | [],_::_,_=>by simp[fe]
 | _::_,[],_=>by simp[fe]
theorem Ai(a:Ex):∀b,gL a b=true↔a=b:=by
 induction a using Ex.ind2 with
 | h a ih=>
 intro b;rw[oC];simp only[Bool.and_eq_true,decide_eq_true_eq,uI _ _ ih];cases a;cases b;simp only[Ex.op,Ex.num,Ex.name,Ex.args,Ex.mk.injEq]
theorem nY:∀(l l':List Ts),(∀a,a∈l→∀b,el a b=true↔a=b)→(dZ l l'=true↔l=l')
 | [],[],_=>by simp[dZ]
 | a::r,b::r',h=>by
  simp only[dZ,Bool.and_eq_true,h a (by simp) b,nY r r' (fun x hx=>h x (by simp[hx])),List.cons.injEq]
 | [],_::_,_=>by simp[dZ]
 | _::_,[],_=>by simp[dZ]
theorem iw(a:Ts):∀b,el a b=true↔a=b:=by
 induction a using Ts.ind with
 | h a ih=>
 intro b;rw[oe];simp only[Bool.and_eq_true,decide_eq_true_eq,nY _ _ ih,Ai];cases a;cases b;simp only[Ts.op,Ts.lo,Ts.hi,Ts.ex,Ts.name,Ts.args,Ts.mk.injEq];constructor
 ·rintro⟨h1,h2,h3,h4,h5,h6⟩;exact⟨h1,h2,h3,h5,h4,h6⟩
 ·rintro⟨h1,h2,h3,h4,h5,h6⟩;exact⟨h1,h2,h3,h5,h4,h6⟩
structure Pr where
 name:ByteArray
 plain:Bool
 over:Bool
 cond:Ts
 then_:Ts
def dpr(p:Pr):List D:=an p.name::.lit (.bool p.plain)::.lit (.bool p.over)::(dts p.cond++dts p.then_)
def vpr(p:Pr):V:=.agg ((dpr p).map V.d)
theorem cu(p:Pr):vpr p=.agg [.d (an p.name),.d (.lit (.bool p.plain)),.d (.lit (.bool p.over)),
 .d (ao p.cond.op),.d (ao p.cond.lo),.d (ao p.cond.hi),.d (ao p.cond.ex.op),.d (ao p.cond.ex.num),.d (an p.cond.ex.name),.d (.sl (p.cond.ex.args.map dex)),.d (an p.cond.name),.d (.sl (p.cond.args.map dts)),
 .d (ao p.then_.op),.d (ao p.then_.lo),.d (ao p.then_.hi),.d (ao p.then_.ex.op),.d (ao p.then_.ex.num),.d (an p.then_.ex.name),.d (.sl (p.then_.ex.args.map dex)),.d (an p.then_.name),.d (.sl (p.then_.args.map dts))]:=by
 unfold vpr dpr;rw[bP,bP];rfl
def zT:Ts:=.mk 0 0 0 (.mk 0 0 ⟨#[]⟩ []) ⟨#[]⟩ []
def ew(s:Ts):Bool:=((((decide (s.op=0)&&decide (s.lo=0))&&decide (s.hi=0))&&fO s.ex)&&decide (s.name=⟨#[]⟩))&&decide ((s.args.length:Int)=0)
theorem pi(s:Ts):el s zT=ew s:=by
 have hz:fO s.ex=true↔s.ex=.mk 0 0 ⟨#[]⟩ []:=by
  unfold fO;simp only[Bool.and_eq_true,decide_eq_true_eq];cases h:s.ex with
  | mk o n m l=>simp[Ex.op,Ex.num,Ex.name,Ex.args]
 rw[Bool.eq_iff_iff,iw];unfold ew;simp only[Bool.and_eq_true,decide_eq_true_eq,hz];cases s with
 | mk o a b e n l=>
 simp only[zT,Ts.mk.injEq,Ts.op,Ts.lo,Ts.hi,Ts.ex,Ts.name,Ts.args];constructor
 ·rintro⟨h1,h2,h3,h4,h5,h6⟩;exact⟨⟨⟨⟨⟨h1,h2⟩,h3⟩,h4⟩,h5⟩,by rw[h6];rfl⟩
 ·rintro⟨⟨⟨⟨⟨h1,h2⟩,h3⟩,h4⟩,h5⟩,h6⟩;exact⟨h1,h2,h3,h4,h5,List.eq_nil_of_length_eq_zero (by omega)⟩
theorem yY(s:Ts)(σ:List (List V)):Fun G 38 [vts s] σ (aG (aA (ew s)) σ):=by
 have hq:ew s=ew s:=rfl
 conv at hq=>rhs;unfold ew
 refine aD Tryz.func38 k38 (by simp only[ax];rfl) fun hb hw=>?_;unfold c38
 have out:∀(b:Bool) (l:List (List V)),ew s=b→fin σ.length Md (aG (aA (ew s)) σ) .ret [(2,aA b)] (σ++l):=fun b l h=>by
  rw[h];exact am hb rfl rfl List.take_left ⟨rfl,rfl⟩
 simp -dsimp -implicitDefEqProofs only[aw,ac,V.copy,V.lend,V.lend1,V.cells,V.boxable,over,al,ah,ae,ai,V.plain,Nat.reduceLeDiff,cond_true,cond_false,implies_true,eq_self,ne_eq,reduceIte,reduceCtorEq,Nat.reduceBEq,Nat.reduceLT,Nat.reduceEqDiff,Nat.reduceAdd,Nat.reduceSub,Nat.reduceMul,ax];refine aF (fun h1=>?_) (fun h1=>?_)
 ·simp -dsimp -implicitDefEqProofs only[aw,ac,V.copy,V.lend,V.lend1,V.cells,V.boxable,over,al,ah,ae,ai,V.plain,Nat.reduceLeDiff,cond_true,cond_false,implies_true,eq_self,ne_eq,reduceIte,reduceCtorEq,Nat.reduceBEq,Nat.reduceLT,Nat.reduceEqDiff,Nat.reduceAdd,Nat.reduceSub,Nat.reduceMul];refine aF (fun h2=>?_) (fun h2=>?_)
  ·simp -dsimp -implicitDefEqProofs only[aw,ac,V.copy,V.lend,V.lend1,V.cells,V.boxable,over,al,ah,ae,ai,V.plain,Nat.reduceLeDiff,cond_true,cond_false,implies_true,eq_self,ne_eq,reduceIte,reduceCtorEq,Nat.reduceBEq,Nat.reduceLT,Nat.reduceEqDiff,Nat.reduceAdd,Nat.reduceSub,Nat.reduceMul];refine aF (fun h3=>?_) (fun h3=>?_)
   ·simp -dsimp -implicitDefEqProofs only[aw,ac,V.copy,V.lend,V.lend1,V.cells,V.boxable,over,al,ah,ae,ai,V.plain,Nat.reduceLeDiff,cond_true,cond_false,implies_true,eq_self,ne_eq,reduceIte,reduceCtorEq,Nat.reduceBEq,Nat.reduceLT,Nat.reduceEqDiff,Nat.reduceAdd,Nat.reduceSub,Nat.reduceMul];refine aq (by simpa only[aR]using qO s.ex _) ?_;cases hz:fO s.ex with
    | true=>
     simp -dsimp -implicitDefEqProofs only[aw,ac,V.copy,V.lend,V.lend1,V.cells,V.boxable,over,al,ah,ae,ai,V.plain,Nat.reduceLeDiff,cond_true,cond_false,implies_true,eq_self,ne_eq,reduceIte,reduceCtorEq,Nat.reduceBEq,Nat.reduceLT,Nat.reduceEqDiff,Nat.reduceAdd,Nat.reduceSub,Nat.reduceMul];refine aF (fun h4=>?_) (fun h4=>?_)
     ·simp -dsimp -implicitDefEqProofs only[aw,ac,V.copy,V.lend,V.lend1,V.cells,V.boxable,over,al,ah,ae,ai,V.plain,Nat.reduceLeDiff,cond_true,cond_false,implies_true,eq_self,ne_eq,reduceIte,reduceCtorEq,Nat.reduceBEq,Nat.reduceLT,Nat.reduceEqDiff,Nat.reduceAdd,Nat.reduceSub,Nat.reduceMul];exact out _ _ (by rw[hq,h1,h2,h3,hz,h4];simp)
     ·simp -dsimp -implicitDefEqProofs only[aw,ac,V.copy,V.lend,V.lend1,V.cells,V.boxable,over,al,ah,ae,ai,V.plain,Nat.reduceLeDiff,cond_true,cond_false,implies_true,eq_self,ne_eq,reduceIte,reduceCtorEq,Nat.reduceBEq,Nat.reduceLT,Nat.reduceEqDiff,Nat.reduceAdd,Nat.reduceSub,Nat.reduceMul];exact out _ _ (by rw[hq,h1,h2,h3,hz,h4];simp)
    | false=>
     simp -dsimp -implicitDefEqProofs only[aw,ac,V.copy,V.lend,V.lend1,V.cells,V.boxable,over,al,ah,ae,ai,V.plain,Nat.reduceLeDiff,cond_true,cond_false,implies_true,eq_self,ne_eq,reduceIte,reduceCtorEq,Nat.reduceBEq,Nat.reduceLT,Nat.reduceEqDiff,Nat.reduceAdd,Nat.reduceSub,Nat.reduceMul];exact out _ _ (by rw[hq,h1,h2,h3,hz];simp)
   ·simp -dsimp -implicitDefEqProofs only[aw,ac,V.copy,V.lend,V.lend1,V.cells,V.boxable,over,al,ah,ae,ai,V.plain,Nat.reduceLeDiff,cond_true,cond_false,implies_true,eq_self,ne_eq,reduceIte,reduceCtorEq,Nat.reduceBEq,Nat.reduceLT,Nat.reduceEqDiff,Nat.reduceAdd,Nat.reduceSub,Nat.reduceMul];exact out _ _ (by rw[hq,h1,h2,h3];simp)
  ·simp -dsimp -implicitDefEqProofs only[aw,ac,V.copy,V.lend,V.lend1,V.cells,V.boxable,over,al,ah,ae,ai,V.plain,Nat.reduceLeDiff,cond_true,cond_false,implies_true,eq_self,ne_eq,reduceIte,reduceCtorEq,Nat.reduceBEq,Nat.reduceLT,Nat.reduceEqDiff,Nat.reduceAdd,Nat.reduceSub,Nat.reduceMul];exact out _ _ (by rw[hq,h1,h2];simp)
 ·simp -dsimp -implicitDefEqProofs only[aw,ac,V.copy,V.lend,V.lend1,V.cells,V.boxable,over,al,ah,ae,ai,V.plain,Nat.reduceLeDiff,cond_true,cond_false,implies_true,eq_self,ne_eq,reduceIte,reduceCtorEq,Nat.reduceBEq,Nat.reduceLT,Nat.reduceEqDiff,Nat.reduceAdd,Nat.reduceSub,Nat.reduceMul];exact out _ _ (by rw[hq,h1];simp)
def cB(p:Pr):Int:=
 if a8 p.name=false then 7
 else if p.plain=true∧(p.over=true∨ew p.cond=false)then 1
 else if p.plain=false∧cq p.cond≠0 then cq p.cond
 else cq p.then_
set_option maxHeartbeats 1000000 in
theorem ky(p:Pr)(h1:bq p.cond≤1000000)(h2:bq p.then_≤1000000)(σ:List (List V)):Fun G 25 [vpr p] σ (aG (.d (ao (cB p))) σ):=by
 have hq:cB p=cB p:=rfl
 conv at hq=>rhs;unfold cB
 refine aD Tryz.func25 k25 (by simp only[cu];rfl) fun hb hw=>?_;unfold c25
 have out:∀(n:Int) (l:List (List V)),cB p=n→fin σ.length Lo (aG (.d (ao (cB p))) σ) .ret [(2,.d (.lit (.int .i64 n)))] (σ++l):=fun n l h=>by
  rw[h];exact am hb rfl rfl List.take_left ⟨rfl,rfl⟩
 have hsame:∀σ,Fun G 50 [vts p.cond,vts zT] σ (aG (aA (ew p.cond)) σ):=fun σ=>by rw[←pi];exact yw p.cond zT h1 σ
 have hz:vts zT=.agg [.d (ao 0),.d (ao 0),.d (ao 0),.d (ao 0),.d (ao 0),.d (an ⟨#[]⟩),.d (.sl []),.d (an ⟨#[]⟩),.d (.sl [])]:=by rw[ax];rfl
 simp only[hz]at hsame;simp -dsimp -implicitDefEqProofs only[aw,ac,V.copy,V.lend,V.lend1,V.cells,V.boxable,over,al,ah,ae,ai,V.plain,Nat.reduceLeDiff,cond_true,cond_false,implies_true,eq_self,ne_eq,reduceIte,reduceCtorEq,Nat.reduceBEq,Nat.reduceLT,Nat.reduceEqDiff,Nat.reduceAdd,Nat.reduceSub,Nat.reduceMul,cu];refine aq (m5 p.name _) ?_;cases hn:a8 p.name with
 | false=>
  rw[if_pos hn]at hq;simp -dsimp -implicitDefEqProofs only[aw,ac,V.copy,V.lend,V.lend1,V.cells,V.boxable,over,al,ah,ae,ai,V.plain,Nat.reduceLeDiff,cond_true,cond_false,implies_true,eq_self,ne_eq,reduceIte,reduceCtorEq,Nat.reduceBEq,Nat.reduceLT,Nat.reduceEqDiff,Nat.reduceAdd,Nat.reduceSub,Nat.reduceMul];exact out 7 _ hq
 | true=>
 rw[if_neg (by rw[hn];simp)]at hq;cases hp:p.plain with
 | true=>
  rw[hp]at hq;cases ho:p.over with
  | true=>
   rw[if_pos ⟨rfl,.inl ho⟩]at hq;simp -dsimp -implicitDefEqProofs only[aw,ac,V.copy,V.lend,V.lend1,V.cells,V.boxable,over,al,ah,ae,ai,V.plain,Nat.reduceLeDiff,cond_true,cond_false,implies_true,eq_self,ne_eq,reduceIte,reduceCtorEq,Nat.reduceBEq,Nat.reduceLT,Nat.reduceEqDiff,Nat.reduceAdd,Nat.reduceSub,Nat.reduceMul];exact out 1 _ hq
  | false=>
   simp -dsimp -implicitDefEqProofs only[aw,ac,V.copy,V.lend,V.lend1,V.cells,V.boxable,over,al,ah,ae,ai,V.plain,Nat.reduceLeDiff,cond_true,cond_false,implies_true,eq_self,ne_eq,reduceIte,reduceCtorEq,Nat.reduceBEq,Nat.reduceLT,Nat.reduceEqDiff,Nat.reduceAdd,Nat.reduceSub,Nat.reduceMul];refine aq (by simpa only[ax]using hsame _) ?_;cases he:ew p.cond with
   | false=>
    rw[if_pos ⟨rfl,.inr he⟩]at hq;simp -dsimp -implicitDefEqProofs only[aw,ac,V.copy,V.lend,V.lend1,V.cells,V.boxable,over,al,ah,ae,ai,V.plain,Nat.reduceLeDiff,cond_true,cond_false,implies_true,eq_self,ne_eq,reduceIte,reduceCtorEq,Nat.reduceBEq,Nat.reduceLT,Nat.reduceEqDiff,Nat.reduceAdd,Nat.reduceSub,Nat.reduceMul];exact out 1 _ hq
   | true=>
    rw[if_neg (by rw[ho,he];simp),if_neg (by simp)]at hq;simp -dsimp -implicitDefEqProofs only[aw,ac,V.copy,V.lend,V.lend1,V.cells,V.boxable,over,al,ah,ae,ai,V.plain,Nat.reduceLeDiff,cond_true,cond_false,implies_true,eq_self,ne_eq,reduceIte,reduceCtorEq,Nat.reduceBEq,Nat.reduceLT,Nat.reduceEqDiff,Nat.reduceAdd,Nat.reduceSub,Nat.reduceMul];refine aq (by simpa only[ax]using fj p.then_ h2 _) ?_;simp -dsimp -implicitDefEqProofs only[aw,ac,V.copy,V.lend,V.lend1,V.cells,V.boxable,over,al,ah,ae,ai,V.plain,Nat.reduceLeDiff,cond_true,cond_false,implies_true,eq_self,ne_eq,reduceIte,reduceCtorEq,Nat.reduceBEq,Nat.reduceLT,Nat.reduceEqDiff,Nat.reduceAdd,Nat.reduceSub,Nat.reduceMul];exact out _ _ hq
 | false=>
  rw[if_neg (by rw[hp];simp)]at hq;simp -dsimp -implicitDefEqProofs only[aw,ac,V.copy,V.lend,V.lend1,V.cells,V.boxable,over,al,ah,ae,ai,V.plain,Nat.reduceLeDiff,cond_true,cond_false,implies_true,eq_self,ne_eq,reduceIte,reduceCtorEq,Nat.reduceBEq,Nat.reduceLT,Nat.reduceEqDiff,Nat.reduceAdd,Nat.reduceSub,Nat.reduceMul];refine aq (by simpa only[ax]using fj p.cond h1 _) ?_;by_cases h0:cq p.cond=0
  ·rw[if_neg (by simp[h0])]at hq;simp -dsimp -implicitDefEqProofs only[aw,ac,V.copy,V.lend,V.lend1,V.cells,V.boxable,over,al,ah,ae,ai,V.plain,Nat.reduceLeDiff,cond_true,cond_false,implies_true,eq_self,ne_eq,reduceIte,reduceCtorEq,Nat.reduceBEq,Nat.reduceLT,Nat.reduceEqDiff,Nat.reduceAdd,Nat.reduceSub,Nat.reduceMul,h0,Int.reduceEq,decide_true,decide_false];refine aq (by simpa only[ax]using fj p.then_ h2 _) ?_;simp -dsimp -implicitDefEqProofs only[aw,ac,V.copy,V.lend,V.lend1,V.cells,V.boxable,over,al,ah,ae,ai,V.plain,Nat.reduceLeDiff,cond_true,cond_false,implies_true,eq_self,ne_eq,reduceIte,reduceCtorEq,Nat.reduceBEq,Nat.reduceLT,Nat.reduceEqDiff,Nat.reduceAdd,Nat.reduceSub,Nat.reduceMul];exact out _ _ hq
  ·rw[if_pos ⟨hp,h0⟩]at hq;simp -dsimp -implicitDefEqProofs only[aw,ac,V.copy,V.lend,V.lend1,V.cells,V.boxable,over,al,ah,ae,ai,V.plain,Nat.reduceLeDiff,cond_true,cond_false,implies_true,eq_self,ne_eq,reduceIte,reduceCtorEq,Nat.reduceBEq,Nat.reduceLT,Nat.reduceEqDiff,Nat.reduceAdd,Nat.reduceSub,Nat.reduceMul,decide_eq_false h0];exact out _ _ hq
set_option maxHeartbeats 1000000 in
theorem jB(p:Pr)(h1:bq p.cond≤1000000)(h2:bq p.then_≤1000000)(σ:List (List V)):Fun G 18 [vpr p] σ (aG (.d (ao (cB p))) σ):=by
 have hq:cB p=cB p:=rfl
 conv at hq=>rhs;unfold cB
 refine aD Tryz.func18 k18 (by simp only[cu];rfl) fun hb hw=>?_;unfold c18
 have out:∀(n:Int) (l:List (List V)),cB p=n→fin σ.length JR (aG (.d (ao (cB p))) σ) .ret [(2,.d (.lit (.int .i64 n)))] (σ++l):=fun n l h=>by
  rw[h];exact am hb rfl rfl List.take_left ⟨rfl,rfl⟩
 simp -dsimp -implicitDefEqProofs only[aw,ac,V.copy,V.lend,V.lend1,V.cells,V.boxable,over,al,ah,ae,ai,V.plain,Nat.reduceLeDiff,cond_true,cond_false,implies_true,eq_self,ne_eq,reduceIte,reduceCtorEq,Nat.reduceBEq,Nat.reduceLT,Nat.reduceEqDiff,Nat.reduceAdd,Nat.reduceSub,Nat.reduceMul,cu];refine aq (mO p.name _) ?_;cases hn:a8 p.name with
 | false=>
  rw[if_pos hn]at hq;simp -dsimp -implicitDefEqProofs only[aw,ac,V.copy,V.lend,V.lend1,V.cells,V.boxable,over,al,ah,ae,ai,V.plain,Nat.reduceLeDiff,cond_true,cond_false,implies_true,eq_self,ne_eq,reduceIte,reduceCtorEq,Nat.reduceBEq,Nat.reduceLT,Nat.reduceEqDiff,Nat.reduceAdd,Nat.reduceSub,Nat.reduceMul];exact out 7 _ hq
 | true=>
 rw[if_neg (by rw[hn];simp)]at hq;cases hp:p.plain with
 | true=>
  rw[hp]at hq;cases ho:p.over with
  | true=>
   rw[if_pos ⟨rfl,.inl ho⟩]at hq;simp -dsimp -implicitDefEqProofs only[aw,ac,V.copy,V.lend,V.lend1,V.cells,V.boxable,over,al,ah,ae,ai,V.plain,Nat.reduceLeDiff,cond_true,cond_false,implies_true,eq_self,ne_eq,reduceIte,reduceCtorEq,Nat.reduceBEq,Nat.reduceLT,Nat.reduceEqDiff,Nat.reduceAdd,Nat.reduceSub,Nat.reduceMul];exact out 1 _ hq
  | false=>
   simp -dsimp -implicitDefEqProofs only[aw,ac,V.copy,V.lend,V.lend1,V.cells,V.boxable,over,al,ah,ae,ai,V.plain,Nat.reduceLeDiff,cond_true,cond_false,implies_true,eq_self,ne_eq,reduceIte,reduceCtorEq,Nat.reduceBEq,Nat.reduceLT,Nat.reduceEqDiff,Nat.reduceAdd,Nat.reduceSub,Nat.reduceMul];refine aq (by simpa only[ax]using yY p.cond _) ?_;cases he:ew p.cond with
   | false=>
    rw[if_pos ⟨rfl,.inr he⟩]at hq;simp -dsimp -implicitDefEqProofs only[aw,ac,V.copy,V.lend,V.lend1,V.cells,V.boxable,over,al,ah,ae,ai,V.plain,Nat.reduceLeDiff,cond_true,cond_false,implies_true,eq_self,ne_eq,reduceIte,reduceCtorEq,Nat.reduceBEq,Nat.reduceLT,Nat.reduceEqDiff,Nat.reduceAdd,Nat.reduceSub,Nat.reduceMul];exact out 1 _ hq
   | true=>
    rw[if_neg (by rw[ho,he];simp),if_neg (by simp)]at hq;simp -dsimp -implicitDefEqProofs only[aw,ac,V.copy,V.lend,V.lend1,V.cells,V.boxable,over,al,ah,ae,ai,V.plain,Nat.reduceLeDiff,cond_true,cond_false,implies_true,eq_self,ne_eq,reduceIte,reduceCtorEq,Nat.reduceBEq,Nat.reduceLT,Nat.reduceEqDiff,Nat.reduceAdd,Nat.reduceSub,Nat.reduceMul];refine aq (by simpa only[ax]using iH p.then_ h2 _) ?_;simp -dsimp -implicitDefEqProofs only[aw,ac,V.copy,V.lend,V.lend1,V.cells,V.boxable,over,al,ah,ae,ai,V.plain,Nat.reduceLeDiff,cond_true,cond_false,implies_true,eq_self,ne_eq,reduceIte,reduceCtorEq,Nat.reduceBEq,Nat.reduceLT,Nat.reduceEqDiff,Nat.reduceAdd,Nat.reduceSub,Nat.reduceMul];exact out _ _ hq
 | false=>
  rw[if_neg (by rw[hp];simp)]at hq;simp -dsimp -implicitDefEqProofs only[aw,ac,V.copy,V.lend,V.lend1,V.cells,V.boxable,over,al,ah,ae,ai,V.plain,Nat.reduceLeDiff,cond_true,cond_false,implies_true,eq_self,ne_eq,reduceIte,reduceCtorEq,Nat.reduceBEq,Nat.reduceLT,Nat.reduceEqDiff,Nat.reduceAdd,Nat.reduceSub,Nat.reduceMul];refine aq (by simpa only[ax]using iH p.cond h1 _) ?_;by_cases h0:cq p.cond=0
  ·rw[if_neg (by simp[h0])]at hq;simp -dsimp -implicitDefEqProofs only[aw,ac,V.copy,V.lend,V.lend1,V.cells,V.boxable,over,al,ah,ae,ai,V.plain,Nat.reduceLeDiff,cond_true,cond_false,implies_true,eq_self,ne_eq,reduceIte,reduceCtorEq,Nat.reduceBEq,Nat.reduceLT,Nat.reduceEqDiff,Nat.reduceAdd,Nat.reduceSub,Nat.reduceMul,h0,Int.reduceEq,decide_true,decide_false];refine aq (by simpa only[ax]using iH p.then_ h2 _) ?_;simp -dsimp -implicitDefEqProofs only[aw,ac,V.copy,V.lend,V.lend1,V.cells,V.boxable,over,al,ah,ae,ai,V.plain,Nat.reduceLeDiff,cond_true,cond_false,implies_true,eq_self,ne_eq,reduceIte,reduceCtorEq,Nat.reduceBEq,Nat.reduceLT,Nat.reduceEqDiff,Nat.reduceAdd,Nat.reduceSub,Nat.reduceMul];exact out _ _ hq
  ·rw[if_pos ⟨hp,h0⟩]at hq;simp -dsimp -implicitDefEqProofs only[aw,ac,V.copy,V.lend,V.lend1,V.cells,V.boxable,over,al,ah,ae,ai,V.plain,Nat.reduceLeDiff,cond_true,cond_false,implies_true,eq_self,ne_eq,reduceIte,reduceCtorEq,Nat.reduceBEq,Nat.reduceLT,Nat.reduceEqDiff,Nat.reduceAdd,Nat.reduceSub,Nat.reduceMul,decide_eq_false h0];exact out _ _ hq
end Go.Proofs.YthekkgfmagliiaaGreatDoor
