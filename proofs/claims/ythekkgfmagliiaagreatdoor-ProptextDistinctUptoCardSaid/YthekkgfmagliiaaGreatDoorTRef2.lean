import Derived.Test.YthekkgfmagliiaaGreatDoorTRef1
set_option linter.unusedVariables false
set_option linter.unusedSimpArgs false
set_option linter.unusedSectionVars false
namespace Go.Proofs.YthekkgfmagliiaaGreatDoor
open Go.RowKit
def nmB(s:Ts):Bool:=decide (s.name=⟨#[]⟩)
def p5(s:Ts):Bool:=(decide (0≤s.lo)&&decide (s.lo≤s.hi))&&decide (s.hi≤16)
def mL(s:Ts):Bool:=fO s.ex&&nmB s
def eR(s:Ts):Bool:=
 if s.op=1 then(decide ((s.args.length:Int)=0)&&dv s)&&nmB s
 else if s.op=2 then(decide ((s.args.length:Int)=2)&&p5 s)&&mL s
 else if s.op=3 then((decide ((s.args.length:Int)=1)&&p5 s)&&decide (1≤s.lo))&&mL s
 else if s.op=4∨s.op=5 then((decide (2≤(s.args.length:Int))&&decide ((s.args.length:Int)≤8))&&dv s)&&mL s
 else if s.op=6 then decide ((s.args.length:Int)=1)&&dv s
 else if s.op=7 then(decide ((s.args.length:Int)=1)&&dv s)&&nmB s
 else false
theorem og(s:Ts):eR s=(eL s&&((ch s.op||fO s.ex)&&(decide (s.op=6)||nmB s))):=by
 have c0:decide ((s.args.length:Int)=0)=decide (s.args.length=0):=by congr 1;apply propext;omega
 have c1:decide ((s.args.length:Int)=1)=decide (s.args.length=1):=by congr 1;apply propext;omega
 have c2:decide ((s.args.length:Int)=2)=decide (s.args.length=2):=by congr 1;apply propext;omega
 have c3:(decide (2≤(s.args.length:Int))&&decide ((s.args.length:Int)≤8))=decide (2≤s.args.length∧s.args.length≤8):=by
  rw[←Bool.decide_and];congr 1;apply propext;omega
 unfold eR eL ch p5 mL gU;rw[c0,c1,c2,c3];generalize fO s.ex=z;generalize nmB s=m;generalize dv s=p;by_cases o1:s.op=1
 ·simp[o1,Bool.and_assoc]
 by_cases o2:s.op=2
 ·simp[o2,Bool.and_assoc]
 by_cases o3:s.op=3
 ·simp only[o3,Int.reduceEq,if_true,if_false,decide_false,decide_true,Bool.false_or,Bool.or_false];by_cases g:1≤s.lo
  ·rw[decide_eq_true g,decide_eq_true (show 0≤s.lo by omega)];simp[Bool.and_assoc]
  ·rw[decide_eq_false g];simp
 by_cases o4:s.op=4∨s.op=5
 ·have e1:decide (s.op=1)=false:=decide_eq_false o1;have e6:decide (s.op=6)=false:=decide_eq_false (by omega);have e7:decide (s.op=7)=false:=decide_eq_false (by omega);rw[if_neg o1,if_neg o2,if_neg o3,if_pos o4,if_neg o1,if_neg o2,if_neg o3,if_pos o4,e1,e6,e7];simp[Bool.and_assoc]
 rw[if_neg o1,if_neg o2,if_neg o3,if_neg o4,if_neg o1,if_neg o2,if_neg o3,if_neg o4];by_cases o6:s.op=6
 ·simp[o6]
 by_cases o7:s.op=7
 ·simp[o7,Bool.and_assoc]
 ·simp[o6,o7]
set_option maxHeartbeats 1000000 in
theorem wG(s:Ts)(hs:s.args.length≤1000000)(σ:List (List V)):Fun G 75 [vts s] σ (aG (aA (eR s)) σ):=by
 have hsh:eR s=eR s:=rfl
 conv at hsh=>rhs;unfold eR
 refine aD Tryz.func75 k75 (by simp only[ax];rfl) fun hb hw=>?_;unfold c75;refine eK [(1,.ptr σ.length 0)] (σ++[fS s]) ?_ ?_
 ·simp -dsimp -implicitDefEqProofs only[aw,ac,V.copy,V.lend,V.lend1,V.cells,V.boxable,over,al,ah,ae,ai,V.plain,Nat.reduceLeDiff,cond_true,cond_false,implies_true,eq_self,ne_eq,reduceIte,reduceCtorEq,Nat.reduceBEq,Nat.reduceLT,Nat.reduceEqDiff,Nat.reduceAdd,Nat.reduceSub,Nat.reduceMul,ax]
 refine eK [(1,.ptr σ.length 0),(3,aW .i64 s.args.length)] (σ++[fS s]) ?_ ?_
 ·simp -dsimp -implicitDefEqProofs only[aw,ac,V.copy,V.lend,V.lend1,V.cells,V.boxable,over,al,ah,ae,ai,V.plain,Nat.reduceLeDiff,cond_true,cond_false,implies_true,eq_self,ne_eq,reduceIte,reduceCtorEq,Nat.reduceBEq,Nat.reduceLT,Nat.reduceEqDiff,Nat.reduceAdd,Nat.reduceSub,Nat.reduceMul]
 refine eK [(1,.ptr σ.length 0),(3,aW .i64 s.args.length),(4,aA (p5 s))] (σ++[fS s]) ?_ ?_
 ·simp -dsimp -implicitDefEqProofs only[aw,ac,V.copy,V.lend,V.lend1,V.cells,V.boxable,over,al,ah,ae,ai,V.plain,Nat.reduceLeDiff,cond_true,cond_false,implies_true,eq_self,ne_eq,reduceIte,reduceCtorEq,Nat.reduceBEq,Nat.reduceLT,Nat.reduceEqDiff,Nat.reduceAdd,Nat.reduceSub,Nat.reduceMul];refine aF (fun h1=>?_) (fun h1=>?_)
  ·simp -dsimp -implicitDefEqProofs only[aw,ac,V.copy,V.lend,V.lend1,V.cells,V.boxable,over,al,ah,ae,ai,V.plain,Nat.reduceLeDiff,cond_true,cond_false,implies_true,eq_self,ne_eq,reduceIte,reduceCtorEq,Nat.reduceBEq,Nat.reduceLT,Nat.reduceEqDiff,Nat.reduceAdd,Nat.reduceSub,Nat.reduceMul];refine aF (fun h2=>?_) (fun h2=>?_)
   ·simp -dsimp -implicitDefEqProofs only[aw,ac,V.copy,V.lend,V.lend1,V.cells,V.boxable,over,al,ah,ae,ai,V.plain,Nat.reduceLeDiff,cond_true,cond_false,implies_true,eq_self,ne_eq,reduceIte,reduceCtorEq,Nat.reduceBEq,Nat.reduceLT,Nat.reduceEqDiff,Nat.reduceAdd,Nat.reduceSub,Nat.reduceMul];simp[p5,h1,h2]
   ·simp -dsimp -implicitDefEqProofs only[aw,ac,V.copy,V.lend,V.lend1,V.cells,V.boxable,over,al,ah,ae,ai,V.plain,Nat.reduceLeDiff,cond_true,cond_false,implies_true,eq_self,ne_eq,reduceIte,reduceCtorEq,Nat.reduceBEq,Nat.reduceLT,Nat.reduceEqDiff,Nat.reduceAdd,Nat.reduceSub,Nat.reduceMul];simp[p5,h1,h2]
  ·simp -dsimp -implicitDefEqProofs only[aw,ac,V.copy,V.lend,V.lend1,V.cells,V.boxable,over,al,ah,ae,ai,V.plain,Nat.reduceLeDiff,cond_true,cond_false,implies_true,eq_self,ne_eq,reduceIte,reduceCtorEq,Nat.reduceBEq,Nat.reduceLT,Nat.reduceEqDiff,Nat.reduceAdd,Nat.reduceSub,Nat.reduceMul];simp[p5,h1]
 refine eK [(1,.ptr σ.length 0),(3,aW .i64 s.args.length),(4,aA (p5 s)),(5,aA (dv s))] (σ++[fS s]) ?_ ?_
 ·simp -dsimp -implicitDefEqProofs only[aw,ac,V.copy,V.lend,V.lend1,V.cells,V.boxable,over,al,ah,ae,ai,V.plain,Nat.reduceLeDiff,cond_true,cond_false,implies_true,eq_self,ne_eq,reduceIte,reduceCtorEq,Nat.reduceBEq,Nat.reduceLT,Nat.reduceEqDiff,Nat.reduceAdd,Nat.reduceSub,Nat.reduceMul];refine aF (fun h1=>?_) (fun h1=>?_)
  ·simp -dsimp -implicitDefEqProofs only[aw,ac,V.copy,V.lend,V.lend1,V.cells,V.boxable,over,al,ah,ae,ai,V.plain,Nat.reduceLeDiff,cond_true,cond_false,implies_true,eq_self,ne_eq,reduceIte,reduceCtorEq,Nat.reduceBEq,Nat.reduceLT,Nat.reduceEqDiff,Nat.reduceAdd,Nat.reduceSub,Nat.reduceMul];simp[dv,h1]
  ·simp -dsimp -implicitDefEqProofs only[aw,ac,V.copy,V.lend,V.lend1,V.cells,V.boxable,over,al,ah,ae,ai,V.plain,Nat.reduceLeDiff,cond_true,cond_false,implies_true,eq_self,ne_eq,reduceIte,reduceCtorEq,Nat.reduceBEq,Nat.reduceLT,Nat.reduceEqDiff,Nat.reduceAdd,Nat.reduceSub,Nat.reduceMul];simp[dv,h1]
 refine eK [(1,.ptr σ.length 0),(3,aW .i64 s.args.length),(4,aA (p5 s)),(5,aA (dv s)),(6,aA (mL s))] (σ++[fS s]) ?_ ?_
 ·simp -dsimp -implicitDefEqProofs only[aw,ac,V.copy,V.lend,V.lend1,V.cells,V.boxable,over,al,ah,ae,ai,V.plain,Nat.reduceLeDiff,cond_true,cond_false,implies_true,eq_self,ne_eq,reduceIte,reduceCtorEq,Nat.reduceBEq,Nat.reduceLT,Nat.reduceEqDiff,Nat.reduceAdd,Nat.reduceSub,Nat.reduceMul];refine aq (by simpa only[aR]using qO s.ex _) ?_;cases hz:fO s.ex with
  | true=>
   simp -dsimp -implicitDefEqProofs only[aw,ac,V.copy,V.lend,V.lend1,V.cells,V.boxable,over,al,ah,ae,ai,V.plain,Nat.reduceLeDiff,cond_true,cond_false,implies_true,eq_self,ne_eq,reduceIte,reduceCtorEq,Nat.reduceBEq,Nat.reduceLT,Nat.reduceEqDiff,Nat.reduceAdd,Nat.reduceSub,Nat.reduceMul];simp[mL,hz,nmB]
  | false=>
   simp -dsimp -implicitDefEqProofs only[aw,ac,V.copy,V.lend,V.lend1,V.cells,V.boxable,over,al,ah,ae,ai,V.plain,Nat.reduceLeDiff,cond_true,cond_false,implies_true,eq_self,ne_eq,reduceIte,reduceCtorEq,Nat.reduceBEq,Nat.reduceLT,Nat.reduceEqDiff,Nat.reduceAdd,Nat.reduceSub,Nat.reduceMul];simp[mL,hz]
 generalize p5 s=bB at *;generalize dv s=pB at *;generalize mL s=rB at *;have hnm:decide (s.name=⟨#[]⟩)=nmB s:=rfl;by_cases o1:s.op=1
 ·rw[if_pos o1]at hsh;simp -dsimp -implicitDefEqProofs only[aw,ac,V.copy,V.lend,V.lend1,V.cells,V.boxable,over,al,ah,ae,ai,V.plain,Nat.reduceLeDiff,cond_true,cond_false,implies_true,eq_self,ne_eq,reduceIte,reduceCtorEq,Nat.reduceBEq,Nat.reduceLT,Nat.reduceEqDiff,Nat.reduceAdd,Nat.reduceSub,Nat.reduceMul,o1,Int.reduceEq,decide_true,decide_false,hnm]
  repeat' (first|exact am hb rfl rfl List.take_left ⟨by rw[hsh];first|(simp_all;done)|(simp_all;rfl)|(simp only[*,Bool.false_and,Bool.and_false,Bool.true_and,Bool.and_true];done)|(simp only[*,Bool.false_and,Bool.and_false,Bool.true_and,Bool.and_true];rfl),rfl⟩|(refine aF (fun h=>?_) (fun h=>?_)<;>simp -dsimp -implicitDefEqProofs only[aw,ac,V.copy,V.lend,V.lend1,V.cells,V.boxable,over,al,ah,ae,ai,V.plain,Nat.reduceLeDiff,cond_true,cond_false,implies_true,eq_self,ne_eq,reduceIte,reduceCtorEq,Nat.reduceBEq,Nat.reduceLT,Nat.reduceEqDiff,Nat.reduceAdd,Nat.reduceSub,Nat.reduceMul,hnm]))
 rw[if_neg o1]at hsh;by_cases o2:s.op=2
 ·rw[if_pos o2]at hsh;simp -dsimp -implicitDefEqProofs only[aw,ac,V.copy,V.lend,V.lend1,V.cells,V.boxable,over,al,ah,ae,ai,V.plain,Nat.reduceLeDiff,cond_true,cond_false,implies_true,eq_self,ne_eq,reduceIte,reduceCtorEq,Nat.reduceBEq,Nat.reduceLT,Nat.reduceEqDiff,Nat.reduceAdd,Nat.reduceSub,Nat.reduceMul,o2,Int.reduceEq,decide_true,decide_false,hnm]
  repeat' (first|exact am hb rfl rfl List.take_left ⟨by rw[hsh];first|(simp_all;done)|(simp_all;rfl)|(simp only[*,Bool.false_and,Bool.and_false,Bool.true_and,Bool.and_true];done)|(simp only[*,Bool.false_and,Bool.and_false,Bool.true_and,Bool.and_true];rfl),rfl⟩|(refine aF (fun h=>?_) (fun h=>?_)<;>simp -dsimp -implicitDefEqProofs only[aw,ac,V.copy,V.lend,V.lend1,V.cells,V.boxable,over,al,ah,ae,ai,V.plain,Nat.reduceLeDiff,cond_true,cond_false,implies_true,eq_self,ne_eq,reduceIte,reduceCtorEq,Nat.reduceBEq,Nat.reduceLT,Nat.reduceEqDiff,Nat.reduceAdd,Nat.reduceSub,Nat.reduceMul,hnm]))
 rw[if_neg o2]at hsh;by_cases o3:s.op=3
 ·rw[if_pos o3]at hsh;simp -dsimp -implicitDefEqProofs only[aw,ac,V.copy,V.lend,V.lend1,V.cells,V.boxable,over,al,ah,ae,ai,V.plain,Nat.reduceLeDiff,cond_true,cond_false,implies_true,eq_self,ne_eq,reduceIte,reduceCtorEq,Nat.reduceBEq,Nat.reduceLT,Nat.reduceEqDiff,Nat.reduceAdd,Nat.reduceSub,Nat.reduceMul,o3,Int.reduceEq,decide_true,decide_false,hnm]
  repeat' (first|exact am hb rfl rfl List.take_left ⟨by rw[hsh];first|(simp_all;done)|(simp_all;rfl)|(simp only[*,Bool.false_and,Bool.and_false,Bool.true_and,Bool.and_true];done)|(simp only[*,Bool.false_and,Bool.and_false,Bool.true_and,Bool.and_true];rfl),rfl⟩|(refine aF (fun h=>?_) (fun h=>?_)<;>simp -dsimp -implicitDefEqProofs only[aw,ac,V.copy,V.lend,V.lend1,V.cells,V.boxable,over,al,ah,ae,ai,V.plain,Nat.reduceLeDiff,cond_true,cond_false,implies_true,eq_self,ne_eq,reduceIte,reduceCtorEq,Nat.reduceBEq,Nat.reduceLT,Nat.reduceEqDiff,Nat.reduceAdd,Nat.reduceSub,Nat.reduceMul,hnm]))
 rw[if_neg o3]at hsh;by_cases o4:s.op=4
 ·rw[if_pos (.inl o4)]at hsh;simp -dsimp -implicitDefEqProofs only[aw,ac,V.copy,V.lend,V.lend1,V.cells,V.boxable,over,al,ah,ae,ai,V.plain,Nat.reduceLeDiff,cond_true,cond_false,implies_true,eq_self,ne_eq,reduceIte,reduceCtorEq,Nat.reduceBEq,Nat.reduceLT,Nat.reduceEqDiff,Nat.reduceAdd,Nat.reduceSub,Nat.reduceMul,o4,Int.reduceEq,decide_true,decide_false,hnm]
  repeat' (first|exact am hb rfl rfl List.take_left ⟨by rw[hsh];first|(simp_all;done)|(simp_all;rfl)|(simp only[*,Bool.false_and,Bool.and_false,Bool.true_and,Bool.and_true];done)|(simp only[*,Bool.false_and,Bool.and_false,Bool.true_and,Bool.and_true];rfl),rfl⟩|(refine aF (fun h=>?_) (fun h=>?_)<;>simp -dsimp -implicitDefEqProofs only[aw,ac,V.copy,V.lend,V.lend1,V.cells,V.boxable,over,al,ah,ae,ai,V.plain,Nat.reduceLeDiff,cond_true,cond_false,implies_true,eq_self,ne_eq,reduceIte,reduceCtorEq,Nat.reduceBEq,Nat.reduceLT,Nat.reduceEqDiff,Nat.reduceAdd,Nat.reduceSub,Nat.reduceMul,hnm]))
 by_cases o5:s.op=5
 ·rw[if_pos (.inr o5)]at hsh;simp -dsimp -implicitDefEqProofs only[aw,ac,V.copy,V.lend,V.lend1,V.cells,V.boxable,over,al,ah,ae,ai,V.plain,Nat.reduceLeDiff,cond_true,cond_false,implies_true,eq_self,ne_eq,reduceIte,reduceCtorEq,Nat.reduceBEq,Nat.reduceLT,Nat.reduceEqDiff,Nat.reduceAdd,Nat.reduceSub,Nat.reduceMul,o5,Int.reduceEq,decide_true,decide_false,hnm]
  repeat' (first|exact am hb rfl rfl List.take_left ⟨by rw[hsh];first|(simp_all;done)|(simp_all;rfl)|(simp only[*,Bool.false_and,Bool.and_false,Bool.true_and,Bool.and_true];done)|(simp only[*,Bool.false_and,Bool.and_false,Bool.true_and,Bool.and_true];rfl),rfl⟩|(refine aF (fun h=>?_) (fun h=>?_)<;>simp -dsimp -implicitDefEqProofs only[aw,ac,V.copy,V.lend,V.lend1,V.cells,V.boxable,over,al,ah,ae,ai,V.plain,Nat.reduceLeDiff,cond_true,cond_false,implies_true,eq_self,ne_eq,reduceIte,reduceCtorEq,Nat.reduceBEq,Nat.reduceLT,Nat.reduceEqDiff,Nat.reduceAdd,Nat.reduceSub,Nat.reduceMul,hnm]))
 rw[if_neg (by omega)]at hsh;by_cases o6:s.op=6
 ·rw[if_pos o6]at hsh;simp -dsimp -implicitDefEqProofs only[aw,ac,V.copy,V.lend,V.lend1,V.cells,V.boxable,over,al,ah,ae,ai,V.plain,Nat.reduceLeDiff,cond_true,cond_false,implies_true,eq_self,ne_eq,reduceIte,reduceCtorEq,Nat.reduceBEq,Nat.reduceLT,Nat.reduceEqDiff,Nat.reduceAdd,Nat.reduceSub,Nat.reduceMul,o6,Int.reduceEq,decide_true,decide_false,hnm]
  repeat' (first|exact am hb rfl rfl List.take_left ⟨by rw[hsh];first|(simp_all;done)|(simp_all;rfl)|(simp only[*,Bool.false_and,Bool.and_false,Bool.true_and,Bool.and_true];done)|(simp only[*,Bool.false_and,Bool.and_false,Bool.true_and,Bool.and_true];rfl),rfl⟩|(refine aF (fun h=>?_) (fun h=>?_)<;>simp -dsimp -implicitDefEqProofs only[aw,ac,V.copy,V.lend,V.lend1,V.cells,V.boxable,over,al,ah,ae,ai,V.plain,Nat.reduceLeDiff,cond_true,cond_false,implies_true,eq_self,ne_eq,reduceIte,reduceCtorEq,Nat.reduceBEq,Nat.reduceLT,Nat.reduceEqDiff,Nat.reduceAdd,Nat.reduceSub,Nat.reduceMul,hnm]))
 rw[if_neg o6]at hsh;by_cases o7:s.op=7
 ·rw[if_pos o7]at hsh;simp -dsimp -implicitDefEqProofs only[aw,ac,V.copy,V.lend,V.lend1,V.cells,V.boxable,over,al,ah,ae,ai,V.plain,Nat.reduceLeDiff,cond_true,cond_false,implies_true,eq_self,ne_eq,reduceIte,reduceCtorEq,Nat.reduceBEq,Nat.reduceLT,Nat.reduceEqDiff,Nat.reduceAdd,Nat.reduceSub,Nat.reduceMul,o7,Int.reduceEq,decide_true,decide_false,hnm]
  repeat' (first|exact am hb rfl rfl List.take_left ⟨by rw[hsh];first|(simp_all;done)|(simp_all;rfl)|(simp only[*,Bool.false_and,Bool.and_false,Bool.true_and,Bool.and_true];done)|(simp only[*,Bool.false_and,Bool.and_false,Bool.true_and,Bool.and_true];rfl),rfl⟩|(refine aF (fun h=>?_) (fun h=>?_)<;>simp -dsimp -implicitDefEqProofs only[aw,ac,V.copy,V.lend,V.lend1,V.cells,V.boxable,over,al,ah,ae,ai,V.plain,Nat.reduceLeDiff,cond_true,cond_false,implies_true,eq_self,ne_eq,reduceIte,reduceCtorEq,Nat.reduceBEq,Nat.reduceLT,Nat.reduceEqDiff,Nat.reduceAdd,Nat.reduceSub,Nat.reduceMul,hnm]))
 rw[if_neg o7]at hsh;simp -dsimp -implicitDefEqProofs only[aw,ac,V.copy,V.lend,V.lend1,V.cells,V.boxable,over,al,ah,ae,ai,V.plain,Nat.reduceLeDiff,cond_true,cond_false,implies_true,eq_self,ne_eq,reduceIte,reduceCtorEq,Nat.reduceBEq,Nat.reduceLT,Nat.reduceEqDiff,Nat.reduceAdd,Nat.reduceSub,Nat.reduceMul,decide_eq_false o1,decide_eq_false o2,decide_eq_false o3,decide_eq_false o4,decide_eq_false o5,decide_eq_false o6,decide_eq_false o7];exact am hb rfl rfl List.take_left ⟨by rw[hsh];rfl,rfl⟩
theorem DV{C:Cx}{f:FuncId}{args:List V}{σ:List (List V)}{T k:Nat}{rows:List (List D)}(h:Fun C f args σ (aG (.own T k rows) σ)):Fun C f args σ (aG (.d (.sl rows)) σ):=
 ⟨h.1,fun M bm tk pr w vs hG hI ht hl hr=>(h.2 M bm tk pr w vs hG hI ht hl hr).mono fun e w' ⟨M',bm',tk',σ',o,⟨h1,h2⟩,h3,h4,h5⟩=>by
   subst h1;obtain⟨u,g1,g2⟩:=h5.1 _ rfl;refine⟨M',bm',tk',σ',.ret (.d (.sl rows)),⟨rfl,h2⟩,h3,h4,fun v e=>?_,fun v e=>by cases e⟩;cases e;have gr:=g2.rep;cases gr with
   | own hd=>exact⟨u,g1,.d hd,fun _ _ _ e=>by cases e⟩⟩
theorem uS{s:Ts}(h1:tsz s≤100)(h2:tdp s≤8):0≤fH s 100 8:=by
 unfold fH;rw[if_pos ⟨by omega,by omega⟩];omega
theorem BS{s:Ts}(h:8<tdp s∨100<tsz s):fH s 100 8 = -1:=by
 unfold fH;rw[if_neg (by omega)]
theorem lD{s a:Ts}(h:a∈s.args):tsz a<tsz s:=by
 rw[mJ s]
 have:∀l:List Ts,a∈l→tsz a≤(l.map tsz).sum:=by
  intro l
  induction l with
  | nil=>intro h;cases h
  | cons b r ih=>
   intro h;simp only[List.map_cons,List.sum_cons];rcases List.mem_cons.1 h with e|e
   ·subst e;omega
   ·have:=ih e;omega
 have:=this s.args h;omega
theorem oz{s a:Ts}(h:a∈s.args):tdp a<tdp s:=by
 have:=ux h;rw[rS s];omega
theorem vU{l:List Ts}{j:Nat}(h:j<l.length):gV (l.take (j+1))=gV (l.take j)++fP l[j]:=by
 rw[kA,kA,List.take_add_one,List.getElem?_eq_getElem h,List.map_append,List.flatten_append];show _++(fP l[j]++[])=_;rw[List.append_nil]
theorem pE(s:Ts):(fP s).length≤tsz s:=by
 rw[(qS s).1];exact sk s
theorem El(s:Ts):∀(out:List ByteArray),bq s≤1000000→tsz s≤100→tdp s≤8→out.length+tsz s≤1000000→∀σ,jx G 78 [vts s] 9 1 (out.map fun s=>[an s]) [] σ (aG (my (out++fP s)) σ):=by
 induction s using Ts.ind with
 | h s ih=>
 intro out hs h100 h8 hlen σ;have hln:=dC s;have hpl:=pE s;have hpe:=xI s;have h0:¬fH s 100 8<0:=by have:=uS h100 h8;omega
 refine j6 Tryz.func78 k78 (by simp only[ax];rfl) fun hb hw=>?_;unfold c78;refine eK [(1,my out),(2,.ptr σ.length 0)] (σ++[fS s]) ?_ ?_
 ·simp -dsimp -implicitDefEqProofs only[aw,ac,V.copy,V.lend,V.lend1,V.cells,V.boxable,over,al,ah,ae,ai,V.plain,Nat.reduceLeDiff,cond_true,cond_false,implies_true,eq_self,ne_eq,reduceIte,reduceCtorEq,Nat.reduceBEq,Nat.reduceLT,Nat.reduceEqDiff,Nat.reduceAdd,Nat.reduceSub,Nat.reduceMul,ax]
 refine eK [(1,my out),(2,.ptr σ.length 0),(8,aA false)] (σ++[fS s]) ?_ ?_
 ·simp -dsimp -implicitDefEqProofs only[aw,ac,V.copy,V.lend,V.lend1,V.cells,V.boxable,over,al,ah,ae,ai,V.plain,Nat.reduceLeDiff,cond_true,cond_false,implies_true,eq_self,ne_eq,reduceIte,reduceCtorEq,Nat.reduceBEq,Nat.reduceLT,Nat.reduceEqDiff,Nat.reduceAdd,Nat.reduceSub,Nat.reduceMul];refine aq (by simpa only[ax]using uM s 100 8 hs (by omega) (by omega) (by omega) (by omega) _) ?_;simp -dsimp -implicitDefEqProofs only[aw,ac,V.copy,V.lend,V.lend1,V.cells,V.boxable,over,al,ah,ae,ai,V.plain,Nat.reduceLeDiff,cond_true,cond_false,implies_true,eq_self,ne_eq,reduceIte,reduceCtorEq,Nat.reduceBEq,Nat.reduceLT,Nat.reduceEqDiff,Nat.reduceAdd,Nat.reduceSub,Nat.reduceMul,decide_eq_false h0]
 obtain⟨o1,ho1⟩:∃o1,o1=out++(if s.op=6 then[s.name]else[]):=⟨_,rfl⟩
 have hl1:o1.length≤out.length+1:=by rw[ho1];split<;>simp
 refine pP (fun ρ' σ'=>∃l:ak,(l=[]∨l=[(12,aA false)])∧ρ'=(1,my o1)::(2,.ptr σ.length 0)::l∧σ'=σ++[fS s]) ?_ ?_
 ·by_cases o6:s.op=6
  ·rw[if_pos o6]at ho1;simp -dsimp -implicitDefEqProofs only[aw,ac,V.copy,V.lend,V.lend1,V.cells,V.boxable,over,al,ah,ae,ai,V.plain,Nat.reduceLeDiff,cond_true,cond_false,implies_true,eq_self,ne_eq,reduceIte,reduceCtorEq,Nat.reduceBEq,Nat.reduceLT,Nat.reduceEqDiff,Nat.reduceAdd,Nat.reduceSub,Nat.reduceMul,decide_eq_true o6];refine dG (by first|omega|(simp only[List.length_map];omega)) ?_;simp -dsimp -implicitDefEqProofs only[aw,ac,V.copy,V.lend,V.lend1,V.cells,V.boxable,over,al,ah,ae,ai,V.plain,Nat.reduceLeDiff,cond_true,cond_false,implies_true,eq_self,ne_eq,reduceIte,reduceCtorEq,Nat.reduceBEq,Nat.reduceLT,Nat.reduceEqDiff,Nat.reduceAdd,Nat.reduceSub,Nat.reduceMul];first|exact⟨[],.inl rfl,by simp[ho1],rfl⟩|(simp[ho1];done)|(trace_state;fail)
  ·rw[if_neg o6,List.append_nil]at ho1;simp -dsimp -implicitDefEqProofs only[aw,ac,V.copy,V.lend,V.lend1,V.cells,V.boxable,over,al,ah,ae,ai,V.plain,Nat.reduceLeDiff,cond_true,cond_false,implies_true,eq_self,ne_eq,reduceIte,reduceCtorEq,Nat.reduceBEq,Nat.reduceLT,Nat.reduceEqDiff,Nat.reduceAdd,Nat.reduceSub,Nat.reduceMul,decide_eq_false o6];rw[ho1];first|exact⟨_,.inr rfl,rfl,rfl⟩|(simp;done)|(trace_state;fail)
 rintro ρ1 σ1 ⟨l,rfl|rfl,rfl,rfl⟩
 all_goals
  simp -dsimp -implicitDefEqProofs only[aw,ac,V.copy,V.lend,V.lend1,V.cells,V.boxable,over,al,ah,ae,ai,V.plain,Nat.reduceLeDiff,cond_true,cond_false,implies_true,eq_self,ne_eq,reduceIte,reduceCtorEq,Nat.reduceBEq,Nat.reduceLT,Nat.reduceEqDiff,Nat.reduceAdd,Nat.reduceSub,Nat.reduceMul];refine ce [1,2,5] (R:=fun(j:Nat) ρ σ'=>ρ=[(1,my (o1++gV (s.args.take j))),(2,.ptr σ.length 0),(5,aW .i64 j)]∧σ'=σ++[fS s]) s.args.length ⟨by simp[gV];rfl,rfl⟩ ?_ _;rintro j ρ' σ' hj ⟨rfl,rfl⟩;by_cases hlt:j<s.args.length
  ·have ha:=List.getElem_mem hlt;have ht:=vU hlt;have h5:tsz s=1+szs s.args:=mJ s
   have hpp:(gV (s.args.take j)).length+tsz s.args[j]≤tsz s-1:=by
    have h1:∀l:List Ts,(gV l).length≤szs l:=by
     intro l
     induction l with
     | nil=>exact Nat.zero_le _
     | cons a r ihr=>
      have:=pE a;simp only[gV,List.length_append,szs,List.map_cons,List.sum_cons]at *;omega
    have h2:=h1 (s.args.take j);have h3:=t6 hlt;have h4:=BX s.args (j+1);omega
   simp -dsimp -implicitDefEqProofs only[aw,ac,V.copy,V.lend,V.lend1,V.cells,V.boxable,over,al,ah,ae,ai,V.plain,Nat.reduceLeDiff,cond_true,cond_false,implies_true,eq_self,ne_eq,reduceIte,reduceCtorEq,Nat.reduceBEq,Nat.reduceLT,Nat.reduceEqDiff,Nat.reduceAdd,Nat.reduceSub,Nat.reduceMul,Int.ofNat_lt,hlt,decide_true,List.getElem?_eq_getElem hlt,bP s.args[j]];refine ow (by simpa only[ax]using ih s.args[j] ha (o1++gV (s.args.take j)) (by have:=di ha;omega) (by have:=lD ha;omega) (by have:=oz ha;omega) (by rw[List.length_append];omega) _) ?_
   simp -dsimp -implicitDefEqProofs only[aw,ac,V.copy,V.lend,V.lend1,V.cells,V.boxable,over,al,ah,ae,ai,V.plain,Nat.reduceLeDiff,cond_true,cond_false,implies_true,eq_self,ne_eq,reduceIte,reduceCtorEq,Nat.reduceBEq,Nat.reduceLT,Nat.reduceEqDiff,Nat.reduceAdd,Nat.reduceSub,Nat.reduceMul,bE hlt (show s.args.length≤9223372036854775807 by omega)];refine⟨hlt,Nxt.same (by simp) (bj hb rfl) (by simp[aP,V.under]) ⟨?_,rfl⟩⟩;rw[ht,←List.append_assoc]
  ·simp -dsimp -implicitDefEqProofs only[aw,ac,V.copy,V.lend,V.lend1,V.cells,V.boxable,over,al,ah,ae,ai,V.plain,Nat.reduceLeDiff,cond_true,cond_false,implies_true,eq_self,ne_eq,reduceIte,reduceCtorEq,Nat.reduceBEq,Nat.reduceLT,Nat.reduceEqDiff,Nat.reduceAdd,Nat.reduceSub,Nat.reduceMul,Int.ofNat_lt,hlt,decide_false];rw[List.take_of_length_le (show s.args.length≤j by omega)];have e:o1++gV s.args=out++fP s:=by rw[hpe,ho1,List.append_assoc]
   exact am (v:=my (out++fP s)) hb (by rw[←e];rfl) rfl List.take_left ⟨rfl,rfl⟩
theorem Dj(s:Ts)(hs:bq s≤1000000)(h1:tsz s≤100)(h2:tdp s≤8)(σ:List (List V)):Fun G 78 [vts s,.nil] σ (aG (.d (dy (fP s))) σ):=
 DV (nu (by simpa using El s [] hs h1 h2 (by simp;omega) σ))
end Go.Proofs.YthekkgfmagliiaaGreatDoor
