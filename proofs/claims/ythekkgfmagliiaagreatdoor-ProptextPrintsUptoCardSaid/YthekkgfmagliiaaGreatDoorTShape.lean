import Derived.Test.YthekkgfmagliiaaGreatDoorTNames
set_option linter.unusedVariables false
set_option linter.unusedSimpArgs false
set_option linter.unusedSectionVars false
namespace Go.Proofs.YthekkgfmagliiaaGreatDoor
open Go.RowKit
theorem lW{C:Cx}{n0:Nat}{a b:Cd}{ρ:am}{σ:List (List V)}{Q:bM}{t:Tag Q}(R:am→List (List V)→Prop)(h1:cC C n0 a ρ σ (andThen R Q) .mk)(h2:∀ρ' σ',R ρ' σ'→cC C n0 b ρ' σ' Q .mk):cC C n0 (.seq a b) ρ σ Q t:=by
 rw[xG];refine fJ (fun e ρ' σ' h=>?_) h1;cases e with
 | normal=>exact h2 _ _ h
 | _=>exact h
def Mid(R:am→List (List V)→Prop)(ρ:am)(σ:List (List V))(_:Tag R):Prop:=R ρ σ
theorem Mid.mk{R:am→List (List V)→Prop}{ρ:am}{σ:List (List V)}(h:R ρ σ):Mid R ρ σ .mk:=h
theorem gL{C:Cx}{n0:Nat}{a b:Cd}{ρ:am}{σ:List (List V)}{Q:bM}{t:Tag Q}(R:am→List (List V)→Prop)(h1:cC C n0 a ρ σ (andThen (fun ρ σ=>Mid R ρ σ .mk) Q) .mk)(h2:∀ρ' σ',R ρ' σ'→cC C n0 b ρ' σ' Q .mk):cC C n0 (.seq a b) ρ σ Q t:=
 lW _ h1 fun ρ' σ' h=>h2 ρ' σ' h
theorem dK{C:Cx}{n0:Nat}{a b:Cd}{ρ:am}{σ:List (List V)}{Q:bM}{t:Tag Q}(ρ1:am)(σ1:List (List V))(h1:cC C n0 a ρ σ (fun e ρ' σ'=>e=.normal∧ρ'=ρ1∧σ'=σ1) .mk)(h2:cC C n0 b ρ1 σ1 Q .mk):cC C n0 (.seq a b) ρ σ Q t:=by
 rw[xG];refine fJ (fun e ρ' σ' h=>?_) h1;obtain⟨rfl,rfl,rfl⟩:=h;exact h2
def eC(e:Ex):Bool:=decide (e.op=0)&&(decide (e.num=0)&&(decide (e.name=⟨#[]⟩)&&decide (e.args.length=0)))
theorem qE(e:Ex)(σ:List (List V)):Fun G 141 [vex e] σ (aB (aD (eC e)) σ):=by
 refine ax Tryz.func141 I4 (by simp only[aG];rfl) fun hb hw=>?_;unfold D4 eC;simp -dsimp -implicitDefEqProofs only[aw,ac,V.copy,V.lend,V.lend1,V.cells,V.boxable,over,al,ah,ae,ai,V.plain,Nat.reduceLeDiff,cond_true,cond_false,implies_true,eq_self,ne_eq,reduceIte,reduceCtorEq,Nat.reduceBEq,Nat.reduceLT,Nat.reduceEqDiff,Nat.reduceAdd,Nat.reduceSub,Nat.reduceMul,aG];refine aI (fun h1=>?_) (fun h1=>?_)
 ·simp -dsimp -implicitDefEqProofs only[aw,ac,V.copy,V.lend,V.lend1,V.cells,V.boxable,over,al,ah,ae,ai,V.plain,Nat.reduceLeDiff,cond_true,cond_false,implies_true,eq_self,ne_eq,reduceIte,reduceCtorEq,Nat.reduceBEq,Nat.reduceLT,Nat.reduceEqDiff,Nat.reduceAdd,Nat.reduceSub,Nat.reduceMul];refine aI (fun h2=>?_) (fun h2=>?_)
  ·simp -dsimp -implicitDefEqProofs only[aw,ac,V.copy,V.lend,V.lend1,V.cells,V.boxable,over,al,ah,ae,ai,V.plain,Nat.reduceLeDiff,cond_true,cond_false,implies_true,eq_self,ne_eq,reduceIte,reduceCtorEq,Nat.reduceBEq,Nat.reduceLT,Nat.reduceEqDiff,Nat.reduceAdd,Nat.reduceSub,Nat.reduceMul];refine aI (fun h3=>?_) (fun h3=>?_)
   ·simp -dsimp -implicitDefEqProofs only[aw,ac,V.copy,V.lend,V.lend1,V.cells,V.boxable,over,al,ah,ae,ai,V.plain,Nat.reduceLeDiff,cond_true,cond_false,implies_true,eq_self,ne_eq,reduceIte,reduceCtorEq,Nat.reduceBEq,Nat.reduceLT,Nat.reduceEqDiff,Nat.reduceAdd,Nat.reduceSub,Nat.reduceMul];exact aj hb rfl rfl List.take_left ⟨by rw[h1,h2,h3];simp;rfl,rfl⟩
   ·simp -dsimp -implicitDefEqProofs only[aw,ac,V.copy,V.lend,V.lend1,V.cells,V.boxable,over,al,ah,ae,ai,V.plain,Nat.reduceLeDiff,cond_true,cond_false,implies_true,eq_self,ne_eq,reduceIte,reduceCtorEq,Nat.reduceBEq,Nat.reduceLT,Nat.reduceEqDiff,Nat.reduceAdd,Nat.reduceSub,Nat.reduceMul];exact aj hb rfl rfl List.take_left ⟨by rw[h1,h2,h3];simp;rfl,rfl⟩
  ·simp -dsimp -implicitDefEqProofs only[aw,ac,V.copy,V.lend,V.lend1,V.cells,V.boxable,over,al,ah,ae,ai,V.plain,Nat.reduceLeDiff,cond_true,cond_false,implies_true,eq_self,ne_eq,reduceIte,reduceCtorEq,Nat.reduceBEq,Nat.reduceLT,Nat.reduceEqDiff,Nat.reduceAdd,Nat.reduceSub,Nat.reduceMul];exact aj hb rfl rfl List.take_left ⟨by rw[h1,h2];simp;rfl,rfl⟩
 ·simp -dsimp -implicitDefEqProofs only[aw,ac,V.copy,V.lend,V.lend1,V.cells,V.boxable,over,al,ah,ae,ai,V.plain,Nat.reduceLeDiff,cond_true,cond_false,implies_true,eq_self,ne_eq,reduceIte,reduceCtorEq,Nat.reduceBEq,Nat.reduceLT,Nat.reduceEqDiff,Nat.reduceAdd,Nat.reduceSub,Nat.reduceMul];exact aj hb rfl rfl List.take_left ⟨by rw[h1];simp;rfl,rfl⟩
def bX(o:Int):Bool:=decide (o=1)||(decide (o=6)||decide (o=7))
theorem cv(o:Int)(σ:List (List V)):Fun G 140 [.d (an o)] σ (aB (aD (bX o)) σ):=by
 refine ax Tryz.func140 Kb rfl fun hb hw=>?_;unfold Eq bX;simp -dsimp -implicitDefEqProofs only[aw,ac,V.copy,V.lend,V.lend1,V.cells,V.boxable,over,al,ah,ae,ai,V.plain,Nat.reduceLeDiff,cond_true,cond_false,implies_true,eq_self,ne_eq,reduceIte,reduceCtorEq,Nat.reduceBEq,Nat.reduceLT,Nat.reduceEqDiff,Nat.reduceAdd,Nat.reduceSub,Nat.reduceMul];refine aI (fun h1=>?_) (fun h1=>?_)
 ·simp -dsimp -implicitDefEqProofs only[aw,ac,V.copy,V.lend,V.lend1,V.cells,V.boxable,over,al,ah,ae,ai,V.plain,Nat.reduceLeDiff,cond_true,cond_false,implies_true,eq_self,ne_eq,reduceIte,reduceCtorEq,Nat.reduceBEq,Nat.reduceLT,Nat.reduceEqDiff,Nat.reduceAdd,Nat.reduceSub,Nat.reduceMul];refine aI (fun h2=>?_) (fun h2=>?_)
  ·simp -dsimp -implicitDefEqProofs only[aw,ac,V.copy,V.lend,V.lend1,V.cells,V.boxable,over,al,ah,ae,ai,V.plain,Nat.reduceLeDiff,cond_true,cond_false,implies_true,eq_self,ne_eq,reduceIte,reduceCtorEq,Nat.reduceBEq,Nat.reduceLT,Nat.reduceEqDiff,Nat.reduceAdd,Nat.reduceSub,Nat.reduceMul];exact aj hb rfl rfl List.take_length ⟨by simp_all;rfl,rfl⟩
  ·simp -dsimp -implicitDefEqProofs only[aw,ac,V.copy,V.lend,V.lend1,V.cells,V.boxable,over,al,ah,ae,ai,V.plain,Nat.reduceLeDiff,cond_true,cond_false,implies_true,eq_self,ne_eq,reduceIte,reduceCtorEq,Nat.reduceBEq,Nat.reduceLT,Nat.reduceEqDiff,Nat.reduceAdd,Nat.reduceSub,Nat.reduceMul];exact aj hb rfl rfl List.take_length ⟨by simp_all;rfl,rfl⟩
 ·simp -dsimp -implicitDefEqProofs only[aw,ac,V.copy,V.lend,V.lend1,V.cells,V.boxable,over,al,ah,ae,ai,V.plain,Nat.reduceLeDiff,cond_true,cond_false,implies_true,eq_self,ne_eq,reduceIte,reduceCtorEq,Nat.reduceBEq,Nat.reduceLT,Nat.reduceEqDiff,Nat.reduceAdd,Nat.reduceSub,Nat.reduceMul];exact aj hb rfl rfl List.take_length ⟨by simp_all;rfl,rfl⟩
def cP(s:Ts):Bool:=decide (s.lo=0)&&decide (s.hi=0)
def ft(s:Ts):Bool:=decide (s.lo≤s.hi)&&decide (s.hi≤16)
def dM(s:Ts):Bool:=
 if s.op=1 then decide (s.args.length=0)&&cP s
 else if s.op=2 then decide (s.args.length=2)&&(decide (0≤s.lo)&&ft s)
 else if s.op=3 then decide (s.args.length=1)&&(decide (1≤s.lo)&&ft s)
 else if s.op=4∨s.op=5 then decide (2≤s.args.length∧s.args.length≤8)&&cP s
 else if s.op=6∨s.op=7 then decide (s.args.length=1)&&cP s
 else false
abbrev eB(s:Ts):List V:=[.d (an s.op),.d (an s.lo),.d (an s.hi),.d (an s.ex.op),.d (an s.ex.num),.d (ak s.ex.name),.d (.sl (s.ex.args.map dex)),.d (ak s.name),.d (.sl (s.args.map dts))]
def Dc(s:Ts)(σ:List (List V))(ρ':am)(σ':List (List V)):Prop:=∃(lo hi:Nat) (p:Bool) (l:am),(l=[]∨l=[(26,.d (an 6)),(48,aD true)]∨l=[(48,aD true)])∧dM s=(decide (lo≤s.args.length∧s.args.length≤hi)&&p)∧ρ'=(1,.ptr σ.length 0)::(3,aU .i64 lo)::(4,aU .i64 hi)::(5,aD p)::l∧σ'=σ++[eB s]
theorem vX(s:Ts)(hs:s.args.length≤1000000)(σ:List (List V)):Fun G 139 [vts s] σ (aB (aD (dM s)) σ):=by
 refine ax Tryz.func139 JN (by simp only[aq];rfl) fun hb hw=>?_;unfold GH;refine dK [(1,.ptr σ.length 0)] (σ++[eB s]) ?_ ?_
 ·simp -dsimp -implicitDefEqProofs only[aw,ac,V.copy,V.lend,V.lend1,V.cells,V.boxable,over,al,ah,ae,ai,V.plain,Nat.reduceLeDiff,cond_true,cond_false,implies_true,eq_self,ne_eq,reduceIte,reduceCtorEq,Nat.reduceBEq,Nat.reduceLT,Nat.reduceEqDiff,Nat.reduceAdd,Nat.reduceSub,Nat.reduceMul,aq]
 refine dK [(1,.ptr σ.length 0),(3,aU .i64 1),(4,aU .i64 1),(5,aD (cP s))] (σ++[eB s]) ?_ ?_
 ·simp -dsimp -implicitDefEqProofs only[aw,ac,V.copy,V.lend,V.lend1,V.cells,V.boxable,over,al,ah,ae,ai,V.plain,Nat.reduceLeDiff,cond_true,cond_false,implies_true,eq_self,ne_eq,reduceIte,reduceCtorEq,Nat.reduceBEq,Nat.reduceLT,Nat.reduceEqDiff,Nat.reduceAdd,Nat.reduceSub,Nat.reduceMul];refine aI (fun h1=>?_) (fun h1=>?_)
  ·simp -dsimp -implicitDefEqProofs only[aw,ac,V.copy,V.lend,V.lend1,V.cells,V.boxable,over,al,ah,ae,ai,V.plain,Nat.reduceLeDiff,cond_true,cond_false,implies_true,eq_self,ne_eq,reduceIte,reduceCtorEq,Nat.reduceBEq,Nat.reduceLT,Nat.reduceEqDiff,Nat.reduceAdd,Nat.reduceSub,Nat.reduceMul];simp[cP,h1]
  ·simp -dsimp -implicitDefEqProofs only[aw,ac,V.copy,V.lend,V.lend1,V.cells,V.boxable,over,al,ah,ae,ai,V.plain,Nat.reduceLeDiff,cond_true,cond_false,implies_true,eq_self,ne_eq,reduceIte,reduceCtorEq,Nat.reduceBEq,Nat.reduceLT,Nat.reduceEqDiff,Nat.reduceAdd,Nat.reduceSub,Nat.reduceMul];simp[cP,h1]
 refine dK [(1,.ptr σ.length 0),(3,aU .i64 1),(4,aU .i64 1),(5,aD (cP s)),(6,aD (ft s))] (σ++[eB s]) ?_ ?_
 ·simp -dsimp -implicitDefEqProofs only[aw,ac,V.copy,V.lend,V.lend1,V.cells,V.boxable,over,al,ah,ae,ai,V.plain,Nat.reduceLeDiff,cond_true,cond_false,implies_true,eq_self,ne_eq,reduceIte,reduceCtorEq,Nat.reduceBEq,Nat.reduceLT,Nat.reduceEqDiff,Nat.reduceAdd,Nat.reduceSub,Nat.reduceMul];refine aI (fun h1=>?_) (fun h1=>?_)
  ·simp -dsimp -implicitDefEqProofs only[aw,ac,V.copy,V.lend,V.lend1,V.cells,V.boxable,over,al,ah,ae,ai,V.plain,Nat.reduceLeDiff,cond_true,cond_false,implies_true,eq_self,ne_eq,reduceIte,reduceCtorEq,Nat.reduceBEq,Nat.reduceLT,Nat.reduceEqDiff,Nat.reduceAdd,Nat.reduceSub,Nat.reduceMul];simp[ft,h1]
  ·simp -dsimp -implicitDefEqProofs only[aw,ac,V.copy,V.lend,V.lend1,V.cells,V.boxable,over,al,ah,ae,ai,V.plain,Nat.reduceLeDiff,cond_true,cond_false,implies_true,eq_self,ne_eq,reduceIte,reduceCtorEq,Nat.reduceBEq,Nat.reduceLT,Nat.reduceEqDiff,Nat.reduceAdd,Nat.reduceSub,Nat.reduceMul];simp[ft,h1]
 generalize hp:cP s=pB;generalize hq:ft s=wB
 have out:∀(lo hi:Nat) (p:Bool) (l:am),(l=[]∨l=[(26,.d (an 6)),(48,aD true)]∨l=[(48,aD true)])→dM s=(decide (lo≤s.args.length∧s.args.length≤hi)&&p)→
  cC G σ.length (.seq
  (.ops [
    ⟨(some 51),.fa 8 (.t 1),none⟩,
    ⟨(some 52),.load 1 false (.t 51),none⟩,
    ⟨(some 53),.len false (.t 52),none⟩,
    ⟨(some 54),.mv (.t 3),none⟩,
    ⟨(some 55),.bin .geq (.t 53) (.t 54),none⟩,
    ⟨(some 56),.mv (.t 55),none⟩,
    ⟨(some 57),.fa 8 (.t 1),(some (56,true))⟩,
    ⟨(some 58),.load 1 false (.t 57),(some (56,true))⟩,
    ⟨(some 59),.len false (.t 58),(some (56,true))⟩,
    ⟨(some 60),.mv (.t 4),(some (56,true))⟩,
    ⟨(some 61),.bin .leq (.t 59) (.t 60),(some (56,true))⟩,
    ⟨(some 62),.pick (.t 56) (.t 61) (.k (.d (.lit (.bool false)))),none⟩,
    ⟨(some 63),.mv (.t 62),none⟩,
    ⟨(some 64),.mv (.t 5),(some (63,true))⟩,
    ⟨(some 65),.pick (.t 63) (.t 64) (.k (.d (.lit (.bool false)))),none⟩,
    ⟨(some 2),.mv (.t 65),none⟩] [2]) .ret) ((1,.ptr σ.length 0)::(3,aU .i64 lo)::(4,aU .i64 hi)::(5,aD p)::l) (σ++[eB s]) (fin σ.length B1 (aB (aD (dM s)) σ)) .mk:=by
  intro lo hi p l hl hsh;rcases hl with rfl|rfl|rfl
  all_goals
   simp -dsimp -implicitDefEqProofs only[aw,ac,V.copy,V.lend,V.lend1,V.cells,V.boxable,over,al,ah,ae,ai,V.plain,Nat.reduceLeDiff,cond_true,cond_false,implies_true,eq_self,ne_eq,reduceIte,reduceCtorEq,Nat.reduceBEq,Nat.reduceLT,Nat.reduceEqDiff,Nat.reduceAdd,Nat.reduceSub,Nat.reduceMul,Int.ofNat_le];refine aI (fun h1=>?_) (fun h1=>?_)
   ·simp -dsimp -implicitDefEqProofs only[aw,ac,V.copy,V.lend,V.lend1,V.cells,V.boxable,over,al,ah,ae,ai,V.plain,Nat.reduceLeDiff,cond_true,cond_false,implies_true,eq_self,ne_eq,reduceIte,reduceCtorEq,Nat.reduceBEq,Nat.reduceLT,Nat.reduceEqDiff,Nat.reduceAdd,Nat.reduceSub,Nat.reduceMul,Int.ofNat_le];refine aI (fun h2=>?_) (fun h2=>?_)
    ·simp -dsimp -implicitDefEqProofs only[aw,ac,V.copy,V.lend,V.lend1,V.cells,V.boxable,over,al,ah,ae,ai,V.plain,Nat.reduceLeDiff,cond_true,cond_false,implies_true,eq_self,ne_eq,reduceIte,reduceCtorEq,Nat.reduceBEq,Nat.reduceLT,Nat.reduceEqDiff,Nat.reduceAdd,Nat.reduceSub,Nat.reduceMul];exact aj hb rfl rfl List.take_left ⟨by rw[hsh,Bool.decide_and,h1,h2];simp;rfl,rfl⟩
    ·simp -dsimp -implicitDefEqProofs only[aw,ac,V.copy,V.lend,V.lend1,V.cells,V.boxable,over,al,ah,ae,ai,V.plain,Nat.reduceLeDiff,cond_true,cond_false,implies_true,eq_self,ne_eq,reduceIte,reduceCtorEq,Nat.reduceBEq,Nat.reduceLT,Nat.reduceEqDiff,Nat.reduceAdd,Nat.reduceSub,Nat.reduceMul];exact aj hb rfl rfl List.take_left ⟨by rw[hsh,Bool.decide_and,h1,h2];simp;rfl,rfl⟩
   ·simp -dsimp -implicitDefEqProofs only[aw,ac,V.copy,V.lend,V.lend1,V.cells,V.boxable,over,al,ah,ae,ai,V.plain,Nat.reduceLeDiff,cond_true,cond_false,implies_true,eq_self,ne_eq,reduceIte,reduceCtorEq,Nat.reduceBEq,Nat.reduceLT,Nat.reduceEqDiff,Nat.reduceAdd,Nat.reduceSub,Nat.reduceMul];exact aj hb rfl rfl List.take_left ⟨by rw[hsh,Bool.decide_and,h1];simp;rfl,rfl⟩
 refine lW (Dc s σ) ?_ (fun ρ' σ' ⟨lo,hi,p,l,h0,h1,h2,h3⟩=>by subst h2;subst h3;exact out lo hi p l h0 h1);have len1:∀n:Nat,decide (s.args.length=n)=decide (n≤s.args.length∧s.args.length≤n):=fun n=>by congr 1;apply propext;omega
 have hsh:dM s=dM s:=rfl
 conv at hsh=>rhs;unfold dM
 rw[hp,hq]at hsh;by_cases o1:s.op=1
 ·simp -dsimp -implicitDefEqProofs only[aw,ac,V.copy,V.lend,V.lend1,V.cells,V.boxable,over,al,ah,ae,ai,V.plain,Nat.reduceLeDiff,cond_true,cond_false,implies_true,eq_self,ne_eq,reduceIte,reduceCtorEq,Nat.reduceBEq,Nat.reduceLT,Nat.reduceEqDiff,Nat.reduceAdd,Nat.reduceSub,Nat.reduceMul,o1,Int.reduceEq,decide_true,decide_false];exact⟨0,0,pB,[],.inl rfl,by rw[hsh,if_pos o1,len1],rfl,rfl⟩
 by_cases o2:s.op=2
 ·simp -dsimp -implicitDefEqProofs only[aw,ac,V.copy,V.lend,V.lend1,V.cells,V.boxable,over,al,ah,ae,ai,V.plain,Nat.reduceLeDiff,cond_true,cond_false,implies_true,eq_self,ne_eq,reduceIte,reduceCtorEq,Nat.reduceBEq,Nat.reduceLT,Nat.reduceEqDiff,Nat.reduceAdd,Nat.reduceSub,Nat.reduceMul,o2,Int.reduceEq,decide_true,decide_false];rw[if_neg o1,if_pos o2]at hsh;refine aI (fun h1=>?_) (fun h1=>?_)
  ·simp -dsimp -implicitDefEqProofs only[aw,ac,V.copy,V.lend,V.lend1,V.cells,V.boxable,over,al,ah,ae,ai,V.plain,Nat.reduceLeDiff,cond_true,cond_false,implies_true,eq_self,ne_eq,reduceIte,reduceCtorEq,Nat.reduceBEq,Nat.reduceLT,Nat.reduceEqDiff,Nat.reduceAdd,Nat.reduceSub,Nat.reduceMul];exact⟨2,2,wB,[],.inl rfl,by rw[hsh,len1,h1];rfl,rfl,rfl⟩
  ·simp -dsimp -implicitDefEqProofs only[aw,ac,V.copy,V.lend,V.lend1,V.cells,V.boxable,over,al,ah,ae,ai,V.plain,Nat.reduceLeDiff,cond_true,cond_false,implies_true,eq_self,ne_eq,reduceIte,reduceCtorEq,Nat.reduceBEq,Nat.reduceLT,Nat.reduceEqDiff,Nat.reduceAdd,Nat.reduceSub,Nat.reduceMul];exact⟨2,2,false,[],.inl rfl,by rw[hsh,len1,h1];rfl,rfl,rfl⟩
 by_cases o3:s.op=3
 ·simp -dsimp -implicitDefEqProofs only[aw,ac,V.copy,V.lend,V.lend1,V.cells,V.boxable,over,al,ah,ae,ai,V.plain,Nat.reduceLeDiff,cond_true,cond_false,implies_true,eq_self,ne_eq,reduceIte,reduceCtorEq,Nat.reduceBEq,Nat.reduceLT,Nat.reduceEqDiff,Nat.reduceAdd,Nat.reduceSub,Nat.reduceMul,o3,Int.reduceEq,decide_true,decide_false];rw[if_neg o1,if_neg o2,if_pos o3]at hsh;refine aI (fun h1=>?_) (fun h1=>?_)
  ·simp -dsimp -implicitDefEqProofs only[aw,ac,V.copy,V.lend,V.lend1,V.cells,V.boxable,over,al,ah,ae,ai,V.plain,Nat.reduceLeDiff,cond_true,cond_false,implies_true,eq_self,ne_eq,reduceIte,reduceCtorEq,Nat.reduceBEq,Nat.reduceLT,Nat.reduceEqDiff,Nat.reduceAdd,Nat.reduceSub,Nat.reduceMul];exact⟨1,1,wB,[],.inl rfl,by rw[hsh,len1,h1];rfl,rfl,rfl⟩
  ·simp -dsimp -implicitDefEqProofs only[aw,ac,V.copy,V.lend,V.lend1,V.cells,V.boxable,over,al,ah,ae,ai,V.plain,Nat.reduceLeDiff,cond_true,cond_false,implies_true,eq_self,ne_eq,reduceIte,reduceCtorEq,Nat.reduceBEq,Nat.reduceLT,Nat.reduceEqDiff,Nat.reduceAdd,Nat.reduceSub,Nat.reduceMul];exact⟨1,1,false,[],.inl rfl,by rw[hsh,len1,h1];rfl,rfl,rfl⟩
 rw[if_neg o1,if_neg o2,if_neg o3]at hsh;by_cases o4:s.op=4
 ·simp -dsimp -implicitDefEqProofs only[aw,ac,V.copy,V.lend,V.lend1,V.cells,V.boxable,over,al,ah,ae,ai,V.plain,Nat.reduceLeDiff,cond_true,cond_false,implies_true,eq_self,ne_eq,reduceIte,reduceCtorEq,Nat.reduceBEq,Nat.reduceLT,Nat.reduceEqDiff,Nat.reduceAdd,Nat.reduceSub,Nat.reduceMul,o4,Int.reduceEq,decide_true,decide_false];exact⟨2,8,pB,[],.inl rfl,by rw[hsh,if_pos (.inl o4)],rfl,rfl⟩
 by_cases o5:s.op=5
 ·simp -dsimp -implicitDefEqProofs only[aw,ac,V.copy,V.lend,V.lend1,V.cells,V.boxable,over,al,ah,ae,ai,V.plain,Nat.reduceLeDiff,cond_true,cond_false,implies_true,eq_self,ne_eq,reduceIte,reduceCtorEq,Nat.reduceBEq,Nat.reduceLT,Nat.reduceEqDiff,Nat.reduceAdd,Nat.reduceSub,Nat.reduceMul,o5,Int.reduceEq,decide_true,decide_false];exact⟨2,8,pB,[],.inl rfl,by rw[hsh,if_pos (.inr o5)],rfl,rfl⟩
 rw[if_neg (by omega)]at hsh;by_cases o6:s.op=6
 ·simp -dsimp -implicitDefEqProofs only[aw,ac,V.copy,V.lend,V.lend1,V.cells,V.boxable,over,al,ah,ae,ai,V.plain,Nat.reduceLeDiff,cond_true,cond_false,implies_true,eq_self,ne_eq,reduceIte,reduceCtorEq,Nat.reduceBEq,Nat.reduceLT,Nat.reduceEqDiff,Nat.reduceAdd,Nat.reduceSub,Nat.reduceMul,o6,Int.reduceEq,decide_true,decide_false];exact⟨1,1,pB,_,.inr (.inl rfl),by rw[hsh,if_pos (.inl o6),len1],rfl,rfl⟩
 by_cases o7:s.op=7
 ·simp -dsimp -implicitDefEqProofs only[aw,ac,V.copy,V.lend,V.lend1,V.cells,V.boxable,over,al,ah,ae,ai,V.plain,Nat.reduceLeDiff,cond_true,cond_false,implies_true,eq_self,ne_eq,reduceIte,reduceCtorEq,Nat.reduceBEq,Nat.reduceLT,Nat.reduceEqDiff,Nat.reduceAdd,Nat.reduceSub,Nat.reduceMul,o7,Int.reduceEq,decide_true,decide_false];exact⟨1,1,pB,_,.inr (.inr rfl),by rw[hsh,if_pos (.inr o7),len1],rfl,rfl⟩
 rw[if_neg (by omega)]at hsh;simp -dsimp -implicitDefEqProofs only[aw,ac,V.copy,V.lend,V.lend1,V.cells,V.boxable,over,al,ah,ae,ai,V.plain,Nat.reduceLeDiff,cond_true,cond_false,implies_true,eq_self,ne_eq,reduceIte,reduceCtorEq,Nat.reduceBEq,Nat.reduceLT,Nat.reduceEqDiff,Nat.reduceAdd,Nat.reduceSub,Nat.reduceMul,decide_eq_false o1,decide_eq_false o2,decide_eq_false o3,decide_eq_false o4,decide_eq_false o5,decide_eq_false o6,decide_eq_false o7];exact aj hb rfl rfl List.take_left ⟨by rw[hsh];rfl,rfl⟩
end Go.Proofs.YthekkgfmagliiaaGreatDoor
