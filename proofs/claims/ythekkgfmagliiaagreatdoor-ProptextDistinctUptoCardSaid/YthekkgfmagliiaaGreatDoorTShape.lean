import Derived.Test.YthekkgfmagliiaaGreatDoorTNames
set_option linter.unusedVariables false
set_option linter.unusedSimpArgs false
set_option linter.unusedSectionVars false
namespace Go.Proofs.YthekkgfmagliiaaGreatDoor
open Go.RowKit
theorem pP{C:Cx}{n0:Nat}{a b:Cd}{ρ:ak}{σ:List (List V)}{Q:bS}{t:Tag Q}(R:ak→List (List V)→Prop)(h1:de C n0 a ρ σ (andThen R Q) .mk)(h2:∀ρ' σ',R ρ' σ'→de C n0 b ρ' σ' Q .mk):de C n0 (.seq a b) ρ σ Q t:=by
 rw[BW];refine iE (fun e ρ' σ' h=>?_) h1;cases e with
 | normal=>exact h2 _ _ h
 | _=>exact h
def Mid(R:ak→List (List V)→Prop)(ρ:ak)(σ:List (List V))(_:Tag R):Prop:=R ρ σ
theorem Mid.mk{R:ak→List (List V)→Prop}{ρ:ak}{σ:List (List V)}(h:R ρ σ):Mid R ρ σ .mk:=h
theorem jm{C:Cx}{n0:Nat}{a b:Cd}{ρ:ak}{σ:List (List V)}{Q:bS}{t:Tag Q}(R:ak→List (List V)→Prop)(h1:de C n0 a ρ σ (andThen (fun ρ σ=>Mid R ρ σ .mk) Q) .mk)(h2:∀ρ' σ',R ρ' σ'→de C n0 b ρ' σ' Q .mk):de C n0 (.seq a b) ρ σ Q t:=
 pP _ h1 fun ρ' σ' h=>h2 ρ' σ' h
theorem eK{C:Cx}{n0:Nat}{a b:Cd}{ρ:ak}{σ:List (List V)}{Q:bS}{t:Tag Q}(ρ1:ak)(σ1:List (List V))(h1:de C n0 a ρ σ (fun e ρ' σ'=>e=.normal∧ρ'=ρ1∧σ'=σ1) .mk)(h2:de C n0 b ρ1 σ1 Q .mk):de C n0 (.seq a b) ρ σ Q t:=by
 rw[BW];refine iE (fun e ρ' σ' h=>?_) h1;obtain⟨rfl,rfl,rfl⟩:=h;exact h2
def fO(e:Ex):Bool:=decide (e.op=0)&&(decide (e.num=0)&&(decide (e.name=⟨#[]⟩)&&decide (e.args.length=0)))
theorem tY(e:Ex)(σ:List (List V)):Fun G 141 [vex e] σ (aG (aA (fO e)) σ):=by
 refine aD Tryz.func141 M9 (by simp only[aR];rfl) fun hb hw=>?_;unfold Lw fO;simp -dsimp -implicitDefEqProofs only[aw,ac,V.copy,V.lend,V.lend1,V.cells,V.boxable,over,al,ah,ae,ai,V.plain,Nat.reduceLeDiff,cond_true,cond_false,implies_true,eq_self,ne_eq,reduceIte,reduceCtorEq,Nat.reduceBEq,Nat.reduceLT,Nat.reduceEqDiff,Nat.reduceAdd,Nat.reduceSub,Nat.reduceMul,aR];refine aF (fun h1=>?_) (fun h1=>?_)
 ·simp -dsimp -implicitDefEqProofs only[aw,ac,V.copy,V.lend,V.lend1,V.cells,V.boxable,over,al,ah,ae,ai,V.plain,Nat.reduceLeDiff,cond_true,cond_false,implies_true,eq_self,ne_eq,reduceIte,reduceCtorEq,Nat.reduceBEq,Nat.reduceLT,Nat.reduceEqDiff,Nat.reduceAdd,Nat.reduceSub,Nat.reduceMul];refine aF (fun h2=>?_) (fun h2=>?_)
  ·simp -dsimp -implicitDefEqProofs only[aw,ac,V.copy,V.lend,V.lend1,V.cells,V.boxable,over,al,ah,ae,ai,V.plain,Nat.reduceLeDiff,cond_true,cond_false,implies_true,eq_self,ne_eq,reduceIte,reduceCtorEq,Nat.reduceBEq,Nat.reduceLT,Nat.reduceEqDiff,Nat.reduceAdd,Nat.reduceSub,Nat.reduceMul];refine aF (fun h3=>?_) (fun h3=>?_)
   ·simp -dsimp -implicitDefEqProofs only[aw,ac,V.copy,V.lend,V.lend1,V.cells,V.boxable,over,al,ah,ae,ai,V.plain,Nat.reduceLeDiff,cond_true,cond_false,implies_true,eq_self,ne_eq,reduceIte,reduceCtorEq,Nat.reduceBEq,Nat.reduceLT,Nat.reduceEqDiff,Nat.reduceAdd,Nat.reduceSub,Nat.reduceMul];exact am hb rfl rfl List.take_left ⟨by rw[h1,h2,h3];simp;rfl,rfl⟩
   ·simp -dsimp -implicitDefEqProofs only[aw,ac,V.copy,V.lend,V.lend1,V.cells,V.boxable,over,al,ah,ae,ai,V.plain,Nat.reduceLeDiff,cond_true,cond_false,implies_true,eq_self,ne_eq,reduceIte,reduceCtorEq,Nat.reduceBEq,Nat.reduceLT,Nat.reduceEqDiff,Nat.reduceAdd,Nat.reduceSub,Nat.reduceMul];exact am hb rfl rfl List.take_left ⟨by rw[h1,h2,h3];simp;rfl,rfl⟩
  ·simp -dsimp -implicitDefEqProofs only[aw,ac,V.copy,V.lend,V.lend1,V.cells,V.boxable,over,al,ah,ae,ai,V.plain,Nat.reduceLeDiff,cond_true,cond_false,implies_true,eq_self,ne_eq,reduceIte,reduceCtorEq,Nat.reduceBEq,Nat.reduceLT,Nat.reduceEqDiff,Nat.reduceAdd,Nat.reduceSub,Nat.reduceMul];exact am hb rfl rfl List.take_left ⟨by rw[h1,h2];simp;rfl,rfl⟩
 ·simp -dsimp -implicitDefEqProofs only[aw,ac,V.copy,V.lend,V.lend1,V.cells,V.boxable,over,al,ah,ae,ai,V.plain,Nat.reduceLeDiff,cond_true,cond_false,implies_true,eq_self,ne_eq,reduceIte,reduceCtorEq,Nat.reduceBEq,Nat.reduceLT,Nat.reduceEqDiff,Nat.reduceAdd,Nat.reduceSub,Nat.reduceMul];exact am hb rfl rfl List.take_left ⟨by rw[h1];simp;rfl,rfl⟩
def ch(o:Int):Bool:=decide (o=1)||(decide (o=6)||decide (o=7))
theorem cP(o:Int)(σ:List (List V)):Fun G 140 [.d (ao o)] σ (aG (aA (ch o)) σ):=by
 refine aD Tryz.func140 Nm rfl fun hb hw=>?_;unfold L8 ch;simp -dsimp -implicitDefEqProofs only[aw,ac,V.copy,V.lend,V.lend1,V.cells,V.boxable,over,al,ah,ae,ai,V.plain,Nat.reduceLeDiff,cond_true,cond_false,implies_true,eq_self,ne_eq,reduceIte,reduceCtorEq,Nat.reduceBEq,Nat.reduceLT,Nat.reduceEqDiff,Nat.reduceAdd,Nat.reduceSub,Nat.reduceMul];refine aF (fun h1=>?_) (fun h1=>?_)
 ·simp -dsimp -implicitDefEqProofs only[aw,ac,V.copy,V.lend,V.lend1,V.cells,V.boxable,over,al,ah,ae,ai,V.plain,Nat.reduceLeDiff,cond_true,cond_false,implies_true,eq_self,ne_eq,reduceIte,reduceCtorEq,Nat.reduceBEq,Nat.reduceLT,Nat.reduceEqDiff,Nat.reduceAdd,Nat.reduceSub,Nat.reduceMul];refine aF (fun h2=>?_) (fun h2=>?_)
  ·simp -dsimp -implicitDefEqProofs only[aw,ac,V.copy,V.lend,V.lend1,V.cells,V.boxable,over,al,ah,ae,ai,V.plain,Nat.reduceLeDiff,cond_true,cond_false,implies_true,eq_self,ne_eq,reduceIte,reduceCtorEq,Nat.reduceBEq,Nat.reduceLT,Nat.reduceEqDiff,Nat.reduceAdd,Nat.reduceSub,Nat.reduceMul];exact am hb rfl rfl List.take_length ⟨by simp_all;rfl,rfl⟩
  ·simp -dsimp -implicitDefEqProofs only[aw,ac,V.copy,V.lend,V.lend1,V.cells,V.boxable,over,al,ah,ae,ai,V.plain,Nat.reduceLeDiff,cond_true,cond_false,implies_true,eq_self,ne_eq,reduceIte,reduceCtorEq,Nat.reduceBEq,Nat.reduceLT,Nat.reduceEqDiff,Nat.reduceAdd,Nat.reduceSub,Nat.reduceMul];exact am hb rfl rfl List.take_length ⟨by simp_all;rfl,rfl⟩
 ·simp -dsimp -implicitDefEqProofs only[aw,ac,V.copy,V.lend,V.lend1,V.cells,V.boxable,over,al,ah,ae,ai,V.plain,Nat.reduceLeDiff,cond_true,cond_false,implies_true,eq_self,ne_eq,reduceIte,reduceCtorEq,Nat.reduceBEq,Nat.reduceLT,Nat.reduceEqDiff,Nat.reduceAdd,Nat.reduceSub,Nat.reduceMul];exact am hb rfl rfl List.take_length ⟨by simp_all;rfl,rfl⟩
def dv(s:Ts):Bool:=decide (s.lo=0)&&decide (s.hi=0)
def gU(s:Ts):Bool:=decide (s.lo≤s.hi)&&decide (s.hi≤16)
def eL(s:Ts):Bool:=
 if s.op=1 then decide (s.args.length=0)&&dv s
 else if s.op=2 then decide (s.args.length=2)&&(decide (0≤s.lo)&&gU s)
 else if s.op=3 then decide (s.args.length=1)&&(decide (1≤s.lo)&&gU s)
 else if s.op=4∨s.op=5 then decide (2≤s.args.length∧s.args.length≤8)&&dv s
 else if s.op=6∨s.op=7 then decide (s.args.length=1)&&dv s
 else false
abbrev fS(s:Ts):List V:=[.d (ao s.op),.d (ao s.lo),.d (ao s.hi),.d (ao s.ex.op),.d (ao s.ex.num),.d (an s.ex.name),.d (.sl (s.ex.args.map dex)),.d (an s.name),.d (.sl (s.args.map dts))]
def IW(s:Ts)(σ:List (List V))(ρ':ak)(σ':List (List V)):Prop:=∃(lo hi:Nat) (p:Bool) (l:ak),(l=[]∨l=[(26,.d (ao 6)),(48,aA true)]∨l=[(48,aA true)])∧eL s=(decide (lo≤s.args.length∧s.args.length≤hi)&&p)∧ρ'=(1,.ptr σ.length 0)::(3,aW .i64 lo)::(4,aW .i64 hi)::(5,aA p)::l∧σ'=σ++[fS s]
theorem AD(s:Ts)(hs:s.args.length≤1000000)(σ:List (List V)):Fun G 139 [vts s] σ (aG (aA (eL s)) σ):=by
 refine aD Tryz.func139 NY (by simp only[ax];rfl) fun hb hw=>?_;unfold LX;refine eK [(1,.ptr σ.length 0)] (σ++[fS s]) ?_ ?_
 ·simp -dsimp -implicitDefEqProofs only[aw,ac,V.copy,V.lend,V.lend1,V.cells,V.boxable,over,al,ah,ae,ai,V.plain,Nat.reduceLeDiff,cond_true,cond_false,implies_true,eq_self,ne_eq,reduceIte,reduceCtorEq,Nat.reduceBEq,Nat.reduceLT,Nat.reduceEqDiff,Nat.reduceAdd,Nat.reduceSub,Nat.reduceMul,ax]
 refine eK [(1,.ptr σ.length 0),(3,aW .i64 1),(4,aW .i64 1),(5,aA (dv s))] (σ++[fS s]) ?_ ?_
 ·simp -dsimp -implicitDefEqProofs only[aw,ac,V.copy,V.lend,V.lend1,V.cells,V.boxable,over,al,ah,ae,ai,V.plain,Nat.reduceLeDiff,cond_true,cond_false,implies_true,eq_self,ne_eq,reduceIte,reduceCtorEq,Nat.reduceBEq,Nat.reduceLT,Nat.reduceEqDiff,Nat.reduceAdd,Nat.reduceSub,Nat.reduceMul];refine aF (fun h1=>?_) (fun h1=>?_)
  ·simp -dsimp -implicitDefEqProofs only[aw,ac,V.copy,V.lend,V.lend1,V.cells,V.boxable,over,al,ah,ae,ai,V.plain,Nat.reduceLeDiff,cond_true,cond_false,implies_true,eq_self,ne_eq,reduceIte,reduceCtorEq,Nat.reduceBEq,Nat.reduceLT,Nat.reduceEqDiff,Nat.reduceAdd,Nat.reduceSub,Nat.reduceMul];simp[dv,h1]
  ·simp -dsimp -implicitDefEqProofs only[aw,ac,V.copy,V.lend,V.lend1,V.cells,V.boxable,over,al,ah,ae,ai,V.plain,Nat.reduceLeDiff,cond_true,cond_false,implies_true,eq_self,ne_eq,reduceIte,reduceCtorEq,Nat.reduceBEq,Nat.reduceLT,Nat.reduceEqDiff,Nat.reduceAdd,Nat.reduceSub,Nat.reduceMul];simp[dv,h1]
 refine eK [(1,.ptr σ.length 0),(3,aW .i64 1),(4,aW .i64 1),(5,aA (dv s)),(6,aA (gU s))] (σ++[fS s]) ?_ ?_
 ·simp -dsimp -implicitDefEqProofs only[aw,ac,V.copy,V.lend,V.lend1,V.cells,V.boxable,over,al,ah,ae,ai,V.plain,Nat.reduceLeDiff,cond_true,cond_false,implies_true,eq_self,ne_eq,reduceIte,reduceCtorEq,Nat.reduceBEq,Nat.reduceLT,Nat.reduceEqDiff,Nat.reduceAdd,Nat.reduceSub,Nat.reduceMul];refine aF (fun h1=>?_) (fun h1=>?_)
  ·simp -dsimp -implicitDefEqProofs only[aw,ac,V.copy,V.lend,V.lend1,V.cells,V.boxable,over,al,ah,ae,ai,V.plain,Nat.reduceLeDiff,cond_true,cond_false,implies_true,eq_self,ne_eq,reduceIte,reduceCtorEq,Nat.reduceBEq,Nat.reduceLT,Nat.reduceEqDiff,Nat.reduceAdd,Nat.reduceSub,Nat.reduceMul];simp[gU,h1]
  ·simp -dsimp -implicitDefEqProofs only[aw,ac,V.copy,V.lend,V.lend1,V.cells,V.boxable,over,al,ah,ae,ai,V.plain,Nat.reduceLeDiff,cond_true,cond_false,implies_true,eq_self,ne_eq,reduceIte,reduceCtorEq,Nat.reduceBEq,Nat.reduceLT,Nat.reduceEqDiff,Nat.reduceAdd,Nat.reduceSub,Nat.reduceMul];simp[gU,h1]
 generalize hp:dv s=pB;generalize hq:gU s=wB
 have out:∀(lo hi:Nat) (p:Bool) (l:ak),(l=[]∨l=[(26,.d (ao 6)),(48,aA true)]∨l=[(48,aA true)])→eL s=(decide (lo≤s.args.length∧s.args.length≤hi)&&p)→
  de G σ.length (.seq
  (.ops [
    ⟨(some 51),.fa 8 (.t 1),none⟩,
    ⟨(some 52),.load 1 false (.t 51),none⟩,
    ⟨(some 53),.len false (.t 52),none⟩,
    ⟨(some 54),.mv (.t 3),none⟩,
    ⟨(some 55),.bin .geq (.t 53) (.t 54),none⟩,
    ⟨(some 56),.mv (.t 55),none⟩,
    ⟨(some 57),.fa 8 (.t 1),(some (56,true))⟩,
    ⟨(some 58),.load 1 false (.t 57),(some (56,true))⟩,
    ⟨(some 59),.len false (.t 58),(some (56,true))⟩,
    ⟨(some 60),.mv (.t 4),(some (56,true))⟩,
    ⟨(some 61),.bin .leq (.t 59) (.t 60),(some (56,true))⟩,
    ⟨(some 62),.pick (.t 56) (.t 61) (.k (.d (.lit (.bool false)))),none⟩,
    ⟨(some 63),.mv (.t 62),none⟩,
    ⟨(some 64),.mv (.t 5),(some (63,true))⟩,
    ⟨(some 65),.pick (.t 63) (.t 64) (.k (.d (.lit (.bool false)))),none⟩,
    ⟨(some 2),.mv (.t 65),none⟩] [2]) .ret) ((1,.ptr σ.length 0)::(3,aW .i64 lo)::(4,aW .i64 hi)::(5,aA p)::l) (σ++[fS s]) (fin σ.length GN (aG (aA (eL s)) σ)) .mk:=by
  intro lo hi p l hl hsh;rcases hl with rfl|rfl|rfl
  all_goals
   simp -dsimp -implicitDefEqProofs only[aw,ac,V.copy,V.lend,V.lend1,V.cells,V.boxable,over,al,ah,ae,ai,V.plain,Nat.reduceLeDiff,cond_true,cond_false,implies_true,eq_self,ne_eq,reduceIte,reduceCtorEq,Nat.reduceBEq,Nat.reduceLT,Nat.reduceEqDiff,Nat.reduceAdd,Nat.reduceSub,Nat.reduceMul,Int.ofNat_le];refine aF (fun h1=>?_) (fun h1=>?_)
   ·simp -dsimp -implicitDefEqProofs only[aw,ac,V.copy,V.lend,V.lend1,V.cells,V.boxable,over,al,ah,ae,ai,V.plain,Nat.reduceLeDiff,cond_true,cond_false,implies_true,eq_self,ne_eq,reduceIte,reduceCtorEq,Nat.reduceBEq,Nat.reduceLT,Nat.reduceEqDiff,Nat.reduceAdd,Nat.reduceSub,Nat.reduceMul,Int.ofNat_le];refine aF (fun h2=>?_) (fun h2=>?_)
    ·simp -dsimp -implicitDefEqProofs only[aw,ac,V.copy,V.lend,V.lend1,V.cells,V.boxable,over,al,ah,ae,ai,V.plain,Nat.reduceLeDiff,cond_true,cond_false,implies_true,eq_self,ne_eq,reduceIte,reduceCtorEq,Nat.reduceBEq,Nat.reduceLT,Nat.reduceEqDiff,Nat.reduceAdd,Nat.reduceSub,Nat.reduceMul];exact am hb rfl rfl List.take_left ⟨by rw[hsh,Bool.decide_and,h1,h2];simp;rfl,rfl⟩
    ·simp -dsimp -implicitDefEqProofs only[aw,ac,V.copy,V.lend,V.lend1,V.cells,V.boxable,over,al,ah,ae,ai,V.plain,Nat.reduceLeDiff,cond_true,cond_false,implies_true,eq_self,ne_eq,reduceIte,reduceCtorEq,Nat.reduceBEq,Nat.reduceLT,Nat.reduceEqDiff,Nat.reduceAdd,Nat.reduceSub,Nat.reduceMul];exact am hb rfl rfl List.take_left ⟨by rw[hsh,Bool.decide_and,h1,h2];simp;rfl,rfl⟩
   ·simp -dsimp -implicitDefEqProofs only[aw,ac,V.copy,V.lend,V.lend1,V.cells,V.boxable,over,al,ah,ae,ai,V.plain,Nat.reduceLeDiff,cond_true,cond_false,implies_true,eq_self,ne_eq,reduceIte,reduceCtorEq,Nat.reduceBEq,Nat.reduceLT,Nat.reduceEqDiff,Nat.reduceAdd,Nat.reduceSub,Nat.reduceMul];exact am hb rfl rfl List.take_left ⟨by rw[hsh,Bool.decide_and,h1];simp;rfl,rfl⟩
 refine pP (IW s σ) ?_ (fun ρ' σ' ⟨lo,hi,p,l,h0,h1,h2,h3⟩=>by subst h2;subst h3;exact out lo hi p l h0 h1);have len1:∀n:Nat,decide (s.args.length=n)=decide (n≤s.args.length∧s.args.length≤n):=fun n=>by congr 1;apply propext;omega
 have hsh:eL s=eL s:=rfl
 conv at hsh=>rhs;unfold eL
 rw[hp,hq]at hsh;by_cases o1:s.op=1
 ·simp -dsimp -implicitDefEqProofs only[aw,ac,V.copy,V.lend,V.lend1,V.cells,V.boxable,over,al,ah,ae,ai,V.plain,Nat.reduceLeDiff,cond_true,cond_false,implies_true,eq_self,ne_eq,reduceIte,reduceCtorEq,Nat.reduceBEq,Nat.reduceLT,Nat.reduceEqDiff,Nat.reduceAdd,Nat.reduceSub,Nat.reduceMul,o1,Int.reduceEq,decide_true,decide_false];exact⟨0,0,pB,[],.inl rfl,by rw[hsh,if_pos o1,len1],rfl,rfl⟩
 by_cases o2:s.op=2
 ·simp -dsimp -implicitDefEqProofs only[aw,ac,V.copy,V.lend,V.lend1,V.cells,V.boxable,over,al,ah,ae,ai,V.plain,Nat.reduceLeDiff,cond_true,cond_false,implies_true,eq_self,ne_eq,reduceIte,reduceCtorEq,Nat.reduceBEq,Nat.reduceLT,Nat.reduceEqDiff,Nat.reduceAdd,Nat.reduceSub,Nat.reduceMul,o2,Int.reduceEq,decide_true,decide_false];rw[if_neg o1,if_pos o2]at hsh;refine aF (fun h1=>?_) (fun h1=>?_)
  ·simp -dsimp -implicitDefEqProofs only[aw,ac,V.copy,V.lend,V.lend1,V.cells,V.boxable,over,al,ah,ae,ai,V.plain,Nat.reduceLeDiff,cond_true,cond_false,implies_true,eq_self,ne_eq,reduceIte,reduceCtorEq,Nat.reduceBEq,Nat.reduceLT,Nat.reduceEqDiff,Nat.reduceAdd,Nat.reduceSub,Nat.reduceMul];exact⟨2,2,wB,[],.inl rfl,by rw[hsh,len1,h1];rfl,rfl,rfl⟩
  ·simp -dsimp -implicitDefEqProofs only[aw,ac,V.copy,V.lend,V.lend1,V.cells,V.boxable,over,al,ah,ae,ai,V.plain,Nat.reduceLeDiff,cond_true,cond_false,implies_true,eq_self,ne_eq,reduceIte,reduceCtorEq,Nat.reduceBEq,Nat.reduceLT,Nat.reduceEqDiff,Nat.reduceAdd,Nat.reduceSub,Nat.reduceMul];exact⟨2,2,false,[],.inl rfl,by rw[hsh,len1,h1];rfl,rfl,rfl⟩
 by_cases o3:s.op=3
 ·simp -dsimp -implicitDefEqProofs only[aw,ac,V.copy,V.lend,V.lend1,V.cells,V.boxable,over,al,ah,ae,ai,V.plain,Nat.reduceLeDiff,cond_true,cond_false,implies_true,eq_self,ne_eq,reduceIte,reduceCtorEq,Nat.reduceBEq,Nat.reduceLT,Nat.reduceEqDiff,Nat.reduceAdd,Nat.reduceSub,Nat.reduceMul,o3,Int.reduceEq,decide_true,decide_false];rw[if_neg o1,if_neg o2,if_pos o3]at hsh;refine aF (fun h1=>?_) (fun h1=>?_)
  ·simp -dsimp -implicitDefEqProofs only[aw,ac,V.copy,V.lend,V.lend1,V.cells,V.boxable,over,al,ah,ae,ai,V.plain,Nat.reduceLeDiff,cond_true,cond_false,implies_true,eq_self,ne_eq,reduceIte,reduceCtorEq,Nat.reduceBEq,Nat.reduceLT,Nat.reduceEqDiff,Nat.reduceAdd,Nat.reduceSub,Nat.reduceMul];exact⟨1,1,wB,[],.inl rfl,by rw[hsh,len1,h1];rfl,rfl,rfl⟩
  ·simp -dsimp -implicitDefEqProofs only[aw,ac,V.copy,V.lend,V.lend1,V.cells,V.boxable,over,al,ah,ae,ai,V.plain,Nat.reduceLeDiff,cond_true,cond_false,implies_true,eq_self,ne_eq,reduceIte,reduceCtorEq,Nat.reduceBEq,Nat.reduceLT,Nat.reduceEqDiff,Nat.reduceAdd,Nat.reduceSub,Nat.reduceMul];exact⟨1,1,false,[],.inl rfl,by rw[hsh,len1,h1];rfl,rfl,rfl⟩
 rw[if_neg o1,if_neg o2,if_neg o3]at hsh;by_cases o4:s.op=4
 ·simp -dsimp -implicitDefEqProofs only[aw,ac,V.copy,V.lend,V.lend1,V.cells,V.boxable,over,al,ah,ae,ai,V.plain,Nat.reduceLeDiff,cond_true,cond_false,implies_true,eq_self,ne_eq,reduceIte,reduceCtorEq,Nat.reduceBEq,Nat.reduceLT,Nat.reduceEqDiff,Nat.reduceAdd,Nat.reduceSub,Nat.reduceMul,o4,Int.reduceEq,decide_true,decide_false];exact⟨2,8,pB,[],.inl rfl,by rw[hsh,if_pos (.inl o4)],rfl,rfl⟩
 by_cases o5:s.op=5
 ·simp -dsimp -implicitDefEqProofs only[aw,ac,V.copy,V.lend,V.lend1,V.cells,V.boxable,over,al,ah,ae,ai,V.plain,Nat.reduceLeDiff,cond_true,cond_false,implies_true,eq_self,ne_eq,reduceIte,reduceCtorEq,Nat.reduceBEq,Nat.reduceLT,Nat.reduceEqDiff,Nat.reduceAdd,Nat.reduceSub,Nat.reduceMul,o5,Int.reduceEq,decide_true,decide_false];exact⟨2,8,pB,[],.inl rfl,by rw[hsh,if_pos (.inr o5)],rfl,rfl⟩
 rw[if_neg (by omega)]at hsh;by_cases o6:s.op=6
 ·simp -dsimp -implicitDefEqProofs only[aw,ac,V.copy,V.lend,V.lend1,V.cells,V.boxable,over,al,ah,ae,ai,V.plain,Nat.reduceLeDiff,cond_true,cond_false,implies_true,eq_self,ne_eq,reduceIte,reduceCtorEq,Nat.reduceBEq,Nat.reduceLT,Nat.reduceEqDiff,Nat.reduceAdd,Nat.reduceSub,Nat.reduceMul,o6,Int.reduceEq,decide_true,decide_false];exact⟨1,1,pB,_,.inr (.inl rfl),by rw[hsh,if_pos (.inl o6),len1],rfl,rfl⟩
 by_cases o7:s.op=7
 ·simp -dsimp -implicitDefEqProofs only[aw,ac,V.copy,V.lend,V.lend1,V.cells,V.boxable,over,al,ah,ae,ai,V.plain,Nat.reduceLeDiff,cond_true,cond_false,implies_true,eq_self,ne_eq,reduceIte,reduceCtorEq,Nat.reduceBEq,Nat.reduceLT,Nat.reduceEqDiff,Nat.reduceAdd,Nat.reduceSub,Nat.reduceMul,o7,Int.reduceEq,decide_true,decide_false];exact⟨1,1,pB,_,.inr (.inr rfl),by rw[hsh,if_pos (.inr o7),len1],rfl,rfl⟩
 rw[if_neg (by omega)]at hsh;simp -dsimp -implicitDefEqProofs only[aw,ac,V.copy,V.lend,V.lend1,V.cells,V.boxable,over,al,ah,ae,ai,V.plain,Nat.reduceLeDiff,cond_true,cond_false,implies_true,eq_self,ne_eq,reduceIte,reduceCtorEq,Nat.reduceBEq,Nat.reduceLT,Nat.reduceEqDiff,Nat.reduceAdd,Nat.reduceSub,Nat.reduceMul,decide_eq_false o1,decide_eq_false o2,decide_eq_false o3,decide_eq_false o4,decide_eq_false o5,decide_eq_false o6,decide_eq_false o7];exact am hb rfl rfl List.take_left ⟨by rw[hsh];rfl,rfl⟩
end Go.Proofs.YthekkgfmagliiaaGreatDoor
