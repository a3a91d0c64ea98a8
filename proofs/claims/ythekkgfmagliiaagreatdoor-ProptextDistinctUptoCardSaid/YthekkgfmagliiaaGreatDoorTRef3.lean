import Derived.Test.YthekkgfmagliiaaGreatDoorTRef2
import Derived.Test.YthekkgfmagliiaaGreatDoorTFold
set_option linter.unusedVariables false
set_option linter.unusedSimpArgs false
set_option linter.unusedSectionVars false
namespace Go.Proofs.YthekkgfmagliiaaGreatDoor
open Go.RowKit
theorem CV{l:List ByteArray}{p:ByteArray→Bool}{j:Nat}(h:j<l.length):(l.drop j).any p=(p l[j]||(l.drop (j+1)).any p):=by
 rw[List.drop_eq_getElem_cons h];rfl
theorem DL(s:Ts)(n:ByteArray):inB n (fP s)=inB n (tnm s):=by
 have h:=(qS s).2 n;unfold inB;rw[Bool.eq_iff_iff,List.any_eq_true,List.any_eq_true];constructor
 ·rintro⟨x,hx,e⟩;have:=of_decide_eq_true e;subst this;exact⟨x,h.1 hx,by simp⟩
 ·rintro⟨x,hx,e⟩;have:=of_decide_eq_true e;subst this;exact⟨x,h.2 hx,by simp⟩
theorem Ax{s:Ts}(h:eR s=true)(o:s.op=6∨s.op=7):s.args.length=1:=by
 rw[og,Bool.and_eq_true]at h;have h1:=h.1;unfold eL at h1;rw[if_neg (by omega),if_neg (by omega),if_neg (by omega),if_neg (by omega),if_pos o,Bool.and_eq_true]at h1;simpa using h1.1
theorem zv(s:Ts)(below:Bool):eB s below=
 if eR s=false then 1
 else if s.op=6∧a8 s.name=false then 7
 else if(s.op=1∨s.op=6∨s.op=7)∧bd s.ex≠0 then bd s.ex
 else if s.op=6∧below=true then 13
 else if s.op=7∧((ck [2] s.ex).any fun n=>inB n (fP s.arg0))=true then 13
 else 0:=by
 have hw:ch s.op=true↔(s.op=1∨s.op=6∨s.op=7):=by
  unfold ch;simp only[Bool.or_eq_true,decide_eq_true_eq]
 have hc:((!eL s||((!ch s.op && !fO s.ex)||(decide (s.op≠6)&&decide (s.name≠⟨#[]⟩))))=true)↔eR s=false:=by
  rw[og];unfold nmB;cases eL s<;>cases ch s.op<;>cases fO s.ex<;>by_cases h6:s.op=6<;>by_cases hn:s.name=⟨#[]⟩<;>simp[h6,hn]
 have hi:((ck [2] s.ex).any fun n=>inB n (fP s.arg0))=((ck [2] s.ex).any fun n=>inB n (tnm s.arg0)):=by
  congr 1;funext n;exact DL s.arg0 n
 rw[hi];unfold eB;simp only[hc,hw,Bool.and_eq_true,decide_eq_true_eq,Bool.not_eq_true']
set_option maxHeartbeats 1000000 in
theorem Bk(s:Ts):∀(below:Bool),bq s≤1000000→tsz s≤100→tdp s≤8→∀σ,Fun G 40 [vts s,.d (.lit (.bool below))] σ (aG (.d (ao (dq s below))) σ):=by
 induction s using Ts.ind with
 | h s ih=>
 intro below hs h100 h8 σ;have hln:=dC s;have hsz:=fu s;have hq:=jO s below;have hn:=zv s below;have hv:∀σ,Fun G 76 [vex s.ex] σ (aG (.d (ao (bd s.ex))) σ):=wb s.ex (by omega) (by have:=jK s.ex;omega);refine aD Tryz.func40 k40 (by simp only[ax];rfl) fun hb hw=>?_;unfold c40
 have out:∀(n:Int) (l:List (List V)),dq s below=n→fin σ.length Hp (aG (.d (ao (dq s below))) σ) .ret [(4,.d (.lit (.int .i64 n)))] (σ++l):=fun n l h=>by
  rw[h];exact am hb rfl rfl List.take_left ⟨rfl,rfl⟩
 have outE:∀(n:Int) (l:List (List V)),eB s below=n→n≠0→fin σ.length Hp (aG (.d (ao (dq s below))) σ) .ret [(4,.d (.lit (.int .i64 n)))] (σ++l):=fun n l h h0=>out n l (by rw[hq,if_neg (by omega),h]);refine eK [(1,.d (.lit (.bool below))),(2,.ptr σ.length 0)] (σ++[fS s]) ?_ ?_
 ·simp -dsimp -implicitDefEqProofs only[aw,ac,V.copy,V.lend,V.lend1,V.cells,V.boxable,over,al,ah,ae,ai,V.plain,Nat.reduceLeDiff,cond_true,cond_false,implies_true,eq_self,ne_eq,reduceIte,reduceCtorEq,Nat.reduceBEq,Nat.reduceLT,Nat.reduceEqDiff,Nat.reduceAdd,Nat.reduceSub,Nat.reduceMul,ax]
 refine jm (fun ρ' σ'=>ρ'=[(1,.d (.lit (.bool below))),(2,.ptr σ.length 0),(13,aA false)]∧σ'=σ++[fS s]∧eR s=true) ?_ ?_
 ·simp -dsimp -implicitDefEqProofs only[aw,ac,V.copy,V.lend,V.lend1,V.cells,V.boxable,over,al,ah,ae,ai,V.plain,Nat.reduceLeDiff,cond_true,cond_false,implies_true,eq_self,ne_eq,reduceIte,reduceCtorEq,Nat.reduceBEq,Nat.reduceLT,Nat.reduceEqDiff,Nat.reduceAdd,Nat.reduceSub,Nat.reduceMul];refine aq (by simpa only[ax]using wG s (by omega) _) ?_;cases hsp:eR s with
  | false=>
   simp -dsimp -implicitDefEqProofs only[aw,ac,V.copy,V.lend,V.lend1,V.cells,V.boxable,over,al,ah,ae,ai,V.plain,Nat.reduceLeDiff,cond_true,cond_false,implies_true,eq_self,ne_eq,reduceIte,reduceCtorEq,Nat.reduceBEq,Nat.reduceLT,Nat.reduceEqDiff,Nat.reduceAdd,Nat.reduceSub,Nat.reduceMul];exact outE 1 _ (by rw[hn,if_pos hsp]) (by omega)
  | true=>
   simp -dsimp -implicitDefEqProofs only[aw,ac,V.copy,V.lend,V.lend1,V.cells,V.boxable,over,al,ah,ae,ai,V.plain,Nat.reduceLeDiff,cond_true,cond_false,implies_true,eq_self,ne_eq,reduceIte,reduceCtorEq,Nat.reduceBEq,Nat.reduceLT,Nat.reduceEqDiff,Nat.reduceAdd,Nat.reduceSub,Nat.reduceMul];exact Mid.mk ⟨rfl,rfl,rfl⟩
 rintro ρ1 σ1 ⟨rfl,rfl,hsp⟩;rw[if_neg (by rw[hsp];simp)]at hn;refine jm (fun ρ' σ'=>ρ'=[(1,.d (.lit (.bool below))),(2,.ptr σ.length 0),(22,aA false)]∧σ'=σ++[fS s]∧(s.op=6→a8 s.name=true)) ?_ ?_
 ·by_cases o6:s.op=6
  ·simp -dsimp -implicitDefEqProofs only[aw,ac,V.copy,V.lend,V.lend1,V.cells,V.boxable,over,al,ah,ae,ai,V.plain,Nat.reduceLeDiff,cond_true,cond_false,implies_true,eq_self,ne_eq,reduceIte,reduceCtorEq,Nat.reduceBEq,Nat.reduceLT,Nat.reduceEqDiff,Nat.reduceAdd,Nat.reduceSub,Nat.reduceMul,decide_eq_true o6];refine aq (mO s.name _) ?_;cases hnm:a8 s.name with
   | false=>
    simp -dsimp -implicitDefEqProofs only[aw,ac,V.copy,V.lend,V.lend1,V.cells,V.boxable,over,al,ah,ae,ai,V.plain,Nat.reduceLeDiff,cond_true,cond_false,implies_true,eq_self,ne_eq,reduceIte,reduceCtorEq,Nat.reduceBEq,Nat.reduceLT,Nat.reduceEqDiff,Nat.reduceAdd,Nat.reduceSub,Nat.reduceMul];exact outE 7 _ (by rw[hn,if_pos ⟨o6,hnm⟩]) (by omega)
   | true=>
    simp -dsimp -implicitDefEqProofs only[aw,ac,V.copy,V.lend,V.lend1,V.cells,V.boxable,over,al,ah,ae,ai,V.plain,Nat.reduceLeDiff,cond_true,cond_false,implies_true,eq_self,ne_eq,reduceIte,reduceCtorEq,Nat.reduceBEq,Nat.reduceLT,Nat.reduceEqDiff,Nat.reduceAdd,Nat.reduceSub,Nat.reduceMul];exact Mid.mk ⟨rfl,rfl,fun _=>rfl⟩
  ·simp -dsimp -implicitDefEqProofs only[aw,ac,V.copy,V.lend,V.lend1,V.cells,V.boxable,over,al,ah,ae,ai,V.plain,Nat.reduceLeDiff,cond_true,cond_false,implies_true,eq_self,ne_eq,reduceIte,reduceCtorEq,Nat.reduceBEq,Nat.reduceLT,Nat.reduceEqDiff,Nat.reduceAdd,Nat.reduceSub,Nat.reduceMul,decide_eq_false o6];exact Mid.mk ⟨rfl,rfl,fun h=>absurd h o6⟩
 rintro ρ1 σ1 ⟨rfl,rfl,hnm⟩;rw[if_neg (fun⟨h1,h2⟩=>by rw[hnm h1]at h2;cases h2)]at hn;refine jm (fun ρ' σ'=>(ρ'=[(1,.d (.lit (.bool below))),(2,.ptr σ.length 0),(35,aA false)]∨ρ'=[(1,.d (.lit (.bool below))),(2,.ptr σ.length 0),(5,.d (ao 0)),(40,aA false)])∧σ'=σ++[fS s]∧((s.op=1∨s.op=6∨s.op=7)→bd s.ex=0)) ?_ ?_
 ·have some7:(s.op=1∨s.op=6∨s.op=7)→eB s below=(if bd s.ex≠0 then bd s.ex else eB s below):=fun h=>by
   by_cases hz:bd s.ex=0
   ·rw[if_neg (by simp[hz])]
   ·rw[if_pos hz,hn,if_pos ⟨h,hz⟩]
  have fin7:(s.op=1∨s.op=6∨s.op=7)→bd s.ex≠0→eB s below=bd s.ex:=fun h hz=>by rw[some7 h,if_pos hz]
  by_cases o1:s.op=1
  ·simp -dsimp -implicitDefEqProofs only[aw,ac,V.copy,V.lend,V.lend1,V.cells,V.boxable,over,al,ah,ae,ai,V.plain,Nat.reduceLeDiff,cond_true,cond_false,implies_true,eq_self,ne_eq,reduceIte,reduceCtorEq,Nat.reduceBEq,Nat.reduceLT,Nat.reduceEqDiff,Nat.reduceAdd,Nat.reduceSub,Nat.reduceMul,decide_eq_true o1];refine aq (by simpa only[aR]using hv _) ?_;by_cases hz:bd s.ex=0
   ·simp -dsimp -implicitDefEqProofs only[aw,ac,V.copy,V.lend,V.lend1,V.cells,V.boxable,over,al,ah,ae,ai,V.plain,Nat.reduceLeDiff,cond_true,cond_false,implies_true,eq_self,ne_eq,reduceIte,reduceCtorEq,Nat.reduceBEq,Nat.reduceLT,Nat.reduceEqDiff,Nat.reduceAdd,Nat.reduceSub,Nat.reduceMul,hz,Int.reduceEq,decide_true,decide_false];exact Mid.mk ⟨.inr rfl,rfl,fun _=>hz⟩
   ·simp -dsimp -implicitDefEqProofs only[aw,ac,V.copy,V.lend,V.lend1,V.cells,V.boxable,over,al,ah,ae,ai,V.plain,Nat.reduceLeDiff,cond_true,cond_false,implies_true,eq_self,ne_eq,reduceIte,reduceCtorEq,Nat.reduceBEq,Nat.reduceLT,Nat.reduceEqDiff,Nat.reduceAdd,Nat.reduceSub,Nat.reduceMul,decide_eq_false hz];exact outE _ _ (fin7 (.inl o1) hz) hz
  by_cases o6:s.op=6
  ·simp -dsimp -implicitDefEqProofs only[aw,ac,V.copy,V.lend,V.lend1,V.cells,V.boxable,over,al,ah,ae,ai,V.plain,Nat.reduceLeDiff,cond_true,cond_false,implies_true,eq_self,ne_eq,reduceIte,reduceCtorEq,Nat.reduceBEq,Nat.reduceLT,Nat.reduceEqDiff,Nat.reduceAdd,Nat.reduceSub,Nat.reduceMul,decide_eq_false o1,decide_eq_true o6];refine aq (by simpa only[aR]using hv _) ?_;by_cases hz:bd s.ex=0
   ·simp -dsimp -implicitDefEqProofs only[aw,ac,V.copy,V.lend,V.lend1,V.cells,V.boxable,over,al,ah,ae,ai,V.plain,Nat.reduceLeDiff,cond_true,cond_false,implies_true,eq_self,ne_eq,reduceIte,reduceCtorEq,Nat.reduceBEq,Nat.reduceLT,Nat.reduceEqDiff,Nat.reduceAdd,Nat.reduceSub,Nat.reduceMul,hz,Int.reduceEq,decide_true,decide_false];exact Mid.mk ⟨.inr rfl,rfl,fun _=>hz⟩
   ·simp -dsimp -implicitDefEqProofs only[aw,ac,V.copy,V.lend,V.lend1,V.cells,V.boxable,over,al,ah,ae,ai,V.plain,Nat.reduceLeDiff,cond_true,cond_false,implies_true,eq_self,ne_eq,reduceIte,reduceCtorEq,Nat.reduceBEq,Nat.reduceLT,Nat.reduceEqDiff,Nat.reduceAdd,Nat.reduceSub,Nat.reduceMul,decide_eq_false hz];exact outE _ _ (fin7 (.inr (.inl o6)) hz) hz
  by_cases o7:s.op=7
  ·simp -dsimp -implicitDefEqProofs only[aw,ac,V.copy,V.lend,V.lend1,V.cells,V.boxable,over,al,ah,ae,ai,V.plain,Nat.reduceLeDiff,cond_true,cond_false,implies_true,eq_self,ne_eq,reduceIte,reduceCtorEq,Nat.reduceBEq,Nat.reduceLT,Nat.reduceEqDiff,Nat.reduceAdd,Nat.reduceSub,Nat.reduceMul,decide_eq_false o1,decide_eq_false o6,decide_eq_true o7];refine aq (by simpa only[aR]using hv _) ?_;by_cases hz:bd s.ex=0
   ·simp -dsimp -implicitDefEqProofs only[aw,ac,V.copy,V.lend,V.lend1,V.cells,V.boxable,over,al,ah,ae,ai,V.plain,Nat.reduceLeDiff,cond_true,cond_false,implies_true,eq_self,ne_eq,reduceIte,reduceCtorEq,Nat.reduceBEq,Nat.reduceLT,Nat.reduceEqDiff,Nat.reduceAdd,Nat.reduceSub,Nat.reduceMul,hz,Int.reduceEq,decide_true,decide_false];exact Mid.mk ⟨.inr rfl,rfl,fun _=>hz⟩
   ·simp -dsimp -implicitDefEqProofs only[aw,ac,V.copy,V.lend,V.lend1,V.cells,V.boxable,over,al,ah,ae,ai,V.plain,Nat.reduceLeDiff,cond_true,cond_false,implies_true,eq_self,ne_eq,reduceIte,reduceCtorEq,Nat.reduceBEq,Nat.reduceLT,Nat.reduceEqDiff,Nat.reduceAdd,Nat.reduceSub,Nat.reduceMul,decide_eq_false hz];exact outE _ _ (fin7 (.inr (.inr o7)) hz) hz
  ·simp -dsimp -implicitDefEqProofs only[aw,ac,V.copy,V.lend,V.lend1,V.cells,V.boxable,over,al,ah,ae,ai,V.plain,Nat.reduceLeDiff,cond_true,cond_false,implies_true,eq_self,ne_eq,reduceIte,reduceCtorEq,Nat.reduceBEq,Nat.reduceLT,Nat.reduceEqDiff,Nat.reduceAdd,Nat.reduceSub,Nat.reduceMul,decide_eq_false o1,decide_eq_false o6,decide_eq_false o7];exact Mid.mk ⟨.inl rfl,rfl,fun h=>by omega⟩
 rintro ρ1 σ1 ⟨hρ,rfl,hz⟩;rw[if_neg (fun⟨h1,h2⟩=>h2 (hz h1))]at hn;refine jm (fun ρ' σ'=>ρ'=[(1,.d (.lit (.bool below))),(2,.ptr σ.length 0),(47,aA false)]∧σ'=σ++[fS s]∧(s.op=6→below=false)) ?_ ?_
 ·by_cases o6:s.op=6
  ·cases below with
   | true=>
    rcases hρ with rfl|rfl
    all_goals
     simp -dsimp -implicitDefEqProofs only[aw,ac,V.copy,V.lend,V.lend1,V.cells,V.boxable,over,al,ah,ae,ai,V.plain,Nat.reduceLeDiff,cond_true,cond_false,implies_true,eq_self,ne_eq,reduceIte,reduceCtorEq,Nat.reduceBEq,Nat.reduceLT,Nat.reduceEqDiff,Nat.reduceAdd,Nat.reduceSub,Nat.reduceMul,decide_eq_true o6];exact outE 13 _ (by rw[hn,if_pos ⟨o6,rfl⟩]) (by omega)
   | false=>
    rcases hρ with rfl|rfl
    all_goals
     simp -dsimp -implicitDefEqProofs only[aw,ac,V.copy,V.lend,V.lend1,V.cells,V.boxable,over,al,ah,ae,ai,V.plain,Nat.reduceLeDiff,cond_true,cond_false,implies_true,eq_self,ne_eq,reduceIte,reduceCtorEq,Nat.reduceBEq,Nat.reduceLT,Nat.reduceEqDiff,Nat.reduceAdd,Nat.reduceSub,Nat.reduceMul,decide_eq_true o6];exact Mid.mk ⟨rfl,rfl,fun _=>rfl⟩
  ·rcases hρ with rfl|rfl
   all_goals
    simp -dsimp -implicitDefEqProofs only[aw,ac,V.copy,V.lend,V.lend1,V.cells,V.boxable,over,al,ah,ae,ai,V.plain,Nat.reduceLeDiff,cond_true,cond_false,implies_true,eq_self,ne_eq,reduceIte,reduceCtorEq,Nat.reduceBEq,Nat.reduceLT,Nat.reduceEqDiff,Nat.reduceAdd,Nat.reduceSub,Nat.reduceMul,decide_eq_false o6];exact Mid.mk ⟨rfl,rfl,fun h=>absurd h o6⟩
 rintro ρ1 σ1 ⟨rfl,rfl,hbl⟩;rw[if_neg (fun⟨h1,h2⟩=>by rw[hbl h1]at h2;cases h2)]at hn;refine jm (fun ρ' σ'=>(ρ'=[(1,.d (.lit (.bool below))),(2,.ptr σ.length 0),(50,aA false)]∨∃x y z,ρ'=[(1,.d (.lit (.bool below))),(2,.ptr σ.length 0),(6,x),(7,y),(8,z),(62,aA false)])∧σ'=σ++[fS s]∧eB s below=0) ?_ ?_
 ·by_cases o7:s.op=7
  ·have hlen:=Ax hsp (.inr o7);obtain⟨a,ha⟩:=List.length_eq_one_iff.1 hlen;have hmem:a∈s.args:=by rw[ha];simp
   have ha0:s.arg0=a:=by unfold Ts.arg0;rw[ha];rfl
   have hidx:iaV 9 (.d (.sl (s.args.map dts))) (V.d (D.lit (Value.int IntKind.i64 0)))=some (.row (dts a) 0):=by rw[ha];simp[iaV,dV,nN]
   have hnl:(ck [2] s.ex).length≤1000000:=by have:=uW s.ex;omega
   have hpl:(fP a).length≤1000000:=by have:=pE a;have:=lD hmem;omega
   have hsets:∀σ,Fun G 78 [vts a,.nil] σ (aG (.d (dy (fP a))) σ):=fun σ=>Dj a (by have:=di hmem;omega) (by have:=lD hmem;omega) (by have:=oz hmem;omega) σ;rw[ha0]at hn;simp -dsimp -implicitDefEqProofs only[aw,ac,V.copy,V.lend,V.lend1,V.cells,V.boxable,over,al,ah,ae,ai,V.plain,Nat.reduceLeDiff,cond_true,cond_false,implies_true,eq_self,ne_eq,reduceIte,reduceCtorEq,Nat.reduceBEq,Nat.reduceLT,Nat.reduceEqDiff,Nat.reduceAdd,Nat.reduceSub,Nat.reduceMul,decide_eq_true o7];refine aS (by simpa only[aR]using xq s.ex (by omega) (by have:=jK s.ex;omega) _) ?_
   simp -dsimp -implicitDefEqProofs only[aw,ac,V.copy,V.lend,V.lend1,V.cells,V.boxable,over,al,ah,ae,ai,V.plain,Nat.reduceLeDiff,cond_true,cond_false,implies_true,eq_self,ne_eq,reduceIte,reduceCtorEq,Nat.reduceBEq,Nat.reduceLT,Nat.reduceEqDiff,Nat.reduceAdd,Nat.reduceSub,Nat.reduceMul,hidx,bP a];refine aS (by simpa only[ax]using hsets _) ?_;simp -dsimp -implicitDefEqProofs only[aw,ac,V.copy,V.lend,V.lend1,V.cells,V.boxable,over,al,ah,ae,ai,V.plain,Nat.reduceLeDiff,cond_true,cond_false,implies_true,eq_self,ne_eq,reduceIte,reduceCtorEq,Nat.reduceBEq,Nat.reduceLT,Nat.reduceEqDiff,Nat.reduceAdd,Nat.reduceSub,Nat.reduceMul,dy];generalize ck [2] s.ex=N at *
   refine ce [1,2,6,7,8] (R:=fun(j:Nat) ρ σ'=>ρ=[(1,.d (.lit (.bool below))),(2,.ptr σ.length 0),(6,.d (.sl (N.map fun s=>[an s]))),(7,.d (.sl ((fP a).map fun s=>[an s]))),(8,aW .i64 j)]∧σ'=σ++[fS s]∧(N.any fun n=>inB n (fP a))=(N.drop j).any fun n=>inB n (fP a)) N.length ⟨rfl,rfl,by simp⟩ ?_ _;rintro j ρ' σ' hj ⟨rfl,rfl,hr⟩;by_cases hlt:j<N.length
   ·rw[CV hlt]at hr;simp -dsimp -implicitDefEqProofs only[aw,ac,V.copy,V.lend,V.lend1,V.cells,V.boxable,over,al,ah,ae,ai,V.plain,Nat.reduceLeDiff,cond_true,cond_false,implies_true,eq_self,ne_eq,reduceIte,reduceCtorEq,Nat.reduceBEq,Nat.reduceLT,Nat.reduceEqDiff,Nat.reduceAdd,Nat.reduceSub,Nat.reduceMul,Int.ofNat_lt,hlt,decide_true,List.getElem?_eq_getElem hlt];refine aq (DS (fP a) N[j] hpl _) ?_;cases hx:inB N[j] (fP a)with
    | true=>
     rw[hx,Bool.true_or]at hr;simp -dsimp -implicitDefEqProofs only[aw,ac,V.copy,V.lend,V.lend1,V.cells,V.boxable,over,al,ah,ae,ai,V.plain,Nat.reduceLeDiff,cond_true,cond_false,implies_true,eq_self,ne_eq,reduceIte,reduceCtorEq,Nat.reduceBEq,Nat.reduceLT,Nat.reduceEqDiff,Nat.reduceAdd,Nat.reduceSub,Nat.reduceMul];exact outE 13 _ (by rw[hn,if_pos ⟨o7,hr⟩]) (by omega)
    | false=>
     rw[hx,Bool.false_or]at hr;simp -dsimp -implicitDefEqProofs only[aw,ac,V.copy,V.lend,V.lend1,V.cells,V.boxable,over,al,ah,ae,ai,V.plain,Nat.reduceLeDiff,cond_true,cond_false,implies_true,eq_self,ne_eq,reduceIte,reduceCtorEq,Nat.reduceBEq,Nat.reduceLT,Nat.reduceEqDiff,Nat.reduceAdd,Nat.reduceSub,Nat.reduceMul,bE hlt (show N.length≤9223372036854775807 by omega)];exact⟨hlt,Nxt.same (by simp) (bj hb rfl) (by simp[aP,V.under]) ⟨rfl,rfl,hr⟩⟩
   ·simp -dsimp -implicitDefEqProofs only[aw,ac,V.copy,V.lend,V.lend1,V.cells,V.boxable,over,al,ah,ae,ai,V.plain,Nat.reduceLeDiff,cond_true,cond_false,implies_true,eq_self,ne_eq,reduceIte,reduceCtorEq,Nat.reduceBEq,Nat.reduceLT,Nat.reduceEqDiff,Nat.reduceAdd,Nat.reduceSub,Nat.reduceMul,Int.ofNat_lt,hlt,decide_false];rw[List.drop_eq_nil_of_le (by omega)]at hr;exact Mid.mk ⟨.inr ⟨_,_,_,rfl⟩,rfl,by rw[hn,hr];simp⟩
  ·simp -dsimp -implicitDefEqProofs only[aw,ac,V.copy,V.lend,V.lend1,V.cells,V.boxable,over,al,ah,ae,ai,V.plain,Nat.reduceLeDiff,cond_true,cond_false,implies_true,eq_self,ne_eq,reduceIte,reduceCtorEq,Nat.reduceBEq,Nat.reduceLT,Nat.reduceEqDiff,Nat.reduceAdd,Nat.reduceSub,Nat.reduceMul,decide_eq_false o7];exact Mid.mk ⟨.inl rfl,rfl,by rw[hn,if_neg (fun h=>o7 h.1)]⟩
 rintro ρ1 σ1 ⟨hρ,rfl,h0⟩;rw[if_pos h0]at hq;rcases hρ with rfl|⟨x,y,z,rfl⟩
 all_goals
  simp -dsimp -implicitDefEqProofs only[aw,ac,V.copy,V.lend,V.lend1,V.cells,V.boxable,over,al,ah,ae,ai,V.plain,Nat.reduceLeDiff,cond_true,cond_false,implies_true,eq_self,ne_eq,reduceIte,reduceCtorEq,Nat.reduceBEq,Nat.reduceLT,Nat.reduceEqDiff,Nat.reduceAdd,Nat.reduceSub,Nat.reduceMul];refine ce [1,2,9] (R:=fun(j:Nat) ρ σ'=>ρ=[(1,.d (.lit (.bool below))),(2,.ptr σ.length 0),(9,aW .i64 j)]∧σ'=σ++[fS s]∧dq s below=gf (s.args.drop j) (below||decide (s.op=5))) s.args.length ⟨rfl,rfl,by rw[List.drop_zero];exact hq⟩ ?_ _;rintro j ρ' σ' hj ⟨rfl,rfl,hrec⟩;by_cases hlt:j<s.args.length
  ·rw[List.drop_eq_getElem_cons hlt]at hrec;simp only[gf]at hrec;have hmem:=List.getElem_mem hlt;have ihj:=ih s.args[j] hmem (below||decide (s.op=5)) (by have:=di hmem;omega) (by have:=lD hmem;omega) (by have:=oz hmem;omega);cases below with
   | true=>
    rw[Bool.true_or]at hrec ihj;simp -dsimp -implicitDefEqProofs only[aw,ac,V.copy,V.lend,V.lend1,V.cells,V.boxable,over,al,ah,ae,ai,V.plain,Nat.reduceLeDiff,cond_true,cond_false,implies_true,eq_self,ne_eq,reduceIte,reduceCtorEq,Nat.reduceBEq,Nat.reduceLT,Nat.reduceEqDiff,Nat.reduceAdd,Nat.reduceSub,Nat.reduceMul,Int.ofNat_lt,hlt,decide_true,List.getElem?_eq_getElem hlt,bP s.args[j]];refine aS (by simpa only[ax]using ihj _) ?_;by_cases h1:dq s.args[j] true=0
    ·rw[if_pos h1]at hrec;simp -dsimp -implicitDefEqProofs only[aw,ac,V.copy,V.lend,V.lend1,V.cells,V.boxable,over,al,ah,ae,ai,V.plain,Nat.reduceLeDiff,cond_true,cond_false,implies_true,eq_self,ne_eq,reduceIte,reduceCtorEq,Nat.reduceBEq,Nat.reduceLT,Nat.reduceEqDiff,Nat.reduceAdd,Nat.reduceSub,Nat.reduceMul,h1,Int.reduceEq,decide_true,decide_false,bE hlt (show s.args.length≤9223372036854775807 by omega)];exact⟨hlt,Nxt.same (by simp) (bj hb rfl) (by simp[aP,V.under]) ⟨rfl,rfl,by rw[Bool.true_or];exact hrec⟩⟩
    ·rw[if_neg h1]at hrec;simp -dsimp -implicitDefEqProofs only[aw,ac,V.copy,V.lend,V.lend1,V.cells,V.boxable,over,al,ah,ae,ai,V.plain,Nat.reduceLeDiff,cond_true,cond_false,implies_true,eq_self,ne_eq,reduceIte,reduceCtorEq,Nat.reduceBEq,Nat.reduceLT,Nat.reduceEqDiff,Nat.reduceAdd,Nat.reduceSub,Nat.reduceMul,decide_eq_false h1];exact out _ _ hrec
   | false=>
    rw[Bool.false_or]at hrec ihj;simp -dsimp -implicitDefEqProofs only[aw,ac,V.copy,V.lend,V.lend1,V.cells,V.boxable,over,al,ah,ae,ai,V.plain,Nat.reduceLeDiff,cond_true,cond_false,implies_true,eq_self,ne_eq,reduceIte,reduceCtorEq,Nat.reduceBEq,Nat.reduceLT,Nat.reduceEqDiff,Nat.reduceAdd,Nat.reduceSub,Nat.reduceMul,Int.ofNat_lt,hlt,decide_true,List.getElem?_eq_getElem hlt,bP s.args[j]];refine aS (by simpa only[ax]using ihj _) ?_;by_cases h1:dq s.args[j] (decide (s.op=5))=0
    ·rw[if_pos h1]at hrec;simp -dsimp -implicitDefEqProofs only[aw,ac,V.copy,V.lend,V.lend1,V.cells,V.boxable,over,al,ah,ae,ai,V.plain,Nat.reduceLeDiff,cond_true,cond_false,implies_true,eq_self,ne_eq,reduceIte,reduceCtorEq,Nat.reduceBEq,Nat.reduceLT,Nat.reduceEqDiff,Nat.reduceAdd,Nat.reduceSub,Nat.reduceMul,h1,Int.reduceEq,decide_true,decide_false,bE hlt (show s.args.length≤9223372036854775807 by omega)];exact⟨hlt,Nxt.same (by simp) (bj hb rfl) (by simp[aP,V.under]) ⟨rfl,rfl,by rw[Bool.false_or];exact hrec⟩⟩
    ·rw[if_neg h1]at hrec;simp -dsimp -implicitDefEqProofs only[aw,ac,V.copy,V.lend,V.lend1,V.cells,V.boxable,over,al,ah,ae,ai,V.plain,Nat.reduceLeDiff,cond_true,cond_false,implies_true,eq_self,ne_eq,reduceIte,reduceCtorEq,Nat.reduceBEq,Nat.reduceLT,Nat.reduceEqDiff,Nat.reduceAdd,Nat.reduceSub,Nat.reduceMul,decide_eq_false h1];exact out _ _ hrec
  ·simp -dsimp -implicitDefEqProofs only[aw,ac,V.copy,V.lend,V.lend1,V.cells,V.boxable,over,al,ah,ae,ai,V.plain,Nat.reduceLeDiff,cond_true,cond_false,implies_true,eq_self,ne_eq,reduceIte,reduceCtorEq,Nat.reduceBEq,Nat.reduceLT,Nat.reduceEqDiff,Nat.reduceAdd,Nat.reduceSub,Nat.reduceMul,Int.ofNat_lt,hlt,decide_false];rw[List.drop_eq_nil_of_le (by omega)]at hrec;exact out 0 _ (by rw[hrec];rfl)
theorem iH(s:Ts)(hs:bq s≤1000000)(σ:List (List V)):Fun G 19 [vts s] σ (aG (.d (ao (cq s))) σ):=by
 refine aD Tryz.func19 k19 (by simp only[ax];rfl) fun hb hw=>?_;unfold c19
 have out:∀(n:Int) (l:List (List V)),cq s=n→fin σ.length J3 (aG (.d (ao (cq s))) σ) .ret [(2,.d (.lit (.int .i64 n)))] (σ++l):=fun n l h=>by
  rw[h];exact am hb rfl rfl List.take_left ⟨rfl,rfl⟩
 simp -dsimp -implicitDefEqProofs only[aw,ac,V.copy,V.lend,V.lend1,V.cells,V.boxable,over,al,ah,ae,ai,V.plain,Nat.reduceLeDiff,cond_true,cond_false,implies_true,eq_self,ne_eq,reduceIte,reduceCtorEq,Nat.reduceBEq,Nat.reduceLT,Nat.reduceEqDiff,Nat.reduceAdd,Nat.reduceSub,Nat.reduceMul,ax];refine aq (by simpa only[ax]using uM s 100 8 hs (by omega) (by omega) (by omega) (by omega) _) ?_;by_cases h1:8<tdp s∨100<tsz s
 ·rw[BS h1];simp -dsimp -implicitDefEqProofs only[aw,ac,V.copy,V.lend,V.lend1,V.cells,V.boxable,over,al,ah,ae,ai,V.plain,Nat.reduceLeDiff,cond_true,cond_false,implies_true,eq_self,ne_eq,reduceIte,reduceCtorEq,Nat.reduceBEq,Nat.reduceLT,Nat.reduceEqDiff,Nat.reduceAdd,Nat.reduceSub,Nat.reduceMul,Int.reduceLT,decide_true];exact out 2 _ (by unfold cq;rw[if_pos h1])
 ·have h2:=uS (s:=s) (by omega) (by omega);have h3:¬fH s 100 8<0:=by omega
  simp -dsimp -implicitDefEqProofs only[aw,ac,V.copy,V.lend,V.lend1,V.cells,V.boxable,over,al,ah,ae,ai,V.plain,Nat.reduceLeDiff,cond_true,cond_false,implies_true,eq_self,ne_eq,reduceIte,reduceCtorEq,Nat.reduceBEq,Nat.reduceLT,Nat.reduceEqDiff,Nat.reduceAdd,Nat.reduceSub,Nat.reduceMul,decide_eq_false h3];refine aq (by simpa only[ax]using Bk s false hs (by omega) (by omega) _) ?_;simp -dsimp -implicitDefEqProofs only[aw,ac,V.copy,V.lend,V.lend1,V.cells,V.boxable,over,al,ah,ae,ai,V.plain,Nat.reduceLeDiff,cond_true,cond_false,implies_true,eq_self,ne_eq,reduceIte,reduceCtorEq,Nat.reduceBEq,Nat.reduceLT,Nat.reduceEqDiff,Nat.reduceAdd,Nat.reduceSub,Nat.reduceMul];exact out _ _ (by unfold cq;rw[if_neg h1])
end Go.Proofs.YthekkgfmagliiaaGreatDoor
