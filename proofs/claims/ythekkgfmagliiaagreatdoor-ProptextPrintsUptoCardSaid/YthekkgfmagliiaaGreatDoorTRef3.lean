import Derived.Test.YthekkgfmagliiaaGreatDoorTRef2
import Derived.Test.YthekkgfmagliiaaGreatDoorTFold
set_option linter.unusedVariables false
set_option linter.unusedSimpArgs false
set_option linter.unusedSectionVars false
namespace Go.Proofs.YthekkgfmagliiaaGreatDoor
open Go.RowKit
theorem yA{l:List ByteArray}{p:ByteArray→Bool}{j:Nat}(h:j<l.length):(l.drop j).any p=(p l[j]||(l.drop (j+1)).any p):=by
 rw[List.drop_eq_getElem_cons h];rfl
theorem yb(s:Ts)(n:ByteArray):inB n (ez s)=inB n (tnm s):=by
 have h:=(nS s).2 n;unfold inB;rw[Bool.eq_iff_iff,List.any_eq_true,List.any_eq_true];constructor
 ·rintro⟨x,hx,e⟩;have:=of_decide_eq_true e;subst this;exact⟨x,h.1 hx,by simp⟩
 ·rintro⟨x,hx,e⟩;have:=of_decide_eq_true e;subst this;exact⟨x,h.2 hx,by simp⟩
theorem uO{s:Ts}(h:dP s=true)(o:s.op=6∨s.op=7):s.args.length=1:=by
 rw[lX,Bool.and_eq_true]at h;have h1:=h.1;unfold dM at h1;rw[if_neg (by omega),if_neg (by omega),if_neg (by omega),if_neg (by omega),if_pos o,Bool.and_eq_true]at h1;simpa using h1.1
theorem uJ(s:Ts)(below:Bool):dD s below=
 if dP s=false then 1
 else if s.op=6∧bj s.name=false then 7
 else if(s.op=1∨s.op=6∨s.op=7)∧bc s.ex≠0 then bc s.ex
 else if s.op=6∧below=true then 13
 else if s.op=7∧((b5 [2] s.ex).any fun n=>inB n (ez s.arg0))=true then 13
 else 0:=by
 have hw:bX s.op=true↔(s.op=1∨s.op=6∨s.op=7):=by
  unfold bX;simp only[Bool.or_eq_true,decide_eq_true_eq]
 have hc:((!dM s||((!bX s.op && !eC s.ex)||(decide (s.op≠6)&&decide (s.name≠⟨#[]⟩))))=true)↔dP s=false:=by
  rw[lX];unfold nmB;cases dM s<;>cases bX s.op<;>cases eC s.ex<;>by_cases h6:s.op=6<;>by_cases hn:s.name=⟨#[]⟩<;>simp[h6,hn]
 have hi:((b5 [2] s.ex).any fun n=>inB n (ez s.arg0))=((b5 [2] s.ex).any fun n=>inB n (tnm s.arg0)):=by
  congr 1;funext n;exact yb s.arg0 n
 rw[hi];unfold dD;simp only[hc,hw,Bool.and_eq_true,decide_eq_true_eq,Bool.not_eq_true']
set_option maxHeartbeats 1000000 in
theorem u9(s:Ts):∀(below:Bool),bC s≤1000000→tsz s≤100→tdp s≤8→∀σ,Fun G 40 [vts s,.d (.lit (.bool below))] σ (aB (.d (an (cN s below))) σ):=by
 induction s using Ts.ind with
 | h s ih=>
 intro below hs h100 h8 σ;have hln:=cU s;have hsz:=dJ s;have hq:=gW s below;have hn:=uJ s below;have hv:∀σ,Fun G 76 [vex s.ex] σ (aB (.d (an (bc s.ex))) σ):=mb s.ex (by omega) (by have:=fK s.ex;omega);refine ax Tryz.func40 k40 (by simp only[aq];rfl) fun hb hw=>?_;unfold c40
 have out:∀(n:Int) (l:List (List V)),cN s below=n→fin σ.length CS (aB (.d (an (cN s below))) σ) .ret [(4,.d (.lit (.int .i64 n)))] (σ++l):=fun n l h=>by
  rw[h];exact aj hb rfl rfl List.take_left ⟨rfl,rfl⟩
 have outE:∀(n:Int) (l:List (List V)),dD s below=n→n≠0→fin σ.length CS (aB (.d (an (cN s below))) σ) .ret [(4,.d (.lit (.int .i64 n)))] (σ++l):=fun n l h h0=>out n l (by rw[hq,if_neg (by omega),h]);refine dK [(1,.d (.lit (.bool below))),(2,.ptr σ.length 0)] (σ++[eB s]) ?_ ?_
 ·simp -dsimp -implicitDefEqProofs only[aw,ac,V.copy,V.lend,V.lend1,V.cells,V.boxable,over,al,ah,ae,ai,V.plain,Nat.reduceLeDiff,cond_true,cond_false,implies_true,eq_self,ne_eq,reduceIte,reduceCtorEq,Nat.reduceBEq,Nat.reduceLT,Nat.reduceEqDiff,Nat.reduceAdd,Nat.reduceSub,Nat.reduceMul,aq]
 refine gL (fun ρ' σ'=>ρ'=[(1,.d (.lit (.bool below))),(2,.ptr σ.length 0),(13,aD false)]∧σ'=σ++[eB s]∧dP s=true) ?_ ?_
 ·simp -dsimp -implicitDefEqProofs only[aw,ac,V.copy,V.lend,V.lend1,V.cells,V.boxable,over,al,ah,ae,ai,V.plain,Nat.reduceLeDiff,cond_true,cond_false,implies_true,eq_self,ne_eq,reduceIte,reduceCtorEq,Nat.reduceBEq,Nat.reduceLT,Nat.reduceEqDiff,Nat.reduceAdd,Nat.reduceSub,Nat.reduceMul];refine ao (by simpa only[aq]using rN s (by omega) _) ?_;cases hsp:dP s with
  | false=>
   simp -dsimp -implicitDefEqProofs only[aw,ac,V.copy,V.lend,V.lend1,V.cells,V.boxable,over,al,ah,ae,ai,V.plain,Nat.reduceLeDiff,cond_true,cond_false,implies_true,eq_self,ne_eq,reduceIte,reduceCtorEq,Nat.reduceBEq,Nat.reduceLT,Nat.reduceEqDiff,Nat.reduceAdd,Nat.reduceSub,Nat.reduceMul];exact outE 1 _ (by rw[hn,if_pos hsp]) (by omega)
  | true=>
   simp -dsimp -implicitDefEqProofs only[aw,ac,V.copy,V.lend,V.lend1,V.cells,V.boxable,over,al,ah,ae,ai,V.plain,Nat.reduceLeDiff,cond_true,cond_false,implies_true,eq_self,ne_eq,reduceIte,reduceCtorEq,Nat.reduceBEq,Nat.reduceLT,Nat.reduceEqDiff,Nat.reduceAdd,Nat.reduceSub,Nat.reduceMul];exact Mid.mk ⟨rfl,rfl,rfl⟩
 rintro ρ1 σ1 ⟨rfl,rfl,hsp⟩;rw[if_neg (by rw[hsp];simp)]at hn;refine gL (fun ρ' σ'=>ρ'=[(1,.d (.lit (.bool below))),(2,.ptr σ.length 0),(22,aD false)]∧σ'=σ++[eB s]∧(s.op=6→bj s.name=true)) ?_ ?_
 ·by_cases o6:s.op=6
  ·simp -dsimp -implicitDefEqProofs only[aw,ac,V.copy,V.lend,V.lend1,V.cells,V.boxable,over,al,ah,ae,ai,V.plain,Nat.reduceLeDiff,cond_true,cond_false,implies_true,eq_self,ne_eq,reduceIte,reduceCtorEq,Nat.reduceBEq,Nat.reduceLT,Nat.reduceEqDiff,Nat.reduceAdd,Nat.reduceSub,Nat.reduceMul,decide_eq_true o6];refine ao (kw s.name _) ?_;cases hnm:bj s.name with
   | false=>
    simp -dsimp -implicitDefEqProofs only[aw,ac,V.copy,V.lend,V.lend1,V.cells,V.boxable,over,al,ah,ae,ai,V.plain,Nat.reduceLeDiff,cond_true,cond_false,implies_true,eq_self,ne_eq,reduceIte,reduceCtorEq,Nat.reduceBEq,Nat.reduceLT,Nat.reduceEqDiff,Nat.reduceAdd,Nat.reduceSub,Nat.reduceMul];exact outE 7 _ (by rw[hn,if_pos ⟨o6,hnm⟩]) (by omega)
   | true=>
    simp -dsimp -implicitDefEqProofs only[aw,ac,V.copy,V.lend,V.lend1,V.cells,V.boxable,over,al,ah,ae,ai,V.plain,Nat.reduceLeDiff,cond_true,cond_false,implies_true,eq_self,ne_eq,reduceIte,reduceCtorEq,Nat.reduceBEq,Nat.reduceLT,Nat.reduceEqDiff,Nat.reduceAdd,Nat.reduceSub,Nat.reduceMul];exact Mid.mk ⟨rfl,rfl,fun _=>rfl⟩
  ·simp -dsimp -implicitDefEqProofs only[aw,ac,V.copy,V.lend,V.lend1,V.cells,V.boxable,over,al,ah,ae,ai,V.plain,Nat.reduceLeDiff,cond_true,cond_false,implies_true,eq_self,ne_eq,reduceIte,reduceCtorEq,Nat.reduceBEq,Nat.reduceLT,Nat.reduceEqDiff,Nat.reduceAdd,Nat.reduceSub,Nat.reduceMul,decide_eq_false o6];exact Mid.mk ⟨rfl,rfl,fun h=>absurd h o6⟩
 rintro ρ1 σ1 ⟨rfl,rfl,hnm⟩;rw[if_neg (fun⟨h1,h2⟩=>by rw[hnm h1]at h2;cases h2)]at hn;refine gL (fun ρ' σ'=>(ρ'=[(1,.d (.lit (.bool below))),(2,.ptr σ.length 0),(35,aD false)]∨ρ'=[(1,.d (.lit (.bool below))),(2,.ptr σ.length 0),(5,.d (an 0)),(40,aD false)])∧σ'=σ++[eB s]∧((s.op=1∨s.op=6∨s.op=7)→bc s.ex=0)) ?_ ?_
 ·have some7:(s.op=1∨s.op=6∨s.op=7)→dD s below=(if bc s.ex≠0 then bc s.ex else dD s below):=fun h=>by
   by_cases hz:bc s.ex=0
   ·rw[if_neg (by simp[hz])]
   ·rw[if_pos hz,hn,if_pos ⟨h,hz⟩]
  have fin7:(s.op=1∨s.op=6∨s.op=7)→bc s.ex≠0→dD s below=bc s.ex:=fun h hz=>by rw[some7 h,if_pos hz]
  by_cases o1:s.op=1
  ·simp -dsimp -implicitDefEqProofs only[aw,ac,V.copy,V.lend,V.lend1,V.cells,V.boxable,over,al,ah,ae,ai,V.plain,Nat.reduceLeDiff,cond_true,cond_false,implies_true,eq_self,ne_eq,reduceIte,reduceCtorEq,Nat.reduceBEq,Nat.reduceLT,Nat.reduceEqDiff,Nat.reduceAdd,Nat.reduceSub,Nat.reduceMul,decide_eq_true o1];refine ao (by simpa only[aG]using hv _) ?_;by_cases hz:bc s.ex=0
   ·simp -dsimp -implicitDefEqProofs only[aw,ac,V.copy,V.lend,V.lend1,V.cells,V.boxable,over,al,ah,ae,ai,V.plain,Nat.reduceLeDiff,cond_true,cond_false,implies_true,eq_self,ne_eq,reduceIte,reduceCtorEq,Nat.reduceBEq,Nat.reduceLT,Nat.reduceEqDiff,Nat.reduceAdd,Nat.reduceSub,Nat.reduceMul,hz,Int.reduceEq,decide_true,decide_false];exact Mid.mk ⟨.inr rfl,rfl,fun _=>hz⟩
   ·simp -dsimp -implicitDefEqProofs only[aw,ac,V.copy,V.lend,V.lend1,V.cells,V.boxable,over,al,ah,ae,ai,V.plain,Nat.reduceLeDiff,cond_true,cond_false,implies_true,eq_self,ne_eq,reduceIte,reduceCtorEq,Nat.reduceBEq,Nat.reduceLT,Nat.reduceEqDiff,Nat.reduceAdd,Nat.reduceSub,Nat.reduceMul,decide_eq_false hz];exact outE _ _ (fin7 (.inl o1) hz) hz
  by_cases o6:s.op=6
  ·simp -dsimp -implicitDefEqProofs only[aw,ac,V.copy,V.lend,V.lend1,V.cells,V.boxable,over,al,ah,ae,ai,V.plain,Nat.reduceLeDiff,cond_true,cond_false,implies_true,eq_self,ne_eq,reduceIte,reduceCtorEq,Nat.reduceBEq,Nat.reduceLT,Nat.reduceEqDiff,Nat.reduceAdd,Nat.reduceSub,Nat.reduceMul,decide_eq_false o1,decide_eq_true o6];refine ao (by simpa only[aG]using hv _) ?_;by_cases hz:bc s.ex=0
   ·simp -dsimp -implicitDefEqProofs only[aw,ac,V.copy,V.lend,V.lend1,V.cells,V.boxable,over,al,ah,ae,ai,V.plain,Nat.reduceLeDiff,cond_true,cond_false,implies_true,eq_self,ne_eq,reduceIte,reduceCtorEq,Nat.reduceBEq,Nat.reduceLT,Nat.reduceEqDiff,Nat.reduceAdd,Nat.reduceSub,Nat.reduceMul,hz,Int.reduceEq,decide_true,decide_false];exact Mid.mk ⟨.inr rfl,rfl,fun _=>hz⟩
   ·simp -dsimp -implicitDefEqProofs only[aw,ac,V.copy,V.lend,V.lend1,V.cells,V.boxable,over,al,ah,ae,ai,V.plain,Nat.reduceLeDiff,cond_true,cond_false,implies_true,eq_self,ne_eq,reduceIte,reduceCtorEq,Nat.reduceBEq,Nat.reduceLT,Nat.reduceEqDiff,Nat.reduceAdd,Nat.reduceSub,Nat.reduceMul,decide_eq_false hz];exact outE _ _ (fin7 (.inr (.inl o6)) hz) hz
  by_cases o7:s.op=7
  ·simp -dsimp -implicitDefEqProofs only[aw,ac,V.copy,V.lend,V.lend1,V.cells,V.boxable,over,al,ah,ae,ai,V.plain,Nat.reduceLeDiff,cond_true,cond_false,implies_true,eq_self,ne_eq,reduceIte,reduceCtorEq,Nat.reduceBEq,Nat.reduceLT,Nat.reduceEqDiff,Nat.reduceAdd,Nat.reduceSub,Nat.reduceMul,decide_eq_false o1,decide_eq_false o6,decide_eq_true o7];refine ao (by simpa only[aG]using hv _) ?_;by_cases hz:bc s.ex=0
   ·simp -dsimp -implicitDefEqProofs only[aw,ac,V.copy,V.lend,V.lend1,V.cells,V.boxable,over,al,ah,ae,ai,V.plain,Nat.reduceLeDiff,cond_true,cond_false,implies_true,eq_self,ne_eq,reduceIte,reduceCtorEq,Nat.reduceBEq,Nat.reduceLT,Nat.reduceEqDiff,Nat.reduceAdd,Nat.reduceSub,Nat.reduceMul,hz,Int.reduceEq,decide_true,decide_false];exact Mid.mk ⟨.inr rfl,rfl,fun _=>hz⟩
   ·simp -dsimp -implicitDefEqProofs only[aw,ac,V.copy,V.lend,V.lend1,V.cells,V.boxable,over,al,ah,ae,ai,V.plain,Nat.reduceLeDiff,cond_true,cond_false,implies_true,eq_self,ne_eq,reduceIte,reduceCtorEq,Nat.reduceBEq,Nat.reduceLT,Nat.reduceEqDiff,Nat.reduceAdd,Nat.reduceSub,Nat.reduceMul,decide_eq_false hz];exact outE _ _ (fin7 (.inr (.inr o7)) hz) hz
  ·simp -dsimp -implicitDefEqProofs only[aw,ac,V.copy,V.lend,V.lend1,V.cells,V.boxable,over,al,ah,ae,ai,V.plain,Nat.reduceLeDiff,cond_true,cond_false,implies_true,eq_self,ne_eq,reduceIte,reduceCtorEq,Nat.reduceBEq,Nat.reduceLT,Nat.reduceEqDiff,Nat.reduceAdd,Nat.reduceSub,Nat.reduceMul,decide_eq_false o1,decide_eq_false o6,decide_eq_false o7];exact Mid.mk ⟨.inl rfl,rfl,fun h=>by omega⟩
 rintro ρ1 σ1 ⟨hρ,rfl,hz⟩;rw[if_neg (fun⟨h1,h2⟩=>h2 (hz h1))]at hn;refine gL (fun ρ' σ'=>ρ'=[(1,.d (.lit (.bool below))),(2,.ptr σ.length 0),(47,aD false)]∧σ'=σ++[eB s]∧(s.op=6→below=false)) ?_ ?_
 ·by_cases o6:s.op=6
  ·cases below with
   | true=>
    rcases hρ with rfl|rfl
    all_goals
     simp -dsimp -implicitDefEqProofs only[aw,ac,V.copy,V.lend,V.lend1,V.cells,V.boxable,over,al,ah,ae,ai,V.plain,Nat.reduceLeDiff,cond_true,cond_false,implies_true,eq_self,ne_eq,reduceIte,reduceCtorEq,Nat.reduceBEq,Nat.reduceLT,Nat.reduceEqDiff,Nat.reduceAdd,Nat.reduceSub,Nat.reduceMul,decide_eq_true o6];exact outE 13 _ (by rw[hn,if_pos ⟨o6,rfl⟩]) (by omega)
   | false=>
    rcases hρ with rfl|rfl
    all_goals
     simp -dsimp -implicitDefEqProofs only[aw,ac,V.copy,V.lend,V.lend1,V.cells,V.boxable,over,al,ah,ae,ai,V.plain,Nat.reduceLeDiff,cond_true,cond_false,implies_true,eq_self,ne_eq,reduceIte,reduceCtorEq,Nat.reduceBEq,Nat.reduceLT,Nat.reduceEqDiff,Nat.reduceAdd,Nat.reduceSub,Nat.reduceMul,decide_eq_true o6];exact Mid.mk ⟨rfl,rfl,fun _=>rfl⟩
  ·rcases hρ with rfl|rfl
   all_goals
    simp -dsimp -implicitDefEqProofs only[aw,ac,V.copy,V.lend,V.lend1,V.cells,V.boxable,over,al,ah,ae,ai,V.plain,Nat.reduceLeDiff,cond_true,cond_false,implies_true,eq_self,ne_eq,reduceIte,reduceCtorEq,Nat.reduceBEq,Nat.reduceLT,Nat.reduceEqDiff,Nat.reduceAdd,Nat.reduceSub,Nat.reduceMul,decide_eq_false o6];exact Mid.mk ⟨rfl,rfl,fun h=>absurd h o6⟩
 rintro ρ1 σ1 ⟨rfl,rfl,hbl⟩;rw[if_neg (fun⟨h1,h2⟩=>by rw[hbl h1]at h2;cases h2)]at hn;refine gL (fun ρ' σ'=>(ρ'=[(1,.d (.lit (.bool below))),(2,.ptr σ.length 0),(50,aD false)]∨∃x y z,ρ'=[(1,.d (.lit (.bool below))),(2,.ptr σ.length 0),(6,x),(7,y),(8,z),(62,aD false)])∧σ'=σ++[eB s]∧dD s below=0) ?_ ?_
 ·by_cases o7:s.op=7
  ·have hlen:=uO hsp (.inr o7);obtain⟨a,ha⟩:=List.length_eq_one_iff.1 hlen;have hmem:a∈s.args:=by rw[ha];simp
   have ha0:s.arg0=a:=by unfold Ts.arg0;rw[ha];rfl
   have hidx:iaV 9 (.d (.sl (s.args.map dts))) (V.d (D.lit (Value.int IntKind.i64 0)))=some (.row (dts a) 0):=by rw[ha];simp[iaV,dj,li]
   have hnl:(b5 [2] s.ex).length≤1000000:=by have:=pp s.ex;omega
   have hpl:(ez a).length≤1000000:=by have:=mn a;have:=jp hmem;omega
   have hsets:∀σ,Fun G 78 [vts a,.nil] σ (aB (.d (cj (ez a))) σ):=fun σ=>w9 a (by have:=ct hmem;omega) (by have:=jp hmem;omega) (by have:=lL hmem;omega) σ;rw[ha0]at hn;simp -dsimp -implicitDefEqProofs only[aw,ac,V.copy,V.lend,V.lend1,V.cells,V.boxable,over,al,ah,ae,ai,V.plain,Nat.reduceLeDiff,cond_true,cond_false,implies_true,eq_self,ne_eq,reduceIte,reduceCtorEq,Nat.reduceBEq,Nat.reduceLT,Nat.reduceEqDiff,Nat.reduceAdd,Nat.reduceSub,Nat.reduceMul,decide_eq_true o7];refine ay (by simpa only[aG]using rI s.ex (by omega) (by have:=fK s.ex;omega) _) ?_
   simp -dsimp -implicitDefEqProofs only[aw,ac,V.copy,V.lend,V.lend1,V.cells,V.boxable,over,al,ah,ae,ai,V.plain,Nat.reduceLeDiff,cond_true,cond_false,implies_true,eq_self,ne_eq,reduceIte,reduceCtorEq,Nat.reduceBEq,Nat.reduceLT,Nat.reduceEqDiff,Nat.reduceAdd,Nat.reduceSub,Nat.reduceMul,hidx,aW a];refine ay (by simpa only[aq]using hsets _) ?_;simp -dsimp -implicitDefEqProofs only[aw,ac,V.copy,V.lend,V.lend1,V.cells,V.boxable,over,al,ah,ae,ai,V.plain,Nat.reduceLeDiff,cond_true,cond_false,implies_true,eq_self,ne_eq,reduceIte,reduceCtorEq,Nat.reduceBEq,Nat.reduceLT,Nat.reduceEqDiff,Nat.reduceAdd,Nat.reduceSub,Nat.reduceMul,cj];generalize b5 [2] s.ex=N at *
   refine bD [1,2,6,7,8] (R:=fun(j:Nat) ρ σ'=>ρ=[(1,.d (.lit (.bool below))),(2,.ptr σ.length 0),(6,.d (.sl (N.map fun s=>[ak s]))),(7,.d (.sl ((ez a).map fun s=>[ak s]))),(8,aU .i64 j)]∧σ'=σ++[eB s]∧(N.any fun n=>inB n (ez a))=(N.drop j).any fun n=>inB n (ez a)) N.length ⟨rfl,rfl,by simp⟩ ?_ _;rintro j ρ' σ' hj ⟨rfl,rfl,hr⟩;by_cases hlt:j<N.length
   ·rw[yA hlt]at hr;simp -dsimp -implicitDefEqProofs only[aw,ac,V.copy,V.lend,V.lend1,V.cells,V.boxable,over,al,ah,ae,ai,V.plain,Nat.reduceLeDiff,cond_true,cond_false,implies_true,eq_self,ne_eq,reduceIte,reduceCtorEq,Nat.reduceBEq,Nat.reduceLT,Nat.reduceEqDiff,Nat.reduceAdd,Nat.reduceSub,Nat.reduceMul,Int.ofNat_lt,hlt,decide_true,List.getElem?_eq_getElem hlt];refine ao (yN (ez a) N[j] hpl _) ?_;cases hx:inB N[j] (ez a)with
    | true=>
     rw[hx,Bool.true_or]at hr;simp -dsimp -implicitDefEqProofs only[aw,ac,V.copy,V.lend,V.lend1,V.cells,V.boxable,over,al,ah,ae,ai,V.plain,Nat.reduceLeDiff,cond_true,cond_false,implies_true,eq_self,ne_eq,reduceIte,reduceCtorEq,Nat.reduceBEq,Nat.reduceLT,Nat.reduceEqDiff,Nat.reduceAdd,Nat.reduceSub,Nat.reduceMul];exact outE 13 _ (by rw[hn,if_pos ⟨o7,hr⟩]) (by omega)
    | false=>
     rw[hx,Bool.false_or]at hr;simp -dsimp -implicitDefEqProofs only[aw,ac,V.copy,V.lend,V.lend1,V.cells,V.boxable,over,al,ah,ae,ai,V.plain,Nat.reduceLeDiff,cond_true,cond_false,implies_true,eq_self,ne_eq,reduceIte,reduceCtorEq,Nat.reduceBEq,Nat.reduceLT,Nat.reduceEqDiff,Nat.reduceAdd,Nat.reduceSub,Nat.reduceMul,be hlt (show N.length≤9223372036854775807 by omega)];exact⟨hlt,Nxt.same (by simp) (aS hb rfl) (by simp[aN,V.under]) ⟨rfl,rfl,hr⟩⟩
   ·simp -dsimp -implicitDefEqProofs only[aw,ac,V.copy,V.lend,V.lend1,V.cells,V.boxable,over,al,ah,ae,ai,V.plain,Nat.reduceLeDiff,cond_true,cond_false,implies_true,eq_self,ne_eq,reduceIte,reduceCtorEq,Nat.reduceBEq,Nat.reduceLT,Nat.reduceEqDiff,Nat.reduceAdd,Nat.reduceSub,Nat.reduceMul,Int.ofNat_lt,hlt,decide_false];rw[List.drop_eq_nil_of_le (by omega)]at hr;exact Mid.mk ⟨.inr ⟨_,_,_,rfl⟩,rfl,by rw[hn,hr];simp⟩
  ·simp -dsimp -implicitDefEqProofs only[aw,ac,V.copy,V.lend,V.lend1,V.cells,V.boxable,over,al,ah,ae,ai,V.plain,Nat.reduceLeDiff,cond_true,cond_false,implies_true,eq_self,ne_eq,reduceIte,reduceCtorEq,Nat.reduceBEq,Nat.reduceLT,Nat.reduceEqDiff,Nat.reduceAdd,Nat.reduceSub,Nat.reduceMul,decide_eq_false o7];exact Mid.mk ⟨.inl rfl,rfl,by rw[hn,if_neg (fun h=>o7 h.1)]⟩
 rintro ρ1 σ1 ⟨hρ,rfl,h0⟩;rw[if_pos h0]at hq;rcases hρ with rfl|⟨x,y,z,rfl⟩
 all_goals
  simp -dsimp -implicitDefEqProofs only[aw,ac,V.copy,V.lend,V.lend1,V.cells,V.boxable,over,al,ah,ae,ai,V.plain,Nat.reduceLeDiff,cond_true,cond_false,implies_true,eq_self,ne_eq,reduceIte,reduceCtorEq,Nat.reduceBEq,Nat.reduceLT,Nat.reduceEqDiff,Nat.reduceAdd,Nat.reduceSub,Nat.reduceMul];refine bD [1,2,9] (R:=fun(j:Nat) ρ σ'=>ρ=[(1,.d (.lit (.bool below))),(2,.ptr σ.length 0),(9,aU .i64 j)]∧σ'=σ++[eB s]∧cN s below=eM (s.args.drop j) (below||decide (s.op=5))) s.args.length ⟨rfl,rfl,by rw[List.drop_zero];exact hq⟩ ?_ _;rintro j ρ' σ' hj ⟨rfl,rfl,hrec⟩;by_cases hlt:j<s.args.length
  ·rw[List.drop_eq_getElem_cons hlt]at hrec;simp only[eM]at hrec;have hmem:=List.getElem_mem hlt;have ihj:=ih s.args[j] hmem (below||decide (s.op=5)) (by have:=ct hmem;omega) (by have:=jp hmem;omega) (by have:=lL hmem;omega);cases below with
   | true=>
    rw[Bool.true_or]at hrec ihj;simp -dsimp -implicitDefEqProofs only[aw,ac,V.copy,V.lend,V.lend1,V.cells,V.boxable,over,al,ah,ae,ai,V.plain,Nat.reduceLeDiff,cond_true,cond_false,implies_true,eq_self,ne_eq,reduceIte,reduceCtorEq,Nat.reduceBEq,Nat.reduceLT,Nat.reduceEqDiff,Nat.reduceAdd,Nat.reduceSub,Nat.reduceMul,Int.ofNat_lt,hlt,decide_true,List.getElem?_eq_getElem hlt,aW s.args[j]];refine ay (by simpa only[aq]using ihj _) ?_;by_cases h1:cN s.args[j] true=0
    ·rw[if_pos h1]at hrec;simp -dsimp -implicitDefEqProofs only[aw,ac,V.copy,V.lend,V.lend1,V.cells,V.boxable,over,al,ah,ae,ai,V.plain,Nat.reduceLeDiff,cond_true,cond_false,implies_true,eq_self,ne_eq,reduceIte,reduceCtorEq,Nat.reduceBEq,Nat.reduceLT,Nat.reduceEqDiff,Nat.reduceAdd,Nat.reduceSub,Nat.reduceMul,h1,Int.reduceEq,decide_true,decide_false,be hlt (show s.args.length≤9223372036854775807 by omega)];exact⟨hlt,Nxt.same (by simp) (aS hb rfl) (by simp[aN,V.under]) ⟨rfl,rfl,by rw[Bool.true_or];exact hrec⟩⟩
    ·rw[if_neg h1]at hrec;simp -dsimp -implicitDefEqProofs only[aw,ac,V.copy,V.lend,V.lend1,V.cells,V.boxable,over,al,ah,ae,ai,V.plain,Nat.reduceLeDiff,cond_true,cond_false,implies_true,eq_self,ne_eq,reduceIte,reduceCtorEq,Nat.reduceBEq,Nat.reduceLT,Nat.reduceEqDiff,Nat.reduceAdd,Nat.reduceSub,Nat.reduceMul,decide_eq_false h1];exact out _ _ hrec
   | false=>
    rw[Bool.false_or]at hrec ihj;simp -dsimp -implicitDefEqProofs only[aw,ac,V.copy,V.lend,V.lend1,V.cells,V.boxable,over,al,ah,ae,ai,V.plain,Nat.reduceLeDiff,cond_true,cond_false,implies_true,eq_self,ne_eq,reduceIte,reduceCtorEq,Nat.reduceBEq,Nat.reduceLT,Nat.reduceEqDiff,Nat.reduceAdd,Nat.reduceSub,Nat.reduceMul,Int.ofNat_lt,hlt,decide_true,List.getElem?_eq_getElem hlt,aW s.args[j]];refine ay (by simpa only[aq]using ihj _) ?_;by_cases h1:cN s.args[j] (decide (s.op=5))=0
    ·rw[if_pos h1]at hrec;simp -dsimp -implicitDefEqProofs only[aw,ac,V.copy,V.lend,V.lend1,V.cells,V.boxable,over,al,ah,ae,ai,V.plain,Nat.reduceLeDiff,cond_true,cond_false,implies_true,eq_self,ne_eq,reduceIte,reduceCtorEq,Nat.reduceBEq,Nat.reduceLT,Nat.reduceEqDiff,Nat.reduceAdd,Nat.reduceSub,Nat.reduceMul,h1,Int.reduceEq,decide_true,decide_false,be hlt (show s.args.length≤9223372036854775807 by omega)];exact⟨hlt,Nxt.same (by simp) (aS hb rfl) (by simp[aN,V.under]) ⟨rfl,rfl,by rw[Bool.false_or];exact hrec⟩⟩
    ·rw[if_neg h1]at hrec;simp -dsimp -implicitDefEqProofs only[aw,ac,V.copy,V.lend,V.lend1,V.cells,V.boxable,over,al,ah,ae,ai,V.plain,Nat.reduceLeDiff,cond_true,cond_false,implies_true,eq_self,ne_eq,reduceIte,reduceCtorEq,Nat.reduceBEq,Nat.reduceLT,Nat.reduceEqDiff,Nat.reduceAdd,Nat.reduceSub,Nat.reduceMul,decide_eq_false h1];exact out _ _ hrec
  ·simp -dsimp -implicitDefEqProofs only[aw,ac,V.copy,V.lend,V.lend1,V.cells,V.boxable,over,al,ah,ae,ai,V.plain,Nat.reduceLeDiff,cond_true,cond_false,implies_true,eq_self,ne_eq,reduceIte,reduceCtorEq,Nat.reduceBEq,Nat.reduceLT,Nat.reduceEqDiff,Nat.reduceAdd,Nat.reduceSub,Nat.reduceMul,Int.ofNat_lt,hlt,decide_false];rw[List.drop_eq_nil_of_le (by omega)]at hrec;exact out 0 _ (by rw[hrec];rfl)
theorem eL(s:Ts)(hs:bC s≤1000000)(σ:List (List V)):Fun G 19 [vts s] σ (aB (.d (an (b7 s))) σ):=by
 refine ax Tryz.func19 k19 (by simp only[aq];rfl) fun hb hw=>?_;unfold c19
 have out:∀(n:Int) (l:List (List V)),b7 s=n→fin σ.length FG (aB (.d (an (b7 s))) σ) .ret [(2,.d (.lit (.int .i64 n)))] (σ++l):=fun n l h=>by
  rw[h];exact aj hb rfl rfl List.take_left ⟨rfl,rfl⟩
 simp -dsimp -implicitDefEqProofs only[aw,ac,V.copy,V.lend,V.lend1,V.cells,V.boxable,over,al,ah,ae,ai,V.plain,Nat.reduceLeDiff,cond_true,cond_false,implies_true,eq_self,ne_eq,reduceIte,reduceCtorEq,Nat.reduceBEq,Nat.reduceLT,Nat.reduceEqDiff,Nat.reduceAdd,Nat.reduceSub,Nat.reduceMul,aq];refine ao (by simpa only[aq]using qo s 100 8 hs (by omega) (by omega) (by omega) (by omega) _) ?_;by_cases h1:8<tdp s∨100<tsz s
 ·rw[xf h1];simp -dsimp -implicitDefEqProofs only[aw,ac,V.copy,V.lend,V.lend1,V.cells,V.boxable,over,al,ah,ae,ai,V.plain,Nat.reduceLeDiff,cond_true,cond_false,implies_true,eq_self,ne_eq,reduceIte,reduceCtorEq,Nat.reduceBEq,Nat.reduceLT,Nat.reduceEqDiff,Nat.reduceAdd,Nat.reduceSub,Nat.reduceMul,Int.reduceLT,decide_true];exact out 2 _ (by unfold b7;rw[if_pos h1])
 ·have h2:=qw (s:=s) (by omega) (by omega);have h3:¬eA s 100 8<0:=by omega
  simp -dsimp -implicitDefEqProofs only[aw,ac,V.copy,V.lend,V.lend1,V.cells,V.boxable,over,al,ah,ae,ai,V.plain,Nat.reduceLeDiff,cond_true,cond_false,implies_true,eq_self,ne_eq,reduceIte,reduceCtorEq,Nat.reduceBEq,Nat.reduceLT,Nat.reduceEqDiff,Nat.reduceAdd,Nat.reduceSub,Nat.reduceMul,decide_eq_false h3];refine ao (by simpa only[aq]using u9 s false hs (by omega) (by omega) _) ?_;simp -dsimp -implicitDefEqProofs only[aw,ac,V.copy,V.lend,V.lend1,V.cells,V.boxable,over,al,ah,ae,ai,V.plain,Nat.reduceLeDiff,cond_true,cond_false,implies_true,eq_self,ne_eq,reduceIte,reduceCtorEq,Nat.reduceBEq,Nat.reduceLT,Nat.reduceEqDiff,Nat.reduceAdd,Nat.reduceSub,Nat.reduceMul];exact out _ _ (by unfold b7;rw[if_neg h1])
end Go.Proofs.YthekkgfmagliiaaGreatDoor
