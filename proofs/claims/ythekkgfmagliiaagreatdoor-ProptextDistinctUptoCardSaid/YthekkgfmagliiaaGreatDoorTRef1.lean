import Derived.Test.YthekkgfmagliiaaGreatDoorShelf
import Derived.Test.YthekkgfmagliiaaGreatDoorRead
import Derived.Test.YthekkgfmagliiaaGreatDoorBr8
import Derived.Test.YthekkgfmagliiaaGreatDoorData
set_option linter.unusedVariables false
set_option linter.unusedSimpArgs false
set_option linter.unusedSectionVars false
namespace Go.Proofs.YthekkgfmagliiaaGreatDoor
open Go.RowKit
mutual
def fP:Ts→List ByteArray
 | .mk o _ _ _ s l=>(if o=6 then[s]else[])++gV l
def gV:List Ts→List ByteArray
 | []=>[]
 | a::r=>fP a++gV r
end
theorem xI(s:Ts):fP s=(if s.op=6 then[s.name]else[])++gV s.args:=by cases s;rfl
theorem kA(l:List Ts):gV l=(l.map fP).flatten:=by
 induction l with
 | nil=>rfl
 | cons a r ih=>simp only[gV,ih,List.map_cons,List.flatten_cons]
theorem qS(s:Ts):(fP s).length=(tnm s).length∧∀x,x∈fP s↔x∈tnm s:=by
 induction s using Ts.ind with
 | h s ih=>
 rw[xI,vX,kA]
 have H:∀l:List Ts,(∀a,a∈l→(fP a).length=(tnm a).length∧∀x,x∈fP a↔x∈tnm a)→((l.map fP).flatten.length=(l.map tnm).flatten.length∧∀x,x∈(l.map fP).flatten↔x∈(l.map tnm).flatten):=by
  intro l
  induction l with
  | nil=>intro _;exact⟨rfl,fun x=>Iff.rfl⟩
  | cons a r ihr=>
   intro h;obtain⟨h1,h2⟩:=h a (by simp);obtain⟨h3,h4⟩:=ihr (fun x hx=>h x (by simp[hx]));refine⟨by simp only[List.map_cons,List.flatten_cons,List.length_append,h1,h3],fun x=>?_⟩;simp only[List.map_cons,List.flatten_cons,List.mem_append,h2 x,h4 x]
 obtain⟨h1,h2⟩:=H s.args ih;refine⟨by simp only[List.length_append,h1];omega,fun x=>?_⟩;simp only[List.mem_append,h2 x];exact Or.comm
theorem qO(e:Ex)(σ:List (List V)):Fun G 74 [vex e] σ (aG (aA (fO e)) σ):=by
 refine aD Tryz.func74 k74 (by simp only[aR];rfl) fun hb hw=>?_;unfold c74 fO;simp -dsimp -implicitDefEqProofs only[aw,ac,V.copy,V.lend,V.lend1,V.cells,V.boxable,over,al,ah,ae,ai,V.plain,Nat.reduceLeDiff,cond_true,cond_false,implies_true,eq_self,ne_eq,reduceIte,reduceCtorEq,Nat.reduceBEq,Nat.reduceLT,Nat.reduceEqDiff,Nat.reduceAdd,Nat.reduceSub,Nat.reduceMul,aR];refine aF (fun h1=>?_) (fun h1=>?_)
 ·simp -dsimp -implicitDefEqProofs only[aw,ac,V.copy,V.lend,V.lend1,V.cells,V.boxable,over,al,ah,ae,ai,V.plain,Nat.reduceLeDiff,cond_true,cond_false,implies_true,eq_self,ne_eq,reduceIte,reduceCtorEq,Nat.reduceBEq,Nat.reduceLT,Nat.reduceEqDiff,Nat.reduceAdd,Nat.reduceSub,Nat.reduceMul];refine aF (fun h2=>?_) (fun h2=>?_)
  ·simp -dsimp -implicitDefEqProofs only[aw,ac,V.copy,V.lend,V.lend1,V.cells,V.boxable,over,al,ah,ae,ai,V.plain,Nat.reduceLeDiff,cond_true,cond_false,implies_true,eq_self,ne_eq,reduceIte,reduceCtorEq,Nat.reduceBEq,Nat.reduceLT,Nat.reduceEqDiff,Nat.reduceAdd,Nat.reduceSub,Nat.reduceMul];refine aF (fun h3=>?_) (fun h3=>?_)
   ·simp -dsimp -implicitDefEqProofs only[aw,ac,V.copy,V.lend,V.lend1,V.cells,V.boxable,over,al,ah,ae,ai,V.plain,Nat.reduceLeDiff,cond_true,cond_false,implies_true,eq_self,ne_eq,reduceIte,reduceCtorEq,Nat.reduceBEq,Nat.reduceLT,Nat.reduceEqDiff,Nat.reduceAdd,Nat.reduceSub,Nat.reduceMul];exact am hb rfl rfl List.take_left ⟨by rw[h1,h2,h3];simp;rfl,rfl⟩
   ·simp -dsimp -implicitDefEqProofs only[aw,ac,V.copy,V.lend,V.lend1,V.cells,V.boxable,over,al,ah,ae,ai,V.plain,Nat.reduceLeDiff,cond_true,cond_false,implies_true,eq_self,ne_eq,reduceIte,reduceCtorEq,Nat.reduceBEq,Nat.reduceLT,Nat.reduceEqDiff,Nat.reduceAdd,Nat.reduceSub,Nat.reduceMul];exact am hb rfl rfl List.take_left ⟨by rw[h1,h2,h3];simp;rfl,rfl⟩
  ·simp -dsimp -implicitDefEqProofs only[aw,ac,V.copy,V.lend,V.lend1,V.cells,V.boxable,over,al,ah,ae,ai,V.plain,Nat.reduceLeDiff,cond_true,cond_false,implies_true,eq_self,ne_eq,reduceIte,reduceCtorEq,Nat.reduceBEq,Nat.reduceLT,Nat.reduceEqDiff,Nat.reduceAdd,Nat.reduceSub,Nat.reduceMul];exact am hb rfl rfl List.take_left ⟨by rw[h1,h2];simp;rfl,rfl⟩
 ·simp -dsimp -implicitDefEqProofs only[aw,ac,V.copy,V.lend,V.lend1,V.cells,V.boxable,over,al,ah,ae,ai,V.plain,Nat.reduceLeDiff,cond_true,cond_false,implies_true,eq_self,ne_eq,reduceIte,reduceCtorEq,Nat.reduceBEq,Nat.reduceLT,Nat.reduceEqDiff,Nat.reduceAdd,Nat.reduceSub,Nat.reduceMul];exact am hb rfl rfl List.take_left ⟨by rw[h1];simp;rfl,rfl⟩
theorem B9{l:List ByteArray}{s:ByteArray}{j:Nat}(h:j<l.length):inB s (l.drop j)=(decide (l[j]=s)||inB s (l.drop (j+1))):=by
 rw[List.drop_eq_getElem_cons h];unfold inB;rfl
theorem DS(l:List ByteArray)(s:ByteArray)(hl:l.length≤1000000)(σ:List (List V)):Fun G 79 [.d (dy l),.d (an s)] σ (aG (aA (inB s l)) σ):=by
 refine aD Tryz.func79 k79 rfl fun hb hw=>?_;unfold c79;simp -dsimp -implicitDefEqProofs only[aw,ac,V.copy,V.lend,V.lend1,V.cells,V.boxable,over,al,ah,ae,ai,V.plain,Nat.reduceLeDiff,cond_true,cond_false,implies_true,eq_self,ne_eq,reduceIte,reduceCtorEq,Nat.reduceBEq,Nat.reduceLT,Nat.reduceEqDiff,Nat.reduceAdd,Nat.reduceSub,Nat.reduceMul,dy];refine ce [0,1,5] (R:=fun(j:Nat) ρ σ'=>ρ=[(0,.d (.sl (l.map fun s=>[an s]))),(1,.d (an s)),(5,aW .i64 j)]∧σ'=σ∧inB s l=inB s (l.drop j)) l.length ⟨rfl,rfl,by simp⟩ ?_ _;rintro j ρ' σ' hj ⟨rfl,rfl,hr⟩;by_cases hlt:j<l.length
 ·rw[B9 hlt]at hr;simp -dsimp -implicitDefEqProofs only[aw,ac,V.copy,V.lend,V.lend1,V.cells,V.boxable,over,al,ah,ae,ai,V.plain,Nat.reduceLeDiff,cond_true,cond_false,implies_true,eq_self,ne_eq,reduceIte,reduceCtorEq,Nat.reduceBEq,Nat.reduceLT,Nat.reduceEqDiff,Nat.reduceAdd,Nat.reduceSub,Nat.reduceMul,Int.ofNat_lt,hlt,decide_true,List.getElem?_eq_getElem hlt];by_cases he:l[j]=s
  ·rw[decide_eq_true he,Bool.true_or]at hr;simp -dsimp -implicitDefEqProofs only[aw,ac,V.copy,V.lend,V.lend1,V.cells,V.boxable,over,al,ah,ae,ai,V.plain,Nat.reduceLeDiff,cond_true,cond_false,implies_true,eq_self,ne_eq,reduceIte,reduceCtorEq,Nat.reduceBEq,Nat.reduceLT,Nat.reduceEqDiff,Nat.reduceAdd,Nat.reduceSub,Nat.reduceMul,decide_eq_true he];exact am hb rfl rfl List.take_length ⟨by rw[hr];rfl,rfl⟩
  ·rw[decide_eq_false he,Bool.false_or]at hr;simp -dsimp -implicitDefEqProofs only[aw,ac,V.copy,V.lend,V.lend1,V.cells,V.boxable,over,al,ah,ae,ai,V.plain,Nat.reduceLeDiff,cond_true,cond_false,implies_true,eq_self,ne_eq,reduceIte,reduceCtorEq,Nat.reduceBEq,Nat.reduceLT,Nat.reduceEqDiff,Nat.reduceAdd,Nat.reduceSub,Nat.reduceMul,decide_eq_false he,bE hlt (show l.length≤9223372036854775807 by omega)];exact⟨hlt,Nxt.same (Nat.le_refl _) hb rfl ⟨rfl,rfl,hr⟩⟩
 ·simp -dsimp -implicitDefEqProofs only[aw,ac,V.copy,V.lend,V.lend1,V.cells,V.boxable,over,al,ah,ae,ai,V.plain,Nat.reduceLeDiff,cond_true,cond_false,implies_true,eq_self,ne_eq,reduceIte,reduceCtorEq,Nat.reduceBEq,Nat.reduceLT,Nat.reduceEqDiff,Nat.reduceAdd,Nat.reduceSub,Nat.reduceMul,Int.ofNat_lt,hlt,decide_false];rw[List.drop_eq_nil_of_le (by omega)]at hr;exact am hb rfl rfl List.take_length ⟨by rw[hr];rfl,rfl⟩
def fH(s:Ts)(n d:Int):Int:=if(tsz s:Int)≤n∧(tdp s:Int)≤d then n-tsz s else -1
abbrev szs(l:List Ts):Nat:=(l.map tsz).sum
theorem t6{l:List Ts}{j:Nat}(h:j<l.length):szs (l.take (j+1))=szs (l.take j)+tsz l[j]:=by
 unfold szs;rw[List.take_add_one,List.getElem?_eq_getElem h,List.map_append,List.sum_append];show _+(tsz l[j]+0)=_;omega
theorem BX(l:List Ts)(j:Nat):szs (l.take j)≤szs l:=by
 unfold szs
 conv=>rhs;rw[←List.take_append_drop j l,List.map_append,List.sum_append]
 omega
theorem Fl{l:List Ts}{d:Nat}(h:∀a,a∈l→tdp a≤d):jF l≤d:=by
 induction l with
 | nil=>exact Nat.zero_le _
 | cons a r ih=>
  simp only[jF];have:=h a (by simp);have:=ih fun x hx=>h x (by simp[hx]);omega
theorem uM(s:Ts):∀(n d:Int),bq s≤1000000→0≤n→n≤1000000→0≤d→d≤1000000→∀σ,Fun G 39 [vts s,.d (ao n),.d (ao d)] σ (aG (.d (ao (fH s n d))) σ):=by
 induction s using Ts.ind with
 | h s ih=>
 intro n d hs hn0 hn1 hd0 hd1 σ;have hln:=dC s;have hsz:=mJ s;have hdp:=rS s;refine aD Tryz.func39 k39 (by simp only[ax];rfl) fun hb hw=>?_;unfold c39
 have out:∀(r:Int) (l:List (List V)),fH s n d=r→fin σ.length JU (aG (.d (ao (fH s n d))) σ) .ret [(6,.d (.lit (.int .i64 r)))] (σ++l):=fun r l h=>by
  rw[h];exact am hb rfl rfl List.take_left ⟨rfl,rfl⟩
 simp -dsimp -implicitDefEqProofs only[aw,ac,V.copy,V.lend,V.lend1,V.cells,V.boxable,over,al,ah,ae,ai,V.plain,Nat.reduceLeDiff,cond_true,cond_false,implies_true,eq_self,ne_eq,reduceIte,reduceCtorEq,Nat.reduceBEq,Nat.reduceLT,Nat.reduceEqDiff,Nat.reduceAdd,Nat.reduceSub,Nat.reduceMul,ax];by_cases h1:n<1
 ·simp -dsimp -implicitDefEqProofs only[aw,ac,V.copy,V.lend,V.lend1,V.cells,V.boxable,over,al,ah,ae,ai,V.plain,Nat.reduceLeDiff,cond_true,cond_false,implies_true,eq_self,ne_eq,reduceIte,reduceCtorEq,Nat.reduceBEq,Nat.reduceLT,Nat.reduceEqDiff,Nat.reduceAdd,Nat.reduceSub,Nat.reduceMul,decide_eq_true h1];exact out (-1) _ (by unfold fH;rw[if_neg (by omega)])
 by_cases h2:d<1
 ·simp -dsimp -implicitDefEqProofs only[aw,ac,V.copy,V.lend,V.lend1,V.cells,V.boxable,over,al,ah,ae,ai,V.plain,Nat.reduceLeDiff,cond_true,cond_false,implies_true,eq_self,ne_eq,reduceIte,reduceCtorEq,Nat.reduceBEq,Nat.reduceLT,Nat.reduceEqDiff,Nat.reduceAdd,Nat.reduceSub,Nat.reduceMul,decide_eq_false h1,decide_eq_true h2];exact out (-1) _ (by unfold fH;rw[if_neg (by omega)])
 have hw1:IntKind.i64.wrap (n-1)=n-1:=df (by omega) (by omega);simp -dsimp -implicitDefEqProofs only[aw,ac,V.copy,V.lend,V.lend1,V.cells,V.boxable,over,al,ah,ae,ai,V.plain,Nat.reduceLeDiff,cond_true,cond_false,implies_true,eq_self,ne_eq,reduceIte,reduceCtorEq,Nat.reduceBEq,Nat.reduceLT,Nat.reduceEqDiff,Nat.reduceAdd,Nat.reduceSub,Nat.reduceMul,decide_eq_false h1,decide_eq_false h2,hw1];refine ce [1,2,3,7] (R:=fun(j:Nat) ρ σ'=>ρ=[(1,.d (ao (n-1-szs (s.args.take j)))),(2,.d (ao d)),(3,.ptr σ.length 0),(7,aW .i64 j)]∧σ'=σ++[fS s]∧(szs (s.args.take j):Int)≤n-1∧∀a,a∈s.args.take j→(tdp a:Int)≤d-1) s.args.length ⟨by simp[szs];rfl,rfl,by simp[szs];omega,by simp⟩ ?_ _;rintro j ρ' σ' hj ⟨rfl,rfl,hle,hdl⟩;by_cases hlt:j<s.args.length
 ·have hw2:IntKind.i64.wrap (d-1)=d-1:=df (by omega) (by omega);have ha:=List.getElem_mem hlt;have ht:=t6 hlt;have hle2:=BX s.args (j+1);simp -dsimp -implicitDefEqProofs only[aw,ac,V.copy,V.lend,V.lend1,V.cells,V.boxable,over,al,ah,ae,ai,V.plain,Nat.reduceLeDiff,cond_true,cond_false,implies_true,eq_self,ne_eq,reduceIte,reduceCtorEq,Nat.reduceBEq,Nat.reduceLT,Nat.reduceEqDiff,Nat.reduceAdd,Nat.reduceSub,Nat.reduceMul,Int.ofNat_lt,hlt,decide_true,List.getElem?_eq_getElem hlt,bP s.args[j],hw2];refine aq (by simpa only[ax]using ih s.args[j] ha (n-1-szs (s.args.take j)) (d-1) (by have:=di ha;omega) (by omega) (by omega) (by omega) (by omega) _) ?_;by_cases hc:(tsz s.args[j]:Int)≤n-1-szs (s.args.take j)∧(tdp s.args[j]:Int)≤d-1
  ·have hr:fH s.args[j] (n-1-szs (s.args.take j)) (d-1)=n-1-szs (s.args.take (j+1)):=by
    unfold fH;rw[if_pos hc,ht];omega
   have h0:¬n-1-(szs (s.args.take (j+1)):Int)<0:=by omega
   rw[hr];simp -dsimp -implicitDefEqProofs only[aw,ac,V.copy,V.lend,V.lend1,V.cells,V.boxable,over,al,ah,ae,ai,V.plain,Nat.reduceLeDiff,cond_true,cond_false,implies_true,eq_self,ne_eq,reduceIte,reduceCtorEq,Nat.reduceBEq,Nat.reduceLT,Nat.reduceEqDiff,Nat.reduceAdd,Nat.reduceSub,Nat.reduceMul,decide_eq_false h0,bE hlt (show s.args.length≤9223372036854775807 by omega)];refine⟨hlt,Nxt.same (by simp) (bj hb rfl) (by simp[aP,V.under]) ⟨rfl,rfl,by omega,fun a ha'=>?_⟩⟩;rw[List.take_add_one,List.getElem?_eq_getElem hlt]at ha';rcases List.mem_append.1 ha' with e|e
   ·exact hdl a e
   ·have:a=s.args[j]:=by simpa using e
    rw[this];exact hc.2
  ·have hr:fH s.args[j] (n-1-szs (s.args.take j)) (d-1) = -1:=by unfold fH;rw[if_neg hc]
   rw[hr];simp -dsimp -implicitDefEqProofs only[aw,ac,V.copy,V.lend,V.lend1,V.cells,V.boxable,over,al,ah,ae,ai,V.plain,Nat.reduceLeDiff,cond_true,cond_false,implies_true,eq_self,ne_eq,reduceIte,reduceCtorEq,Nat.reduceBEq,Nat.reduceLT,Nat.reduceEqDiff,Nat.reduceAdd,Nat.reduceSub,Nat.reduceMul,Int.reduceLT,decide_true];refine out (-1) _ ?_;unfold fH;refine if_neg fun⟨g1,g2⟩=>hc ⟨?_,?_⟩
   ·show(tsz s.args[j]:Int)≤n-1-szs (s.args.take j);have:szs (s.args.take (j+1))≤szs s.args:=hle2;have e:tsz s=1+szs s.args:=hsz;omega
   ·have:=ux ha;omega
 ·simp -dsimp -implicitDefEqProofs only[aw,ac,V.copy,V.lend,V.lend1,V.cells,V.boxable,over,al,ah,ae,ai,V.plain,Nat.reduceLeDiff,cond_true,cond_false,implies_true,eq_self,ne_eq,reduceIte,reduceCtorEq,Nat.reduceBEq,Nat.reduceLT,Nat.reduceEqDiff,Nat.reduceAdd,Nat.reduceSub,Nat.reduceMul,Int.ofNat_lt,hlt,decide_false];rw[List.take_of_length_le (show s.args.length≤j by omega)]at hle hdl ⊢;refine out _ _ ?_;have e:tsz s=1+szs s.args:=hsz;have hdd:jF s.args≤(d-1).toNat:=Fl fun a ha=>by have:=hdl a ha;omega
  unfold fH;rw[if_pos ⟨by omega,by omega⟩];omega
end Go.Proofs.YthekkgfmagliiaaGreatDoor
