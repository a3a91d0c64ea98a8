import Derived.Test.YtcbahpllcfbkmaaGreatDoorBr8
set_option linter.unusedVariables false
set_option linter.unusedSimpArgs false
set_option linter.unusedSectionVars false
namespace Go.Proofs.YtcbahpllcfbkmaaGreatDoor
open Go.RowKit
mutual
def jj:Ex→Ex→Bool
 | .mk o n s l,.mk o' n' s' l'=>(decide (o=o')&&(decide (n=n')&&(decide (s=s')&&fI l l')))
def fI:List Ex→List Ex→Bool
 | [],[]=>true
 | a::r,b::r'=>jj a b&&fI r r'
 | _,_=>false
end
theorem lV:∀{l l':List Ex},l.length≠l'.length→fI l l'=false
 | [],[],h=>absurd rfl h
 | a::r,b::r',h=>by simp only[fI,lV (l:=r) (l':=r') (by simpa using h),Bool.and_false]
 | [],_::_,_=>rfl
 | _::_,[],_=>rfl
theorem wN(a b:Ex):jj a b=(decide (a.op=b.op)&&(decide (a.num=b.num)&&(decide (a.name=b.name)&&fI a.args b.args))):=by
 cases a;cases b;rfl
theorem Ex.ind2{P:Ex→Prop}(h:∀e:Ex,(∀a,a∈e.args→P a)→P e):∀e,P e:=Ex.ind fun o n s l ih=>h (.mk o n s l) ih
theorem ld{l l':List Ex}{j:Nat}(h:j<l.length)(h':j<l'.length):fI (l.drop j) (l'.drop j)=(jj l[j] l'[j]&&fI (l.drop (j+1)) (l'.drop (j+1))):=by
 rw[List.drop_eq_getElem_cons h,List.drop_eq_getElem_cons h'];rfl
theorem rt(a:Ex):∀(b:Ex) (σ:List (List V)),Fun G 81 [vex a,vex b] σ (a7 (av (jj a b)) σ):=by
 induction a using Ex.ind2 with
 | h a ih=>
 intro b σ;refine ax Tryz.func81 k81 (by simp only[a6];rfl) fun hb hw=>?_;have hq:=wN a b;have h0:=hw 0 (by simp);simp only[List.getElem_cons_zero,a6]at h0;have hm:=Ao (xc h0 3 (by simp));simp only[List.getElem_cons_succ,List.getElem_cons_zero,List.length_map]at hm
 have out:∀(σ' l:List (List V)) (b1:Bool),jj a b=b1→σ'=σ++l→fin σ.length BR (a7 (av (jj a b)) σ) .ret [(4,.d (.lit (.bool b1)))] σ':=fun σ' l b1 h e=>by
  subst e;exact aj hb rfl rfl List.take_left ⟨by rw[h];rfl,rfl⟩
 unfold c81;simp -dsimp -implicitDefEqProofs only[aw,ah,V.copy,V.lend,V.lend1,V.cells,V.boxable,over,ak,ae,ac,ai,V.plain,Nat.reduceLeDiff,cond_true,cond_false,implies_true,eq_self,ne_eq,reduceIte,reduceCtorEq,Nat.reduceBEq,Nat.reduceLT,Nat.reduceEqDiff,Nat.reduceAdd,Nat.reduceSub,Nat.reduceMul,a6];refine bQ (fun h1=>?_) (fun h1=>?_)
 ·simp -dsimp -implicitDefEqProofs only[aw,ah,V.copy,V.lend,V.lend1,V.cells,V.boxable,over,ak,ae,ac,ai,V.plain,Nat.reduceLeDiff,cond_true,cond_false,implies_true,eq_self,ne_eq,reduceIte,reduceCtorEq,Nat.reduceBEq,Nat.reduceLT,Nat.reduceEqDiff,Nat.reduceAdd,Nat.reduceSub,Nat.reduceMul];refine bQ (fun h2=>?_) (fun h2=>?_)
  ·simp -dsimp -implicitDefEqProofs only[aw,ah,V.copy,V.lend,V.lend1,V.cells,V.boxable,over,ak,ae,ac,ai,V.plain,Nat.reduceLeDiff,cond_true,cond_false,implies_true,eq_self,ne_eq,reduceIte,reduceCtorEq,Nat.reduceBEq,Nat.reduceLT,Nat.reduceEqDiff,Nat.reduceAdd,Nat.reduceSub,Nat.reduceMul];refine bQ (fun h3=>?_) (fun h3=>?_)
   ·simp -dsimp -implicitDefEqProofs only[aw,ah,V.copy,V.lend,V.lend1,V.cells,V.boxable,over,ak,ae,ac,ai,V.plain,Nat.reduceLeDiff,cond_true,cond_false,implies_true,eq_self,ne_eq,reduceIte,reduceCtorEq,Nat.reduceBEq,Nat.reduceLT,Nat.reduceEqDiff,Nat.reduceAdd,Nat.reduceSub,Nat.reduceMul,Int.ofNat_inj];refine bQ (fun h4=>?_) (fun h4=>?_)
    ·simp -dsimp -implicitDefEqProofs only[aw,ah,V.copy,V.lend,V.lend1,V.cells,V.boxable,over,ak,ae,ac,ai,V.plain,Nat.reduceLeDiff,cond_true,cond_false,implies_true,eq_self,ne_eq,reduceIte,reduceCtorEq,Nat.reduceBEq,Nat.reduceLT,Nat.reduceEqDiff,Nat.reduceAdd,Nat.reduceSub,Nat.reduceMul];exact out _ _ _ (by rw[hq,lV (by simpa using h4)];simp) rfl
    ·simp -dsimp -implicitDefEqProofs only[aw,ah,V.copy,V.lend,V.lend1,V.cells,V.boxable,over,ak,ae,ac,ai,V.plain,Nat.reduceLeDiff,cond_true,cond_false,implies_true,eq_self,ne_eq,reduceIte,reduceCtorEq,Nat.reduceBEq,Nat.reduceLT,Nat.reduceEqDiff,Nat.reduceAdd,Nat.reduceSub,Nat.reduceMul];have h4:a.args.length=b.args.length:=by simpa using h4
     generalize hbx:[[V.d (ay a.op),V.d (ay a.num),V.d (am a.name),V.d (D.sl (List.map dex a.args))],[V.d (ay b.op),V.d (ay b.num),V.d (am b.name),V.d (D.sl (List.map dex b.args))]]=bx at out ⊢;refine jP (R:=fun(j:Nat) ρ σ'=>ρ=[(2,.ptr σ.length 0),(3,.ptr (σ.length+1) 0),(5,aF .i64 j)]∧σ'=σ++bx∧fI a.args b.args=fI (a.args.drop j) (b.args.drop j)) a.args.length ⟨rfl,rfl,by simp⟩ ?_ _;rintro j ρ' σ' hj ⟨rfl,rfl,hrec⟩;subst hbx;by_cases hlt:j<a.args.length
     ·have hlt':j<b.args.length:=by omega
      simp -dsimp -implicitDefEqProofs only[aw,ah,V.copy,V.lend,V.lend1,V.cells,V.boxable,over,ak,ae,ac,ai,V.plain,Nat.reduceLeDiff,cond_true,cond_false,implies_true,eq_self,ne_eq,reduceIte,reduceCtorEq,Nat.reduceBEq,Nat.reduceLT,Nat.reduceEqDiff,Nat.reduceAdd,Nat.reduceSub,Nat.reduceMul,Int.ofNat_lt,hlt,decide_true,List.getElem?_eq_getElem hlt,List.getElem?_eq_getElem hlt',cv];refine aM (by simpa only[a6]using ih _ (List.getElem_mem hlt) _ _) ?_;simp -dsimp -implicitDefEqProofs only[aw,ah,V.copy,V.lend,V.lend1,V.cells,V.boxable,over,ak,ae,ac,ai,V.plain,Nat.reduceLeDiff,cond_true,cond_false,implies_true,eq_self,ne_eq,reduceIte,reduceCtorEq,Nat.reduceBEq,Nat.reduceLT,Nat.reduceEqDiff,Nat.reduceAdd,Nat.reduceSub,Nat.reduceMul,aS hlt hm];refine bQ (fun hs=>?_) (fun hs=>?_)
      ·simp -dsimp -implicitDefEqProofs only[aw,ah,V.copy,V.lend,V.lend1,V.cells,V.boxable,over,ak,ae,ac,ai,V.plain,Nat.reduceLeDiff,cond_true,cond_false,implies_true,eq_self,ne_eq,reduceIte,reduceCtorEq,Nat.reduceBEq,Nat.reduceLT,Nat.reduceEqDiff,Nat.reduceAdd,Nat.reduceSub,Nat.reduceMul];exact out _ _ _ (by rw[hq,hrec,ld hlt hlt'];simp_all) rfl
      ·simp -dsimp -implicitDefEqProofs only[aw,ah,V.copy,V.lend,V.lend1,V.cells,V.boxable,over,ak,ae,ac,ai,V.plain,Nat.reduceLeDiff,cond_true,cond_false,implies_true,eq_self,ne_eq,reduceIte,reduceCtorEq,Nat.reduceBEq,Nat.reduceLT,Nat.reduceEqDiff,Nat.reduceAdd,Nat.reduceSub,Nat.reduceMul,aS hlt hm];refine⟨hlt,Nxt.same (by simp) (aZ hb rfl) ?_ ?_⟩
       ·simp[aA,V.under]
       ·exact⟨rfl,rfl,by rw[hrec,ld hlt hlt'];simp_all⟩
     ·simp -dsimp -implicitDefEqProofs only[aw,ah,V.copy,V.lend,V.lend1,V.cells,V.boxable,over,ak,ae,ac,ai,V.plain,Nat.reduceLeDiff,cond_true,cond_false,implies_true,eq_self,ne_eq,reduceIte,reduceCtorEq,Nat.reduceBEq,Nat.reduceLT,Nat.reduceEqDiff,Nat.reduceAdd,Nat.reduceSub,Nat.reduceMul,Int.ofNat_lt,hlt,decide_false];exact out _ _ _ (by rw[hq,hrec,List.drop_of_length_le (by omega),List.drop_of_length_le (by omega)];simp_all[fI]) rfl
   ·simp -dsimp -implicitDefEqProofs only[aw,ah,V.copy,V.lend,V.lend1,V.cells,V.boxable,over,ak,ae,ac,ai,V.plain,Nat.reduceLeDiff,cond_true,cond_false,implies_true,eq_self,ne_eq,reduceIte,reduceCtorEq,Nat.reduceBEq,Nat.reduceLT,Nat.reduceEqDiff,Nat.reduceAdd,Nat.reduceSub,Nat.reduceMul];exact out _ _ _ (by rw[hq];simp_all) rfl
  ·simp -dsimp -implicitDefEqProofs only[aw,ah,V.copy,V.lend,V.lend1,V.cells,V.boxable,over,ak,ae,ac,ai,V.plain,Nat.reduceLeDiff,cond_true,cond_false,implies_true,eq_self,ne_eq,reduceIte,reduceCtorEq,Nat.reduceBEq,Nat.reduceLT,Nat.reduceEqDiff,Nat.reduceAdd,Nat.reduceSub,Nat.reduceMul];exact out _ _ _ (by rw[hq];simp_all) rfl
 ·simp -dsimp -implicitDefEqProofs only[aw,ah,V.copy,V.lend,V.lend1,V.cells,V.boxable,over,ak,ae,ac,ai,V.plain,Nat.reduceLeDiff,cond_true,cond_false,implies_true,eq_self,ne_eq,reduceIte,reduceCtorEq,Nat.reduceBEq,Nat.reduceLT,Nat.reduceEqDiff,Nat.reduceAdd,Nat.reduceSub,Nat.reduceMul];exact out _ _ _ (by rw[hq];simp_all) rfl
end Go.Proofs.YtcbahpllcfbkmaaGreatDoor
