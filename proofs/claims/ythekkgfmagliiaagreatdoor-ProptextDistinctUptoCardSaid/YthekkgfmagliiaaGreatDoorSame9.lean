import Derived.Test.YthekkgfmagliiaaGreatDoorBr8
set_option linter.unusedVariables false
set_option linter.unusedSimpArgs false
set_option linter.unusedSectionVars false
namespace Go.Proofs.YthekkgfmagliiaaGreatDoor
open Go.RowKit
mutual
def gL:Ex→Ex→Bool
 | .mk o n s l,.mk o' n' s' l'=>(decide (o=o')&&(decide (n=n')&&(decide (s=s')&&fe l l')))
def fe:List Ex→List Ex→Bool
 | [],[]=>true
 | a::r,b::r'=>gL a b&&fe r r'
 | _,_=>false
end
theorem mh:∀{l l':List Ex},l.length≠l'.length→fe l l'=false
 | [],[],h=>absurd rfl h
 | a::r,b::r',h=>by simp only[fe,mh (l:=r) (l':=r') (by simpa using h),Bool.and_false]
 | [],_::_,_=>rfl
 | _::_,[],_=>rfl
theorem oC(a b:Ex):gL a b=(decide (a.op=b.op)&&(decide (a.num=b.num)&&(decide (a.name=b.name)&&fe a.args b.args))):=by
 cases a;cases b;rfl
theorem Ex.ind2{P:Ex→Prop}(h:∀e:Ex,(∀a,a∈e.args→P a)→P e):∀e,P e:=Ex.ind fun o n s l ih=>h (.mk o n s l) ih
theorem iW{l l':List Ex}{j:Nat}(h:j<l.length)(h':j<l'.length):fe (l.drop j) (l'.drop j)=(gL l[j] l'[j]&&fe (l.drop (j+1)) (l'.drop (j+1))):=by
 rw[List.drop_eq_getElem_cons h,List.drop_eq_getElem_cons h'];rfl
theorem Aa(l l':List Ex)(F:FuncId)(h:∀i (hi:i<l.length) (hi':i<l'.length) σ,Fun G F [vex l[i],vex l'[i]] σ (aG (aA (gL l[i] l'[i])) σ))(σ:List (List V)):
 Fun G 122 [.d (.sl (l.map dex)),.d (.sl (l'.map dex)),.fn F []] σ (aG (aA (fe l l')) σ):=by
 refine aD Tryz.func122 OS rfl fun hb hw=>?_;have hm:=D2 (hw 0 (by simp));rw[List.length_map]at hm;unfold Mz;simp -dsimp -implicitDefEqProofs only[aw,ac,V.copy,V.lend,V.lend1,V.cells,V.boxable,over,al,ah,ae,ai,V.plain,Nat.reduceLeDiff,cond_true,cond_false,implies_true,eq_self,ne_eq,reduceIte,reduceCtorEq,Nat.reduceBEq,Nat.reduceLT,Nat.reduceEqDiff,Nat.reduceAdd,Nat.reduceSub,Nat.reduceMul,Int.ofNat_inj];refine aF (fun hne=>?_) (fun hlen=>?_)
 ·simp -dsimp -implicitDefEqProofs only[aw,ac,V.copy,V.lend,V.lend1,V.cells,V.boxable,over,al,ah,ae,ai,V.plain,Nat.reduceLeDiff,cond_true,cond_false,implies_true,eq_self,ne_eq,reduceIte,reduceCtorEq,Nat.reduceBEq,Nat.reduceLT,Nat.reduceEqDiff,Nat.reduceAdd,Nat.reduceSub,Nat.reduceMul];exact am hb rfl rfl List.take_length ⟨by rw[mh (by simpa using hne)];rfl,rfl⟩
 ·have hlen:l.length=l'.length:=by simpa using hlen
  simp -dsimp -implicitDefEqProofs only[aw,ac,V.copy,V.lend,V.lend1,V.cells,V.boxable,over,al,ah,ae,ai,V.plain,Nat.reduceLeDiff,cond_true,cond_false,implies_true,eq_self,ne_eq,reduceIte,reduceCtorEq,Nat.reduceBEq,Nat.reduceLT,Nat.reduceEqDiff,Nat.reduceAdd,Nat.reduceSub,Nat.reduceMul];refine xX (R:=fun(j:Nat) ρ σ'=>ρ=[(1,.d (.sl (l'.map dex))),(2,.fn F []),(15,.d (.sl (l.map dex))),(16,aW .i64 l.length),(17,aW .i64 j)]∧σ'=σ∧fe l l'=fe (l.drop j) (l'.drop j)) l.length ⟨rfl,rfl,by simp⟩ ?_ _;rintro j ρ' σ' hj ⟨rfl,rfl,hrec⟩;by_cases hlt:j<l.length
  ·have hlt':j<l'.length:=by omega
   simp -dsimp -implicitDefEqProofs only[aw,ac,V.copy,V.lend,V.lend1,V.cells,V.boxable,over,al,ah,ae,ai,V.plain,Nat.reduceLeDiff,cond_true,cond_false,implies_true,eq_self,ne_eq,reduceIte,reduceCtorEq,Nat.reduceBEq,Nat.reduceLT,Nat.reduceEqDiff,Nat.reduceAdd,Nat.reduceSub,Nat.reduceMul,Int.ofNat_lt,hlt,decide_true,List.getElem?_eq_getElem hlt,List.getElem?_eq_getElem hlt',cS];refine aq (by simpa only[aR]using h j hlt hlt' _) ?_;simp -dsimp -implicitDefEqProofs only[aw,ac,V.copy,V.lend,V.lend1,V.cells,V.boxable,over,al,ah,ae,ai,V.plain,Nat.reduceLeDiff,cond_true,cond_false,implies_true,eq_self,ne_eq,reduceIte,reduceCtorEq,Nat.reduceBEq,Nat.reduceLT,Nat.reduceEqDiff,Nat.reduceAdd,Nat.reduceSub,Nat.reduceMul,bE hlt hm];refine aF (fun hs=>?_) (fun hs=>?_)
   ·simp -dsimp -implicitDefEqProofs only[aw,ac,V.copy,V.lend,V.lend1,V.cells,V.boxable,over,al,ah,ae,ai,V.plain,Nat.reduceLeDiff,cond_true,cond_false,implies_true,eq_self,ne_eq,reduceIte,reduceCtorEq,Nat.reduceBEq,Nat.reduceLT,Nat.reduceEqDiff,Nat.reduceAdd,Nat.reduceSub,Nat.reduceMul];exact am hb rfl rfl List.take_left ⟨by rw[hrec,iW hlt hlt'];simp only[Bool.not_eq_true']at hs;rw[hs];rfl,rfl⟩
   ·simp -dsimp -implicitDefEqProofs only[aw,ac,V.copy,V.lend,V.lend1,V.cells,V.boxable,over,al,ah,ae,ai,V.plain,Nat.reduceLeDiff,cond_true,cond_false,implies_true,eq_self,ne_eq,reduceIte,reduceCtorEq,Nat.reduceBEq,Nat.reduceLT,Nat.reduceEqDiff,Nat.reduceAdd,Nat.reduceSub,Nat.reduceMul,bE hlt hm];refine⟨hlt,Nxt.drop (Nat.le_refl _) hb ?_ ?_⟩
    ·rfl
    ·exact⟨rfl,rfl,by rw[hrec,iW hlt hlt'];simp only[Bool.not_eq_false']at hs;rw[hs];rfl⟩
  ·simp -dsimp -implicitDefEqProofs only[aw,ac,V.copy,V.lend,V.lend1,V.cells,V.boxable,over,al,ah,ae,ai,V.plain,Nat.reduceLeDiff,cond_true,cond_false,implies_true,eq_self,ne_eq,reduceIte,reduceCtorEq,Nat.reduceBEq,Nat.reduceLT,Nat.reduceEqDiff,Nat.reduceAdd,Nat.reduceSub,Nat.reduceMul,Int.ofNat_lt,hlt,decide_false];exact am hb rfl rfl List.take_length ⟨by rw[hrec,List.drop_of_length_le (by omega),List.drop_of_length_le (by omega)];rfl,rfl⟩
theorem B0(a:Ex):∀(b:Ex) (σ:List (List V)),Fun G 86 [vex a,vex b] σ (aG (aA (gL a b)) σ):=by
 induction a using Ex.ind2 with
 | h a ih=>
 intro b σ;have hE:=fun σ'=>Aa a.args b.args 86 (fun i hi hi' σ=>ih _ (List.getElem_mem hi) _ σ) σ';refine aD Tryz.func86 k86 (by simp only[aR];rfl) fun hb hw=>?_;have hq:=oC a b;unfold c86;simp -dsimp -implicitDefEqProofs only[aw,ac,V.copy,V.lend,V.lend1,V.cells,V.boxable,over,al,ah,ae,ai,V.plain,Nat.reduceLeDiff,cond_true,cond_false,implies_true,eq_self,ne_eq,reduceIte,reduceCtorEq,Nat.reduceBEq,Nat.reduceLT,Nat.reduceEqDiff,Nat.reduceAdd,Nat.reduceSub,Nat.reduceMul,aR];refine aF (fun h1=>?_) (fun h1=>?_)
 ·simp -dsimp -implicitDefEqProofs only[aw,ac,V.copy,V.lend,V.lend1,V.cells,V.boxable,over,al,ah,ae,ai,V.plain,Nat.reduceLeDiff,cond_true,cond_false,implies_true,eq_self,ne_eq,reduceIte,reduceCtorEq,Nat.reduceBEq,Nat.reduceLT,Nat.reduceEqDiff,Nat.reduceAdd,Nat.reduceSub,Nat.reduceMul];refine aF (fun h2=>?_) (fun h2=>?_)
  ·simp -dsimp -implicitDefEqProofs only[aw,ac,V.copy,V.lend,V.lend1,V.cells,V.boxable,over,al,ah,ae,ai,V.plain,Nat.reduceLeDiff,cond_true,cond_false,implies_true,eq_self,ne_eq,reduceIte,reduceCtorEq,Nat.reduceBEq,Nat.reduceLT,Nat.reduceEqDiff,Nat.reduceAdd,Nat.reduceSub,Nat.reduceMul];refine aF (fun h3=>?_) (fun h3=>?_)
   ·simp -dsimp -implicitDefEqProofs only[aw,ac,V.copy,V.lend,V.lend1,V.cells,V.boxable,over,al,ah,ae,ai,V.plain,Nat.reduceLeDiff,cond_true,cond_false,implies_true,eq_self,ne_eq,reduceIte,reduceCtorEq,Nat.reduceBEq,Nat.reduceLT,Nat.reduceEqDiff,Nat.reduceAdd,Nat.reduceSub,Nat.reduceMul];refine aq (hE _) ?_;simp -dsimp -implicitDefEqProofs only[aw,ac,V.copy,V.lend,V.lend1,V.cells,V.boxable,over,al,ah,ae,ai,V.plain,Nat.reduceLeDiff,cond_true,cond_false,implies_true,eq_self,ne_eq,reduceIte,reduceCtorEq,Nat.reduceBEq,Nat.reduceLT,Nat.reduceEqDiff,Nat.reduceAdd,Nat.reduceSub,Nat.reduceMul];exact am hb rfl rfl List.take_left ⟨by rw[hq,h1,h2,h3];rfl,rfl⟩
   ·simp -dsimp -implicitDefEqProofs only[aw,ac,V.copy,V.lend,V.lend1,V.cells,V.boxable,over,al,ah,ae,ai,V.plain,Nat.reduceLeDiff,cond_true,cond_false,implies_true,eq_self,ne_eq,reduceIte,reduceCtorEq,Nat.reduceBEq,Nat.reduceLT,Nat.reduceEqDiff,Nat.reduceAdd,Nat.reduceSub,Nat.reduceMul];exact am hb rfl rfl List.take_left ⟨by rw[hq,h1,h2,h3];rfl,rfl⟩
  ·simp -dsimp -implicitDefEqProofs only[aw,ac,V.copy,V.lend,V.lend1,V.cells,V.boxable,over,al,ah,ae,ai,V.plain,Nat.reduceLeDiff,cond_true,cond_false,implies_true,eq_self,ne_eq,reduceIte,reduceCtorEq,Nat.reduceBEq,Nat.reduceLT,Nat.reduceEqDiff,Nat.reduceAdd,Nat.reduceSub,Nat.reduceMul];exact am hb rfl rfl List.take_left ⟨by rw[hq,h1,h2];rfl,rfl⟩
 ·simp -dsimp -implicitDefEqProofs only[aw,ac,V.copy,V.lend,V.lend1,V.cells,V.boxable,over,al,ah,ae,ai,V.plain,Nat.reduceLeDiff,cond_true,cond_false,implies_true,eq_self,ne_eq,reduceIte,reduceCtorEq,Nat.reduceBEq,Nat.reduceLT,Nat.reduceEqDiff,Nat.reduceAdd,Nat.reduceSub,Nat.reduceMul];exact am hb rfl rfl List.take_left ⟨by rw[hq,h1];rfl,rfl⟩
theorem yE(a:Ex):∀(b:Ex) (σ:List (List V)),Fun G 34 [vex a,vex b] σ (aG (aA (gL a b)) σ):=by
 induction a using Ex.ind2 with
 | h a ih=>
 intro b σ;refine aD Tryz.func34 k34 (by simp only[aR];rfl) fun hb hw=>?_;have hq:=oC a b;have h0:=hw 0 (by simp);simp only[List.getElem_cons_zero,aR]at h0;have hm:=D2 (Fz h0 3 (by simp));simp only[List.getElem_cons_succ,List.getElem_cons_zero,List.length_map]at hm
 have out:∀(σ' l:List (List V)) (b1:Bool),gL a b=b1→σ'=σ++l→fin σ.length K2 (aG (aA (gL a b)) σ) .ret [(4,.d (.lit (.bool b1)))] σ':=fun σ' l b1 h e=>by
  subst e;exact am hb rfl rfl List.take_left ⟨by rw[h];rfl,rfl⟩
 unfold c34;simp -dsimp -implicitDefEqProofs only[aw,ac,V.copy,V.lend,V.lend1,V.cells,V.boxable,over,al,ah,ae,ai,V.plain,Nat.reduceLeDiff,cond_true,cond_false,implies_true,eq_self,ne_eq,reduceIte,reduceCtorEq,Nat.reduceBEq,Nat.reduceLT,Nat.reduceEqDiff,Nat.reduceAdd,Nat.reduceSub,Nat.reduceMul,aR];refine aF (fun h1=>?_) (fun h1=>?_)
 ·simp -dsimp -implicitDefEqProofs only[aw,ac,V.copy,V.lend,V.lend1,V.cells,V.boxable,over,al,ah,ae,ai,V.plain,Nat.reduceLeDiff,cond_true,cond_false,implies_true,eq_self,ne_eq,reduceIte,reduceCtorEq,Nat.reduceBEq,Nat.reduceLT,Nat.reduceEqDiff,Nat.reduceAdd,Nat.reduceSub,Nat.reduceMul];refine aF (fun h2=>?_) (fun h2=>?_)
  ·simp -dsimp -implicitDefEqProofs only[aw,ac,V.copy,V.lend,V.lend1,V.cells,V.boxable,over,al,ah,ae,ai,V.plain,Nat.reduceLeDiff,cond_true,cond_false,implies_true,eq_self,ne_eq,reduceIte,reduceCtorEq,Nat.reduceBEq,Nat.reduceLT,Nat.reduceEqDiff,Nat.reduceAdd,Nat.reduceSub,Nat.reduceMul];refine aF (fun h3=>?_) (fun h3=>?_)
   ·simp -dsimp -implicitDefEqProofs only[aw,ac,V.copy,V.lend,V.lend1,V.cells,V.boxable,over,al,ah,ae,ai,V.plain,Nat.reduceLeDiff,cond_true,cond_false,implies_true,eq_self,ne_eq,reduceIte,reduceCtorEq,Nat.reduceBEq,Nat.reduceLT,Nat.reduceEqDiff,Nat.reduceAdd,Nat.reduceSub,Nat.reduceMul,Int.ofNat_inj];refine aF (fun h4=>?_) (fun h4=>?_)
    ·simp -dsimp -implicitDefEqProofs only[aw,ac,V.copy,V.lend,V.lend1,V.cells,V.boxable,over,al,ah,ae,ai,V.plain,Nat.reduceLeDiff,cond_true,cond_false,implies_true,eq_self,ne_eq,reduceIte,reduceCtorEq,Nat.reduceBEq,Nat.reduceLT,Nat.reduceEqDiff,Nat.reduceAdd,Nat.reduceSub,Nat.reduceMul];exact out _ _ _ (by rw[hq,mh (by simpa using h4)];simp) rfl
    ·simp -dsimp -implicitDefEqProofs only[aw,ac,V.copy,V.lend,V.lend1,V.cells,V.boxable,over,al,ah,ae,ai,V.plain,Nat.reduceLeDiff,cond_true,cond_false,implies_true,eq_self,ne_eq,reduceIte,reduceCtorEq,Nat.reduceBEq,Nat.reduceLT,Nat.reduceEqDiff,Nat.reduceAdd,Nat.reduceSub,Nat.reduceMul];have h4:a.args.length=b.args.length:=by simpa using h4
     generalize hbx:[[V.d (ao a.op),V.d (ao a.num),V.d (an a.name),V.d (D.sl (List.map dex a.args))],[V.d (ao b.op),V.d (ao b.num),V.d (an b.name),V.d (D.sl (List.map dex b.args))]]=bx at out ⊢;refine xX (R:=fun(j:Nat) ρ σ'=>ρ=[(2,.ptr σ.length 0),(3,.ptr (σ.length+1) 0),(5,aW .i64 j)]∧σ'=σ++bx∧fe a.args b.args=fe (a.args.drop j) (b.args.drop j)) a.args.length ⟨rfl,rfl,by simp⟩ ?_ _;rintro j ρ' σ' hj ⟨rfl,rfl,hrec⟩;subst hbx;by_cases hlt:j<a.args.length
     ·have hlt':j<b.args.length:=by omega
      simp -dsimp -implicitDefEqProofs only[aw,ac,V.copy,V.lend,V.lend1,V.cells,V.boxable,over,al,ah,ae,ai,V.plain,Nat.reduceLeDiff,cond_true,cond_false,implies_true,eq_self,ne_eq,reduceIte,reduceCtorEq,Nat.reduceBEq,Nat.reduceLT,Nat.reduceEqDiff,Nat.reduceAdd,Nat.reduceSub,Nat.reduceMul,Int.ofNat_lt,hlt,decide_true,List.getElem?_eq_getElem hlt,List.getElem?_eq_getElem hlt',cS];refine aS (by simpa only[aR]using ih _ (List.getElem_mem hlt) _ _) ?_;simp -dsimp -implicitDefEqProofs only[aw,ac,V.copy,V.lend,V.lend1,V.cells,V.boxable,over,al,ah,ae,ai,V.plain,Nat.reduceLeDiff,cond_true,cond_false,implies_true,eq_self,ne_eq,reduceIte,reduceCtorEq,Nat.reduceBEq,Nat.reduceLT,Nat.reduceEqDiff,Nat.reduceAdd,Nat.reduceSub,Nat.reduceMul,bE hlt hm];refine aF (fun hs=>?_) (fun hs=>?_)
      ·simp -dsimp -implicitDefEqProofs only[aw,ac,V.copy,V.lend,V.lend1,V.cells,V.boxable,over,al,ah,ae,ai,V.plain,Nat.reduceLeDiff,cond_true,cond_false,implies_true,eq_self,ne_eq,reduceIte,reduceCtorEq,Nat.reduceBEq,Nat.reduceLT,Nat.reduceEqDiff,Nat.reduceAdd,Nat.reduceSub,Nat.reduceMul];exact out _ _ _ (by rw[hq,hrec,iW hlt hlt'];simp_all) rfl
      ·simp -dsimp -implicitDefEqProofs only[aw,ac,V.copy,V.lend,V.lend1,V.cells,V.boxable,over,al,ah,ae,ai,V.plain,Nat.reduceLeDiff,cond_true,cond_false,implies_true,eq_self,ne_eq,reduceIte,reduceCtorEq,Nat.reduceBEq,Nat.reduceLT,Nat.reduceEqDiff,Nat.reduceAdd,Nat.reduceSub,Nat.reduceMul,bE hlt hm];refine⟨hlt,Nxt.same (by simp) (bj hb rfl) ?_ ?_⟩
       ·simp[aP,V.under]
       ·exact⟨rfl,rfl,by rw[hrec,iW hlt hlt'];simp_all⟩
     ·simp -dsimp -implicitDefEqProofs only[aw,ac,V.copy,V.lend,V.lend1,V.cells,V.boxable,over,al,ah,ae,ai,V.plain,Nat.reduceLeDiff,cond_true,cond_false,implies_true,eq_self,ne_eq,reduceIte,reduceCtorEq,Nat.reduceBEq,Nat.reduceLT,Nat.reduceEqDiff,Nat.reduceAdd,Nat.reduceSub,Nat.reduceMul,Int.ofNat_lt,hlt,decide_false];exact out _ _ _ (by rw[hq,hrec,List.drop_of_length_le (by omega),List.drop_of_length_le (by omega)];simp_all[fe]) rfl
   ·simp -dsimp -implicitDefEqProofs only[aw,ac,V.copy,V.lend,V.lend1,V.cells,V.boxable,over,al,ah,ae,ai,V.plain,Nat.reduceLeDiff,cond_true,cond_false,implies_true,eq_self,ne_eq,reduceIte,reduceCtorEq,Nat.reduceBEq,Nat.reduceLT,Nat.reduceEqDiff,Nat.reduceAdd,Nat.reduceSub,Nat.reduceMul];exact out _ _ _ (by rw[hq];simp_all) rfl
  ·simp -dsimp -implicitDefEqProofs only[aw,ac,V.copy,V.lend,V.lend1,V.cells,V.boxable,over,al,ah,ae,ai,V.plain,Nat.reduceLeDiff,cond_true,cond_false,implies_true,eq_self,ne_eq,reduceIte,reduceCtorEq,Nat.reduceBEq,Nat.reduceLT,Nat.reduceEqDiff,Nat.reduceAdd,Nat.reduceSub,Nat.reduceMul];exact out _ _ _ (by rw[hq];simp_all) rfl
 ·simp -dsimp -implicitDefEqProofs only[aw,ac,V.copy,V.lend,V.lend1,V.cells,V.boxable,over,al,ah,ae,ai,V.plain,Nat.reduceLeDiff,cond_true,cond_false,implies_true,eq_self,ne_eq,reduceIte,reduceCtorEq,Nat.reduceBEq,Nat.reduceLT,Nat.reduceEqDiff,Nat.reduceAdd,Nat.reduceSub,Nat.reduceMul];exact out _ _ _ (by rw[hq];simp_all) rfl
end Go.Proofs.YthekkgfmagliiaaGreatDoor
