import Derived.Test.YthoebpnbhgmoiaaGreatDoorIe3
import Derived.Test.YthoebpnbhgmoiaaGreatDoorIs3
import Derived.Test.YthoebpnbhgmoiaaGreatDoorClo
import Derived.Test.YthoebpnbhgmoiaaGreatDoorK3
import Derived.Test.YthoebpnbhgmoiaaGreatDoorBrief
set_option linter.unusedVariables false
set_option linter.unusedSimpArgs false
set_option linter.unusedSectionVars false
namespace Go.Proofs.YthoebpnbhgmoiaaGreatDoor
open Go.RowKit
set_option maxHeartbeats 4000000 in
theorem count_fun:∀l:List It,ibigs l≤1048576→∀(n:Int),0≤n→n≤70→∀σ,Fun G 33 [.d (ditl l),.d (dint n)] σ (RetV (.d (dint (cnL l l.length n))) σ):=by
 refine its_ind2 fun l ih hs n hn0 hn σ=>?_;have hln:=ibigs_len l;refine fun_code Tryz.func33 k33 rfl fun hb hw=>?_;delta c33 oM oV kI kS kT kF
 have hout:∀(m:Int) ρ S,cnL l l.length n=m→ρ=[(4,V.d (dint m))]→(∃L,S=σ++L)→fin σ.length rs33 (RetV (.d (dint (cnL l l.length n))) σ) .ret ρ S:=fun m ρ S e1 e2 ⟨L,e3⟩=>by
  subst e2 e3;rw[e1];exact fin_ret hb rfl rfl List.take_left ⟨rfl,rfl⟩
 simp -dsimp -implicitDefEqProofs only[aw,slots0,V.copy,eq_self,reduceIte,reduceCtorEq,Nat.reduceBEq,Nat.reduceLT,Nat.reduceEqDiff];refine awp_for (R:=fun(j:Nat) ρ σ'=>∃k:Int,0≤k∧k≤1000000000∧cnL l l.length n=cnL (l.drop j) k n∧ρ=[(0,.d (ditl l)),(1,.d (dint n)),(5,.d (dint k)),(6,vint .i64 j)]∧σ'=σ) l.length ⟨l.length,by omega,by omega,rfl,rfl,rfl⟩ ?_ _;rintro j ρ' σ' hj ⟨k,hk0,hkB,hr,rfl,rfl⟩;by_cases hlt:j<l.length
 case neg=>
  rw[List.drop_eq_nil_of_le (by omega),cnL]at hr;simp -dsimp -implicitDefEqProofs only[aw,V.copy,eq_self,reduceIte,reduceCtorEq,Nat.reduceBEq,Nat.reduceLT,Nat.reduceEqDiff,Int.ofNat_lt,hlt,decide_false];exact hout _ _ _ hr rfl ⟨[],by simp⟩
 rw[List.drop_eq_getElem_cons hlt,cnL]at hr;by_cases hkn:k≤n
 case neg=>
  rw[if_pos (by omega)]at hr;simp -dsimp -implicitDefEqProofs only[aw,V.copy,cond_true,eq_self,reduceIte,reduceCtorEq,Nat.reduceBEq,Nat.reduceLT,Nat.reduceEqDiff,Int.ofNat_lt,hlt,decide_true,decide_eq_false hkn];exact hout _ _ _ hr rfl ⟨[],by simp⟩
 rw[if_neg (by omega)]at hr;obtain⟨i1,i2⟩:=ih _ (List.getElem_mem hlt);have hm:=ibigs_mem (List.getElem_mem hlt);have hxx:l[j]? = some l[j]:=List.getElem?_eq_getElem hlt;have wj:=wrap_nat hlt (show l.length≤9223372036854775807 by omega);generalize l[j]=x at hr i1 i2 hm hxx;have hbx:=ibig_eq x;have hfw:=fun σ=>fun_few x.ex 60 (by omega) (by omega) σ;simp only[vex_eq]at hfw;have wn:IntKind.i64.wrap (n+1)=n+1:=wrap_i64 (by omega) (by omega);have bad:thinB x=false→cnL l l.length n=n+1:=fun h=>by rw[if_pos h]at hr;exact hr
 simp -dsimp -implicitDefEqProofs only[aw,V.copy,V.lend,V.lend1,V.cells,V.boxable,over,Nat.reduceLeDiff,cond_true,eq_self,reduceIte,reduceCtorEq,Nat.reduceBEq,Nat.reduceLT,Nat.reduceEqDiff,Nat.reduceAdd,Int.ofNat_lt,hlt,decide_true,decide_eq_true hkn,hxx,dit_eq x];refine fun_ret (hfw _) ?_;by_cases t1:cnt x.ex 60≤60
 case neg=>
  simp -dsimp -implicitDefEqProofs only[aw,V.copy,eq_self,reduceIte,reduceCtorEq,Nat.reduceBEq,Nat.reduceLT,Nat.reduceEqDiff,decide_eq_false t1,wn];exact hout _ _ _ (bad (by unfold thinB;rw[decide_eq_false t1];rfl)) rfl ⟨_,rfl⟩
 by_cases t2:(20:Int)<(x.ws.length:Int)
 ·simp -dsimp -implicitDefEqProofs only[aw,V.copy,Nat.reduceLeDiff,cond_false,eq_self,reduceIte,reduceCtorEq,Nat.reduceBEq,Nat.reduceLT,Nat.reduceEqDiff,Nat.reduceAdd,decide_eq_true t1,decide_eq_true t2,wn];exact hout _ _ _ (bad (by unfold thinB;rw[decide_eq_false (show ¬x.ws.length≤20 by omega)];simp)) rfl ⟨_,rfl⟩
 by_cases t3:(20:Int)<(x.bef.length:Int)
 ·simp -dsimp -implicitDefEqProofs only[aw,V.copy,Nat.reduceLeDiff,cond_false,eq_self,reduceIte,reduceCtorEq,Nat.reduceBEq,Nat.reduceLT,Nat.reduceEqDiff,Nat.reduceAdd,decide_eq_true t1,decide_eq_false t2,decide_eq_true t3,wn];exact hout _ _ _ (bad (by unfold thinB;rw[decide_eq_false (show ¬x.bef.length≤20 by omega)];simp)) rfl ⟨_,rfl⟩
 by_cases t4:(20:Int)<(x.aft.length:Int)
 ·simp -dsimp -implicitDefEqProofs only[aw,V.copy,Nat.reduceLeDiff,cond_false,eq_self,reduceIte,reduceCtorEq,Nat.reduceBEq,Nat.reduceLT,Nat.reduceEqDiff,Nat.reduceAdd,decide_eq_true t1,decide_eq_false t2,decide_eq_false t3,decide_eq_true t4,wn];exact hout _ _ _ (bad (by unfold thinB;rw[decide_eq_false (show ¬x.aft.length≤20 by omega)];simp)) rfl ⟨_,rfl⟩
 by_cases t5:(40:Int)<(x.name.size:Int)
 ·simp -dsimp -implicitDefEqProofs only[aw,V.copy,Nat.reduceLeDiff,cond_false,eq_self,reduceIte,reduceCtorEq,Nat.reduceBEq,Nat.reduceLT,Nat.reduceEqDiff,Nat.reduceAdd,decide_eq_true t1,decide_eq_false t2,decide_eq_false t3,decide_eq_false t4,decide_eq_true t5,wn];exact hout _ _ _ (bad (by unfold thinB;rw[decide_eq_false (show ¬x.name.size≤40 by omega)];simp)) rfl ⟨_,rfl⟩
 by_cases t6:(40:Int)<(x.idx.size:Int)
 ·simp -dsimp -implicitDefEqProofs only[aw,V.copy,Nat.reduceLeDiff,cond_false,eq_self,reduceIte,reduceCtorEq,Nat.reduceBEq,Nat.reduceLT,Nat.reduceEqDiff,Nat.reduceAdd,decide_eq_true t1,decide_eq_false t2,decide_eq_false t3,decide_eq_false t4,decide_eq_false t5,decide_eq_true t6,wn];exact hout _ _ _ (bad (by unfold thinB;rw[decide_eq_false (show ¬x.idx.size≤40 by omega)];simp)) rfl ⟨_,rfl⟩
 have ht:thinB x=true:=by
  unfold thinB;rw[decide_eq_true t1,decide_eq_true (show x.ws.length≤20 by omega),decide_eq_true (show x.bef.length≤20 by omega),decide_eq_true (show x.aft.length≤20 by omega),decide_eq_true (show x.name.size≤40 by omega),decide_eq_true (show x.idx.size≤40 by omega)];rfl
 rw[if_neg (by simp[ht]),cnX_eq]at hr;have z1:=isz_big x.items;have z2:=isz_big x.els;have l1:=cnL_le x.items x.items.length (n-k) (by omega) (by omega);have l2:=cnL_le x.els x.els.length (n-k) (by omega) (by omega);have g1:=cnL_ge x.items x.items.length (n-k) (by omega);have g2:=cnL_ge x.els x.els.length (n-k) (by omega);have c1:=fun σ=>i1 (by omega) (n-k) (by omega) (by omega) σ;have c2:=fun σ=>i2 (by omega) (n-k) (by omega) (by omega) σ;generalize cnL x.items x.items.length (n-k)=A at hr l1 g1 c1;generalize cnL x.els x.els.length (n-k)=B at hr l2 g2 c2;have wk:IntKind.i64.wrap (n-k)=n-k:=wrap_i64 (by omega) (by omega);have wA:IntKind.i64.wrap (k+A)=k+A:=wrap_i64 (by omega) (by omega);have wB:IntKind.i64.wrap (k+A+B)=k+A+B:=wrap_i64 (by omega) (by omega)
 simp -dsimp -implicitDefEqProofs only[aw,V.copy,V.lend,Nat.reduceLeDiff,cond_false,eq_self,reduceIte,reduceCtorEq,Nat.reduceBEq,Nat.reduceLT,Nat.reduceEqDiff,Nat.reduceAdd,decide_eq_true t1,decide_eq_false t2,decide_eq_false t3,decide_eq_false t4,decide_eq_false t5,decide_eq_false t6,wk];refine calm_ret (c1 _) ?_;simp -dsimp -implicitDefEqProofs only[aw,V.copy,V.lend,Nat.reduceLeDiff,eq_self,reduceIte,reduceCtorEq,Nat.reduceLT,Nat.reduceEqDiff,Nat.reduceAdd,wk,wA];refine calm_ret (c2 _) ?_;simp -dsimp -implicitDefEqProofs only[aw,V.copy,eq_self,reduceIte,reduceCtorEq,Nat.reduceBEq,Nat.reduceLT,Nat.reduceEqDiff,wB,wj];exact⟨hlt,Nxt.drop (by simp) hb (by simp[slotsBelow,V.under]) ⟨k+A+B,by omega,by omega,by rw[hr];congr 1;omega,rfl,rfl⟩⟩
def fewI(l:List It):Bool:=decide (cnL l l.length 70≤70)
theorem few_fun(l:List It)(hl:ibigs l≤1048576)(σ:List (List V)):Fun G 9 [.d (ditl l)] σ (RetV (vbool (fewI l)) σ):=by
 refine fun_code Tryz.func9 k9 rfl fun hb hw=>?_;delta c9 oM oV kI kS kT kF;unfold fewI;simp -dsimp -implicitDefEqProofs only[aw,slots0,V.copy,V.lend,eq_self,reduceIte,reduceCtorEq,Nat.reduceBEq,Nat.reduceLT];refine fun_ret (count_fun l hl 70 (by omega) (by omega) _) ?_;simp -dsimp -implicitDefEqProofs only[aw,V.copy,eq_self,reduceIte,reduceCtorEq,Nat.reduceBEq,Nat.reduceLT,Nat.reduceEqDiff];first|exact fin_ret hb rfl rfl List.take_length ⟨rfl,rfl⟩|exact fin_ret hb rfl rfl List.take_left ⟨rfl,rfl⟩
theorem few_big{l:List It}(h:fewI l=true):ibigs l≤14000:=by
 have h:=of_decide_eq_true h;have:=cnL_few (fun e he=>by have:=few_size (n:=60) (e:=e) (by omega) he;omega) l l.length 70 (by omega) h;omega
set_option maxHeartbeats 2000000 in
theorem small_fun(c:Cl)(hc:c.fields.length≤1048576)(σ:List (List V)):Fun G 10 [vcl c] σ (RetV (vbool (smB c)) σ):=by
 refine fun_code Tryz.func10 k10 rfl fun hb hw=>?_;delta c10 oM oV kI kS kT kF
 have hout:∀(b:Bool) ρ S,smB c=b→ρ=[(2,vbool b)]→(∃L,S=σ++L)→fin σ.length rs10 (RetV (vbool (smB c)) σ) .ret ρ S:=fun b ρ S e1 e2 ⟨L,e3⟩=>by
  subst e2 e3;rw[e1];exact fin_ret hb rfl rfl List.take_left ⟨rfl,rfl⟩
 by_cases h20:(20:Int)<(c.fields.length:Int)
 ·simp -dsimp -implicitDefEqProofs only[aw,slots0,V.copy,V.cells,V.boxable,Nat.reduceLeDiff,eq_self,reduceIte,reduceCtorEq,Nat.reduceBEq,Nat.reduceLT,Nat.reduceEqDiff,Nat.reduceAdd,decide_eq_true h20];exact hout false _ _ (by unfold smB;rw[decide_eq_false (by omega)];rfl) rfl ⟨_,rfl⟩
 have hsm:smB c=smL [] c.fields:=by unfold smB;rw[decide_eq_true (by omega)];rfl
 rw[hsm]at hout ⊢;simp -dsimp -implicitDefEqProofs only[aw,slots0,V.copy,V.cells,V.boxable,Nat.reduceLeDiff,eq_self,reduceIte,reduceCtorEq,Nat.reduceBEq,Nat.reduceLT,Nat.reduceEqDiff,Nat.reduceAdd,decide_eq_false h20];refine awp_for (R:=fun(j:Nat) ρ σ'=>ρ=[(1,.ptr σ.length 0),(3,vint .i64 j)]∧σ'=σ++[clsC c]∧smL [] c.fields=smL (c.fields.take j) (c.fields.drop j)) c.fields.length ⟨rfl,rfl,by simp⟩ ?_ _;rintro j ρ' σ' hj ⟨rfl,rfl,hr⟩;by_cases hlt:j<c.fields.length
 case neg=>
  rw[List.drop_eq_nil_of_le (by omega),smL]at hr;simp -dsimp -implicitDefEqProofs only[aw,V.copy,Nat.reduceLeDiff,eq_self,reduceIte,Nat.reduceBEq,Nat.reduceLT,Nat.reduceEqDiff,Nat.reduceAdd,Int.ofNat_lt,hlt,decide_false];exact hout true _ _ hr rfl ⟨_,rfl⟩
 have hxx:c.fields[j]? = some c.fields[j]:=List.getElem?_eq_getElem hlt;have htk:c.fields.take (j+1)=c.fields.take j++[c.fields[j]]:=by rw[List.take_add_one,hxx];rfl
 rw[List.drop_eq_getElem_cons hlt,smL,←htk]at hr;generalize c.fields[j]=f at hxx hr;have hd:dfd f=[dstr f.name,dint f.width,dint f.size,dint f.mode,dint f.init]:=rfl;have wj:=wrap_nat hlt (show c.fields.length≤9223372036854775807 by omega);by_cases s1:f.size<0
 ·simp -dsimp -implicitDefEqProofs only[aw,V.copy,Nat.reduceLeDiff,eq_self,reduceIte,Nat.reduceBEq,Nat.reduceLT,Nat.reduceEqDiff,Nat.reduceAdd,Int.ofNat_lt,hlt,decide_true,hxx,hd,decide_eq_true s1];exact hout false _ _ (by rw[hr,decide_eq_false (by omega)];rfl) rfl ⟨_,rfl⟩
 by_cases s2:8<f.size
 ·simp -dsimp -implicitDefEqProofs only[aw,V.copy,Nat.reduceLeDiff,cond_false,eq_self,reduceIte,Nat.reduceBEq,Nat.reduceLT,Nat.reduceEqDiff,Nat.reduceAdd,Int.ofNat_lt,hlt,decide_true,hxx,hd,decide_eq_false s1,decide_eq_true s2];exact hout false _ _ (by rw[hr,decide_eq_false (show ¬f.size≤8 by omega)];simp) rfl ⟨_,rfl⟩
 simp -dsimp -implicitDefEqProofs only[aw,V.copy,V.lend,Nat.reduceLeDiff,cond_false,eq_self,reduceIte,Nat.reduceBEq,Nat.reduceLT,Nat.reduceEqDiff,Nat.reduceAdd,Int.ofNat_lt,hlt,decide_true,hxx,hd,decide_eq_false s1,decide_eq_false s2];refine fun_ret (fun_isname f.name _) ?_;cases hnm:nameB f.name with
 | false=>
  simp -dsimp -implicitDefEqProofs only[aw,V.copy,cond_false,eq_self,reduceIte,Nat.reduceBEq,Nat.reduceLT,Nat.reduceEqDiff];exact hout false _ _ (by rw[hr,hnm];simp) rfl ⟨_,rfl⟩
 | true=>
 rw[decide_eq_true (show 0≤f.size by omega),decide_eq_true (show f.size≤8 by omega),hnm]at hr;simp only[Bool.true_and]at hr;simp -dsimp -implicitDefEqProofs only[aw,V.copy,cond_false,eq_self,reduceIte,Nat.reduceBEq,Nat.reduceLT,Nat.reduceEqDiff];refine awp_for (R:=fun(i:Nat) ρ σ'=>ρ=[(1,.ptr σ.length 0),(3,vint .i64 j),(4,vint .i64 i)]∧σ'=σ++[clsC c]∧(c.fields.take j).all (fun g=>!decide (g.name=f.name))=((c.fields.take j).drop i).all (fun g=>!decide (g.name=f.name))) j ⟨rfl,rfl,by simp⟩ ?_ _;rintro i ρ' σ' hi ⟨rfl,rfl,hq⟩;have hjl:(c.fields.take j).length=j:=by rw[List.length_take];omega
 by_cases hit:i<j
 ·have hyy:c.fields[i]? = some c.fields[i]:=List.getElem?_eq_getElem (by omega);rw[List.drop_eq_getElem_cons (by omega),List.all_cons,List.getElem_take]at hq;generalize c.fields[i]=g at hyy hq;have hdg:dfd g=[dstr g.name,dint g.width,dint g.size,dint g.mode,dint g.init]:=rfl;have wi:=wrap_nat hit (show j≤9223372036854775807 by omega);by_cases e:g.name=f.name
  ·simp -dsimp -implicitDefEqProofs only[aw,V.copy,Nat.reduceLeDiff,eq_self,reduceIte,Nat.reduceBEq,Nat.reduceLT,Nat.reduceEqDiff,Nat.reduceAdd,Int.ofNat_lt,hit,decide_true,hyy,hdg,hxx,hd,decide_eq_true e];exact hout false _ _ (by rw[hr,hq,decide_eq_true e];rfl) rfl ⟨_,rfl⟩
  ·rw[decide_eq_false e,Bool.not_false,Bool.true_and]at hq;simp -dsimp -implicitDefEqProofs only[aw,V.copy,Nat.reduceLeDiff,eq_self,reduceIte,Nat.reduceBEq,Nat.reduceLT,Nat.reduceEqDiff,Nat.reduceAdd,Int.ofNat_lt,hit,decide_true,hyy,hdg,hxx,hd,decide_eq_false e,wi];exact Nxt.same (by simp) (boxesBelow_app hb rfl) (by simp[slotsBelow,V.under]) ⟨rfl,rfl,hq⟩
 ·rw[List.drop_eq_nil_of_le (by omega),List.all_nil]at hq;rw[hq,Bool.true_and]at hr;simp -dsimp -implicitDefEqProofs only[aw,V.copy,eq_self,reduceIte,reduceCtorEq,Nat.reduceBEq,Nat.reduceLT,Nat.reduceEqDiff,Int.ofNat_lt,hit,decide_false,wj];exact⟨hlt,Nxt.same (by simp) (boxesBelow_app hb rfl) (by simp[slotsBelow,V.under]) ⟨rfl,rfl,hr⟩⟩
def flatC:Cl:=⟨⟨#[112]⟩,⟨#[]⟩,[⟨⟨#[97]⟩,2,0,1,0⟩,⟨⟨#[100]⟩,3,2,1,0⟩],.sl []⟩
theorem flat_fun(σ:List (List V)):Fun G 35 [] σ (RetV (vcl flatC) σ):=by
 refine fun_code Tryz.func35 k35 rfl fun hb hw=>?_;delta c35 oM oV kI kS kT kF;simp -dsimp -implicitDefEqProofs only[aw,slots0,V.copy,V.cells,V.boxable,over,bldV,rowsOf,plains,V.plain,Nat.reduceLeDiff,eq_self,reduceIte,reduceCtorEq,Nat.reduceBEq,Nat.reduceLT,Nat.reduceEqDiff,Nat.reduceAdd];exact fin_ret (v:=vcl flatC) hb (by simp[rs35,resV,res1,flatC,dfd,aw,V.copy,V.lend,V.lend1,eq_self,reduceIte,Nat.reduceAdd]) rfl List.take_left ⟨rfl,rfl⟩
def lessX(e:Ex):Ex:=.mk 17 0 ⟨#[]⟩ [e,.mk 1 3 ⟨#[]⟩ []]
def awI:List It:=[.mk 5 (.mk 0 0 ⟨#[]⟩ []) ⟨#[100]⟩ ⟨#[105]⟩ [] [itE 1 (lessX (.mk 3 0 ⟨#[100]⟩ [.mk 2 0 ⟨#[105]⟩ []]))] [] [] []]
def awO:List It:=[itE 1 (lessX (.mk 3 0 ⟨#[100]⟩ [.mk 1 0 ⟨#[]⟩ []])),itE 1 (lessX (.mk 3 0 ⟨#[100]⟩ [.mk 1 1 ⟨#[]⟩ []]))]
def awE:Ex:=.mk 24 0 ⟨#[100]⟩ []
def awS:Ex:=.mk 7 0 ⟨#[]⟩ [.mk 2 0 ⟨#[100,91,48,93]⟩ [],.mk 2 0 ⟨#[100,91,49,93]⟩ []]
theorem aw_small:SmallF (fldS flatC):=(smB_ok (show smB flatC=true by kernel_rfl)).2
theorem aw_exp:expandI splE (fldS flatC) awI=(awO,0):=by kernel_rfl
theorem aw_chk:checkI splE (fldS flatC) awI=0:=by kernel_rfl
theorem aw_sc:scalarI splE (fldS flatC) awE=(awS,0):=by kernel_rfl
theorem aw_sz:iszs awI=2:=by kernel_rfl
theorem aw_dit:ditl awI=.sl [[dint 5,dint 0,dint 0,dstr ⟨#[]⟩,.sl [],dstr ⟨#[100]⟩,dstr ⟨#[105]⟩,.sl [],.sl [[dint 1,dint 17,dint 0,dstr ⟨#[]⟩,.sl [[dint 3,dint 0,dstr ⟨#[100]⟩,.sl [[dint 2,dint 0,dstr ⟨#[105]⟩,.sl []]]],[dint 1,dint 3,dstr ⟨#[]⟩,.sl []]],dstr ⟨#[]⟩,dstr ⟨#[]⟩,.sl [],.sl [],.sl [],.sl [],.sl []]],.sl [],.sl [],.sl []]]:=by kernel_rfl
theorem aw_ditO:ditl awO=.sl [[dint 1,dint 17,dint 0,dstr ⟨#[]⟩,.sl [[dint 3,dint 0,dstr ⟨#[100]⟩,.sl [[dint 1,dint 0,dstr ⟨#[]⟩,.sl []]]],[dint 1,dint 3,dstr ⟨#[]⟩,.sl []]],dstr ⟨#[]⟩,dstr ⟨#[]⟩,.sl [],.sl [],.sl [],.sl [],.sl []],[dint 1,dint 17,dint 0,dstr ⟨#[]⟩,.sl [[dint 3,dint 0,dstr ⟨#[100]⟩,.sl [[dint 1,dint 1,dstr ⟨#[]⟩,.sl []]]],[dint 1,dint 3,dstr ⟨#[]⟩,.sl []]],dstr ⟨#[]⟩,dstr ⟨#[]⟩,.sl [],.sl [],.sl [],.sl [],.sl []]]:=by kernel_rfl
theorem aw_cl:vcl flatC=.agg [.d (dstr ⟨#[112]⟩),.d (dstr ⟨#[]⟩),.d (.sl [[dstr ⟨#[97]⟩,dint 2,dint 0,dint 1,dint 0],[dstr ⟨#[100]⟩,dint 3,dint 2,dint 1,dint 0]]),.d (.sl [])]:=rfl
theorem aw_ve:vex awE=.agg [.d (dint 24),.d (dint 0),.d (dstr ⟨#[100]⟩),.d (.sl [])]:=by rw[vex_eq];rfl
theorem aw_vs:vex awS=.agg [.d (dint 7),.d (dint 0),.d (dstr ⟨#[]⟩),.d (.sl [[dint 2,dint 0,dstr ⟨#[100,91,48,93]⟩,.sl []],[dint 2,dint 0,dstr ⟨#[100,91,49,93]⟩,.sl []]])]:=by rw[vex_eq];kernel_rfl
set_option maxHeartbeats 4000000 in
theorem awake_fun(σ:List (List V)):Fun G 11 [] σ (RetV (vbool true) σ):=by
 refine fun_code Tryz.func11 k11 rfl fun hb hw=>?_;delta c11 oM oV kI kS kT kF;have hfl:=fun σ=>flat_fun σ;have hex:=fun σ=>expand_item awI flatC (by decide +kernel) aw_small (by decide) σ;have hsc:=fun σ=>scalar_item awE flatC (by decide +kernel) aw_small (by decide) σ;have hch:=fun σ=>check_item awI flatC (by decide +kernel) aw_small (by decide) σ;have hsz:=fun σ=>isize_fun awI (by rw[aw_sz];omega) σ;rw[aw_exp]at hex;rw[aw_sc]at hsc;rw[aw_chk]at hch;rw[aw_sz]at hsz;simp only[aw_dit,aw_ditO,aw_cl,aw_ve,aw_vs]at hfl hex hsc hch hsz;simp -dsimp -implicitDefEqProofs only[aw,slots0,V.copy,V.lend,V.cells,V.boxable,over,bldV,rowsOf,plains,V.plain,Nat.reduceLeDiff,eq_self,reduceIte,Nat.reduceBEq,Nat.reduceLT,Nat.reduceEqDiff,Nat.reduceAdd];refine fun_ret (hfl _) ?_;simp -dsimp -implicitDefEqProofs only[aw,V.lend,V.lend1,eq_self,reduceIte,Nat.reduceLT,Nat.reduceEqDiff];refine fun_ret (hex _) ?_
 simp -dsimp -implicitDefEqProofs only[aw,V.copy,V.lend,V.cells,over,bldV,Nat.reduceLeDiff,eq_self,reduceIte,Nat.reduceBEq,Nat.reduceLT,Nat.reduceEqDiff,Nat.reduceAdd];refine fun_ret (hfl _) ?_;simp -dsimp -implicitDefEqProofs only[aw,V.lend,V.lend1,eq_self,reduceIte,Nat.reduceLT,Nat.reduceEqDiff];refine fun_ret (hsc _) ?_;simp -dsimp -implicitDefEqProofs only[aw,V.copy,V.lend,V.cells,V.boxable,over,Nat.reduceLeDiff,eq_self,reduceIte,Nat.reduceBEq,Nat.reduceLT,Nat.reduceEqDiff,Nat.reduceAdd];refine fun_ret (hfl _) ?_;simp -dsimp -implicitDefEqProofs only[aw,V.lend,V.lend1,eq_self,reduceIte,Nat.reduceLT,Nat.reduceEqDiff];refine fun_ret (hch _) ?_
 have i1:∀a0 a1 a2 a3 a4 a5 a6 a7 a8 a9 a10 a11 b0 b1 b2 b3 b4 b5 b6 b7 b8 b9 b10 b11:D,iaV 12 (V.d (.sl [[a0,a1,a2,a3,a4,a5,a6,a7,a8,a9,a10,a11],[b0,b1,b2,b3,b4,b5,b6,b7,b8,b9,b10,b11]])) (V.d (D.lit (Value.int IntKind.i64 1)))=some (.row [b0,b1,b2,b3,b4,b5,b6,b7,b8,b9,b10,b11] 0):=fun _ _ _ _ _ _ _ _ _ _ _ _ _ _ _ _ _ _ _ _ _ _ _ _=>rfl;have n2:((2:Nat):Int)=2:=rfl;simp -dsimp -implicitDefEqProofs only[aw,V.copy,V.lend,Nat.reduceLeDiff,cond_true,eq_self,reduceIte,Nat.reduceLT,Nat.reduceEqDiff,Nat.reduceAdd,decide_true,i1,n2];refine fun_ret (hsz _) ?_;simp -dsimp -implicitDefEqProofs only[aw,V.copy,cond_true,eq_self,reduceIte,reduceCtorEq,Nat.reduceBEq,Nat.reduceLT,Nat.reduceEqDiff,decide_true,n2];exact fin_ret hb rfl rfl List.take_left ⟨rfl,rfl⟩
end Go.Proofs.YthoebpnbhgmoiaaGreatDoor
