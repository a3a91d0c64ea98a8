import Derived.Test.YthekkgfmagliiaaGreatDoorTShape
set_option linter.unusedVariables false
set_option linter.unusedSimpArgs false
set_option linter.unusedSectionVars false
namespace Go.Proofs.YthekkgfmagliiaaGreatDoor
open Go.RowKit
theorem xa(l:List ByteArray)(s:ByteArray)(hl:l.length≤1000000)(σ:List (List V)):Fun G 121 [.d (dy l),.d (an s)] σ (aG (.d (.lit (.bool (inB s l)))) σ):=
 BM Tryz.func121 (by kernel_rfl) (by kernel_rfl) trivial fun M bm w v v' hG hM h1 h2=>by
  cases h2 with
  | d h2=>cases h2 with
   | lit _ h=>exact(f9 l s v w (iF hM h1)).mono fun e w' ⟨h3,h4⟩=>by subst h4;exact⟨h3,Ext.refl _⟩
theorem ve(l:List ByteArray)(p:ByteArray→Bool)(f:FuncId)(cap:List V)(hl:l.length≤1000000)(σ:List (List V))(hc:V.unders σ.length cap=true)(hf:∀s,s∈l→Fun G f (.d (an s)::cap) σ (aG (aA (p s)) σ)):
 Fun G 174 [.d (.sl (l.map fun s=>[an s])),.fn f cap] σ fun o σ'=>∃i:Int,o=.ret (.d (ao i))∧σ'=σ∧decide (0≤i)=l.any p:=by
 refine aD Tryz.func174 N5 rfl fun hb hw=>?_;unfold KC;simp -dsimp -implicitDefEqProofs only[aw,ac,V.copy,V.lend,V.lend1,V.cells,V.boxable,over,al,ah,ae,ai,V.plain,Nat.reduceLeDiff,cond_true,cond_false,implies_true,eq_self,ne_eq,reduceIte,reduceCtorEq,Nat.reduceBEq,Nat.reduceLT,Nat.reduceEqDiff,Nat.reduceAdd,Nat.reduceSub,Nat.reduceMul];refine ce [0,1,7,8] (R:=fun(j:Nat) ρ σ'=>ρ=[(0,.d (.sl (l.map fun s=>[an s]))),(1,.fn f cap),(7,aW .i64 l.length),(8,aW .i64 j)]∧σ'=σ∧l.any p=(l.drop j).any p) l.length ⟨rfl,rfl,by simp⟩ ?_ _;rintro j ρ' σ' hj ⟨rfl,rfl,hr⟩;by_cases hlt:j<l.length
 ·have hd:(l.drop j).any p=(p l[j]||(l.drop (j+1)).any p):=by rw[List.drop_eq_getElem_cons hlt];rfl
  simp -dsimp -implicitDefEqProofs only[aw,ac,V.copy,V.lend,V.lend1,V.cells,V.boxable,over,al,ah,ae,ai,V.plain,Nat.reduceLeDiff,cond_true,cond_false,implies_true,eq_self,ne_eq,reduceIte,reduceCtorEq,Nat.reduceBEq,Nat.reduceLT,Nat.reduceEqDiff,Nat.reduceAdd,Nat.reduceSub,Nat.reduceMul,Int.ofNat_lt,hlt,decide_true,List.getElem?_eq_getElem hlt];refine aq (hf l[j] (List.getElem_mem hlt)) ?_;rw[hd]at hr;cases hp:p l[j]with
  | true=>
   rw[hp]at hr;simp -dsimp -implicitDefEqProofs only[aw,ac,V.copy,V.lend,V.lend1,V.cells,V.boxable,over,al,ah,ae,ai,V.plain,Nat.reduceLeDiff,cond_true,cond_false,implies_true,eq_self,ne_eq,reduceIte,reduceCtorEq,Nat.reduceBEq,Nat.reduceLT,Nat.reduceEqDiff,Nat.reduceAdd,Nat.reduceSub,Nat.reduceMul];exact am hb rfl rfl List.take_length ⟨j,rfl,rfl,by rw[hr,decide_eq_true (by omega)];rfl⟩
  | false=>
   rw[hp,Bool.false_or]at hr;simp -dsimp -implicitDefEqProofs only[aw,ac,V.copy,V.lend,V.lend1,V.cells,V.boxable,over,al,ah,ae,ai,V.plain,Nat.reduceLeDiff,cond_true,cond_false,implies_true,eq_self,ne_eq,reduceIte,reduceCtorEq,Nat.reduceBEq,Nat.reduceLT,Nat.reduceEqDiff,Nat.reduceAdd,Nat.reduceSub,Nat.reduceMul,bE hlt (show l.length≤9223372036854775807 by omega)];exact⟨hlt,Nxt.same (Nat.le_refl _) hb (by simp[aP,V.under,V.unders,hc]) ⟨rfl,rfl,hr⟩⟩
 ·simp -dsimp -implicitDefEqProofs only[aw,ac,V.copy,V.lend,V.lend1,V.cells,V.boxable,over,al,ah,ae,ai,V.plain,Nat.reduceLeDiff,cond_true,cond_false,implies_true,eq_self,ne_eq,reduceIte,reduceCtorEq,Nat.reduceBEq,Nat.reduceLT,Nat.reduceEqDiff,Nat.reduceAdd,Nat.reduceSub,Nat.reduceMul,Int.ofNat_lt,hlt,decide_false];rw[List.drop_eq_nil_of_le (by omega)]at hr;exact am hb rfl rfl List.take_length ⟨-1,rfl,rfl,by rw[hr];rfl⟩
theorem IZ(K P:V→List (List V)→Prop)(v:V)(σ:List (List V)):FT K P (.ret v) σ=K v σ:=rfl
theorem qa(l:List ByteArray)(p:ByteArray→Bool)(f:FuncId)(cap:List V)(hl:l.length≤1000000)(σ:List (List V))(hc:V.unders σ.length cap=true)(hf:∀s,s∈l→Fun G f (.d (an s)::cap) σ (aG (aA (p s)) σ)):
 Fun G 143 [.d (.sl (l.map fun s=>[an s])),.fn f cap] σ (aG (aA (l.any p)) σ):=by
 refine aD Tryz.func143 Ov rfl fun hb hw=>?_;unfold c143;simp -dsimp -implicitDefEqProofs only[aw,ac,V.copy,V.lend,V.lend1,V.cells,V.boxable,over,al,ah,ae,ai,V.plain,Nat.reduceLeDiff,cond_true,cond_false,implies_true,eq_self,ne_eq,reduceIte,reduceCtorEq,Nat.reduceBEq,Nat.reduceLT,Nat.reduceEqDiff,Nat.reduceAdd,Nat.reduceSub,Nat.reduceMul];refine BJ (ve l p f cap hl _ hc hf) fun o σ' ⟨i,h1,h2,h3⟩=>?_;subst h1;subst h2;simp -dsimp -implicitDefEqProofs only[aw,ac,V.copy,V.lend,V.lend1,V.cells,V.boxable,over,al,ah,ae,ai,V.plain,Nat.reduceLeDiff,cond_true,cond_false,implies_true,eq_self,ne_eq,reduceIte,reduceCtorEq,Nat.reduceBEq,Nat.reduceLT,Nat.reduceEqDiff,Nat.reduceAdd,Nat.reduceSub,Nat.reduceMul,IZ,h3]
 first|exact am hb rfl rfl List.take_length ⟨rfl,rfl⟩|exact am hb rfl rfl List.take_left ⟨rfl,rfl⟩|(trace_state;fail "fin")
theorem yx(l:List ByteArray)(hl:l.length≤1000000)(s:ByteArray)(σ:List (List V))(i:Nat)(hi:σ[i]? = some [.d (dy l)]):Fun G 145 [.d (an s),.ptr i 0] σ (aG (aA (inB s l)) σ):=by
 refine aD Tryz.func145 MN rfl fun hb hw=>?_;unfold c145;simp -dsimp -implicitDefEqProofs only[aw,ac,V.copy,V.lend,V.lend1,V.cells,V.boxable,over,al,ah,ae,ai,V.plain,Nat.reduceLeDiff,cond_true,cond_false,implies_true,eq_self,ne_eq,reduceIte,reduceCtorEq,Nat.reduceBEq,Nat.reduceLT,Nat.reduceEqDiff,Nat.reduceAdd,Nat.reduceSub,Nat.reduceMul,hi];refine aq (xa l s hl _) ?_;simp -dsimp -implicitDefEqProofs only[aw,ac,V.copy,V.lend,V.lend1,V.cells,V.boxable,over,al,ah,ae,ai,V.plain,Nat.reduceLeDiff,cond_true,cond_false,implies_true,eq_self,ne_eq,reduceIte,reduceCtorEq,Nat.reduceBEq,Nat.reduceLT,Nat.reduceEqDiff,Nat.reduceAdd,Nat.reduceSub,Nat.reduceMul];first|exact am hb rfl rfl List.take_length ⟨rfl,rfl⟩|exact am hb rfl rfl List.take_left ⟨rfl,rfl⟩|(trace_state;fail "fin")
def Ts.arg0(s:Ts):Ts:=(s.args.head?).getD s
def eB(s:Ts)(below:Bool):Int:=
 if(!eL s||((!ch s.op && !fO s.ex)||(decide (s.op≠6)&&decide (s.name≠⟨#[]⟩))))=true then 1
 else if(decide (s.op=6) && !a8 s.name)=true then 7
 else if ch s.op=true∧bd s.ex≠0 then bd s.ex
 else if(decide (s.op=6)&&below)=true then 13
 else if s.op=7∧((ck [2] s.ex).any fun n=>inB n (tnm s.arg0))=true then 13
 else 0
theorem tO(ops:List Int)(l:List ByteArray)(o:Int)(s:ByteArray):(cM ops l o s).length≤l.length+1:=by
 unfold cM;split<;>simp
theorem zO(ops:List Int)(e:Ex):∀x:List ByteArray,(dh (bO ops) e x).1.length≤x.length+aQ e:=by
 induction e using Ex.ind with
 | h o n s l ih=>
  intro x
  have H:∀(r:List Ex),(∀a,a∈r→a∈l)→∀x:List ByteArray,(dB (bO ops) r x).1.length≤x.length+aV r:=by
   intro r
   induction r with
   | nil=>intro _ x;simp[dB,aV]
   | cons a r ihr=>
    intro hr x;rw[dB,if_pos (kq _ a x)];have h1:=ih a (hr a (by simp)) x;have h2:=ihr (fun y hy=>hr y (by simp[hy])) (dh (bO ops) a x).1;simp only[aV];omega
  rw[dh,if_pos (show(bO ops x (Ex.mk o n s l)).2=true from rfl)];have h1:=H l (fun _ h=>h) (bO ops x (Ex.mk o n s l)).1;have h2:(bO ops x (Ex.mk o n s l)).1.length≤x.length+1:=tO ..;simp only[aQ];omega
theorem uW(e:Ex):(ck [2] e).length≤aQ e:=by
 have:=zO [2] e [];simpa[ck]using this
theorem BC(s:Ts)(below:Bool)(hs:bq s≤1000000)(σ:List (List V)):Fun G 106 [vts s,.d (.lit (.bool below))] σ (aG (.d (ao (eB s below))) σ):=by
 have hsz:=fu s;have hln:=dC s;have hq:eB s below=eB s below:=rfl
 conv at hq=>rhs;unfold eB
 refine aD Tryz.func106 Oz (by simp only[ax];rfl) fun hb hw=>?_;unfold LK;simp -dsimp -implicitDefEqProofs only[aw,ac,V.copy,V.lend,V.lend1,V.cells,V.boxable,over,al,ah,ae,ai,V.plain,Nat.reduceLeDiff,cond_true,cond_false,implies_true,eq_self,ne_eq,reduceIte,reduceCtorEq,Nat.reduceBEq,Nat.reduceLT,Nat.reduceEqDiff,Nat.reduceAdd,Nat.reduceSub,Nat.reduceMul,ax];refine aq (by simpa only[ax]using AD s (by omega) _) ?_
 have out:∀(n:Int) (l:List (List V)),eB s below=n→fin σ.length Hn (aG (.d (ao (eB s below))) σ) .ret [(4,.d (.lit (.int .i64 n)))] (σ++l):=fun n l h=>by
  rw[h];exact am hb rfl rfl List.take_left ⟨rfl,rfl⟩
 cases h1:eL s with
 | false=>
  simp -dsimp -implicitDefEqProofs only[aw,ac,V.copy,V.lend,V.lend1,V.cells,V.boxable,over,al,ah,ae,ai,V.plain,Nat.reduceLeDiff,cond_true,cond_false,implies_true,eq_self,ne_eq,reduceIte,reduceCtorEq,Nat.reduceBEq,Nat.reduceLT,Nat.reduceEqDiff,Nat.reduceAdd,Nat.reduceSub,Nat.reduceMul];exact out 1 _ (by rw[hq,h1];rfl)
 | true=>
 have hv:∀σ,Fun G 91 [vex s.ex] σ (aG (.d (ao (bd s.ex))) σ):=mz s.ex (by omega) (by have:=jK s.ex;omega);by_cases o6:s.op=6
 ·have w6:ch s.op=true:=by rw[o6];rfl
  rw[h1,w6,if_neg (by simp[o6]),decide_eq_true o6]at hq;simp -dsimp -implicitDefEqProofs only[aw,ac,V.copy,V.lend,V.lend1,V.cells,V.boxable,over,al,ah,ae,ai,V.plain,Nat.reduceLeDiff,cond_true,cond_false,implies_true,eq_self,ne_eq,reduceIte,reduceCtorEq,Nat.reduceBEq,Nat.reduceLT,Nat.reduceEqDiff,Nat.reduceAdd,Nat.reduceSub,Nat.reduceMul,o6,Int.reduceEq,decide_true,decide_false];refine aq (cP 6 _) ?_;have w6':ch 6=true:=rfl;simp -dsimp -implicitDefEqProofs only[aw,ac,V.copy,V.lend,V.lend1,V.cells,V.boxable,over,al,ah,ae,ai,V.plain,Nat.reduceLeDiff,cond_true,cond_false,implies_true,eq_self,ne_eq,reduceIte,reduceCtorEq,Nat.reduceBEq,Nat.reduceLT,Nat.reduceEqDiff,Nat.reduceAdd,Nat.reduceSub,Nat.reduceMul,w6',Int.reduceEq,decide_true,decide_false];refine aq (m5 s.name _) ?_;cases h2:a8 s.name with
  | false=>
   rw[h2,if_pos (show(true && !false)=true from rfl)]at hq;simp -dsimp -implicitDefEqProofs only[aw,ac,V.copy,V.lend,V.lend1,V.cells,V.boxable,over,al,ah,ae,ai,V.plain,Nat.reduceLeDiff,cond_true,cond_false,implies_true,eq_self,ne_eq,reduceIte,reduceCtorEq,Nat.reduceBEq,Nat.reduceLT,Nat.reduceEqDiff,Nat.reduceAdd,Nat.reduceSub,Nat.reduceMul];exact out 7 _ hq
  | true=>
   rw[h2,if_neg (by simp)]at hq;simp -dsimp -implicitDefEqProofs only[aw,ac,V.copy,V.lend,V.lend1,V.cells,V.boxable,over,al,ah,ae,ai,V.plain,Nat.reduceLeDiff,cond_true,cond_false,implies_true,eq_self,ne_eq,reduceIte,reduceCtorEq,Nat.reduceBEq,Nat.reduceLT,Nat.reduceEqDiff,Nat.reduceAdd,Nat.reduceSub,Nat.reduceMul];refine aq (cP 6 _) ?_;simp -dsimp -implicitDefEqProofs only[aw,ac,V.copy,V.lend,V.lend1,V.cells,V.boxable,over,al,ah,ae,ai,V.plain,Nat.reduceLeDiff,cond_true,cond_false,implies_true,eq_self,ne_eq,reduceIte,reduceCtorEq,Nat.reduceBEq,Nat.reduceLT,Nat.reduceEqDiff,Nat.reduceAdd,Nat.reduceSub,Nat.reduceMul,w6'];refine aq (by simpa only[aR]using hv _) ?_;by_cases h3:bd s.ex=0
   ·rw[if_neg (by simp[h3])]at hq;simp -dsimp -implicitDefEqProofs only[aw,ac,V.copy,V.lend,V.lend1,V.cells,V.boxable,over,al,ah,ae,ai,V.plain,Nat.reduceLeDiff,cond_true,cond_false,implies_true,eq_self,ne_eq,reduceIte,reduceCtorEq,Nat.reduceBEq,Nat.reduceLT,Nat.reduceEqDiff,Nat.reduceAdd,Nat.reduceSub,Nat.reduceMul,h3,Int.reduceEq,decide_true,decide_false];cases below with
    | true=>
     simp -dsimp -implicitDefEqProofs only[aw,ac,V.copy,V.lend,V.lend1,V.cells,V.boxable,over,al,ah,ae,ai,V.plain,Nat.reduceLeDiff,cond_true,cond_false,implies_true,eq_self,ne_eq,reduceIte,reduceCtorEq,Nat.reduceBEq,Nat.reduceLT,Nat.reduceEqDiff,Nat.reduceAdd,Nat.reduceSub,Nat.reduceMul];exact out 13 _ hq
    | false=>
     simp -dsimp -implicitDefEqProofs only[aw,ac,V.copy,V.lend,V.lend1,V.cells,V.boxable,over,al,ah,ae,ai,V.plain,Nat.reduceLeDiff,cond_true,cond_false,implies_true,eq_self,ne_eq,reduceIte,reduceCtorEq,Nat.reduceBEq,Nat.reduceLT,Nat.reduceEqDiff,Nat.reduceAdd,Nat.reduceSub,Nat.reduceMul,Int.reduceEq,decide_false];exact out 0 _ (by rw[hq,if_neg (by simp),if_neg (by simp[o6])])
   ·rw[if_pos ⟨rfl,h3⟩]at hq;simp -dsimp -implicitDefEqProofs only[aw,ac,V.copy,V.lend,V.lend1,V.cells,V.boxable,over,al,ah,ae,ai,V.plain,Nat.reduceLeDiff,cond_true,cond_false,implies_true,eq_self,ne_eq,reduceIte,reduceCtorEq,Nat.reduceBEq,Nat.reduceLT,Nat.reduceEqDiff,Nat.reduceAdd,Nat.reduceSub,Nat.reduceMul,decide_eq_false h3];exact out _ _ hq
 ·have q6:=decide_eq_false o6;have n6:decide (s.op≠6)=true:=decide_eq_true o6;by_cases hn:s.name=⟨#[]⟩
  ·have nn:decide (s.name≠⟨#[]⟩)=false:=decide_eq_false (fun h=>h hn);have kn:decide (s.name=⟨#[]⟩)=true:=decide_eq_true hn;rw[h1,n6,nn,q6]at hq;by_cases o7:s.op=7
   ·have w7:ch s.op=true:=by rw[o7];rfl
    have q7:=decide_eq_true o7
    have hlen:s.args.length=1:=by
     unfold eL at h1;rw[if_neg (by omega),if_neg (by omega),if_neg (by omega),if_neg (by omega),if_pos (.inr o7),Bool.and_eq_true]at h1;simpa using h1.1
    obtain⟨a,ha⟩:=List.length_eq_one_iff.1 hlen;have hba:bq a≤1000000:=by have:=di (s:=s) (a:=a) (by rw[ha];simp);omega
    have ha0:s.arg0=a:=by unfold Ts.arg0;rw[ha];rfl
    rw[w7,if_neg (by simp),if_neg (by simp)]at hq;simp -dsimp -implicitDefEqProofs only[aw,ac,V.copy,V.lend,V.lend1,V.cells,V.boxable,over,al,ah,ae,ai,V.plain,Nat.reduceLeDiff,cond_true,cond_false,implies_true,eq_self,ne_eq,reduceIte,reduceCtorEq,Nat.reduceBEq,Nat.reduceLT,Nat.reduceEqDiff,Nat.reduceAdd,Nat.reduceSub,Nat.reduceMul,q6,n6];refine aq (cP s.op _) ?_;simp -dsimp -implicitDefEqProofs only[aw,ac,V.copy,V.lend,V.lend1,V.cells,V.boxable,over,al,ah,ae,ai,V.plain,Nat.reduceLeDiff,cond_true,cond_false,implies_true,eq_self,ne_eq,reduceIte,reduceCtorEq,Nat.reduceBEq,Nat.reduceLT,Nat.reduceEqDiff,Nat.reduceAdd,Nat.reduceSub,Nat.reduceMul,w7,q6,kn];refine aq (cP s.op _) ?_
    simp -dsimp -implicitDefEqProofs only[aw,ac,V.copy,V.lend,V.lend1,V.cells,V.boxable,over,al,ah,ae,ai,V.plain,Nat.reduceLeDiff,cond_true,cond_false,implies_true,eq_self,ne_eq,reduceIte,reduceCtorEq,Nat.reduceBEq,Nat.reduceLT,Nat.reduceEqDiff,Nat.reduceAdd,Nat.reduceSub,Nat.reduceMul,w7];refine aq (by simpa only[aR]using hv _) ?_;by_cases h3:bd s.ex=0
    ·have hnm:(ck [2] s.ex).length≤1000000:=by have:=uW s.ex;omega
     have hidx:iaV 9 (.d (.sl (s.args.map dts))) (V.d (D.lit (Value.int IntKind.i64 0)))=some (.row (dts a) 0):=by rw[ha];simp[iaV,dV,nN]
     have htn:(tnm a).length≤1000000:=by have:=sk a;have:=u6 a;omega
     rw[if_neg (by simp[h3]),if_neg (by simp)]at hq;simp -dsimp -implicitDefEqProofs only[aw,ac,V.copy,V.lend,V.lend1,V.cells,V.boxable,over,al,ah,ae,ai,V.plain,Nat.reduceLeDiff,cond_true,cond_false,implies_true,eq_self,ne_eq,reduceIte,reduceCtorEq,Nat.reduceBEq,Nat.reduceLT,Nat.reduceEqDiff,Nat.reduceAdd,Nat.reduceSub,Nat.reduceMul,h3,Int.reduceEq,decide_true,decide_false,q6,q7,hidx,bP a];refine aq (by simpa only[ax]using EH a hba _) ?_;simp -dsimp -implicitDefEqProofs only[aw,ac,V.copy,V.lend,V.lend1,V.cells,V.boxable,over,al,ah,ae,ai,V.plain,Nat.reduceLeDiff,cond_true,cond_false,implies_true,eq_self,ne_eq,reduceIte,reduceCtorEq,Nat.reduceBEq,Nat.reduceLT,Nat.reduceEqDiff,Nat.reduceAdd,Nat.reduceSub,Nat.reduceMul];refine aq (by simpa only[aR]using y6 s.ex (by omega) _) ?_
     simp -dsimp -implicitDefEqProofs only[aw,ac,V.copy,V.lend,V.lend1,V.cells,V.boxable,over,al,ah,ae,ai,V.plain,Nat.reduceLeDiff,cond_true,cond_false,implies_true,eq_self,ne_eq,reduceIte,reduceCtorEq,Nat.reduceBEq,Nat.reduceLT,Nat.reduceEqDiff,Nat.reduceAdd,Nat.reduceSub,Nat.reduceMul,dy];refine aq (qa (ck [2] s.ex) (fun n=>inB n (tnm a)) 145 _ hnm _ (by simp[V.unders,V.under]) (fun n hn'=>yx (tnm a) htn n _ _ (by simp[dy]))) ?_;rw[ha0]at hq;cases h4:((ck [2] s.ex).any fun n=>inB n (tnm a))with
     | true=>
      simp -dsimp -implicitDefEqProofs only[aw,ac,V.copy,V.lend,V.lend1,V.cells,V.boxable,over,al,ah,ae,ai,V.plain,Nat.reduceLeDiff,cond_true,cond_false,implies_true,eq_self,ne_eq,reduceIte,reduceCtorEq,Nat.reduceBEq,Nat.reduceLT,Nat.reduceEqDiff,Nat.reduceAdd,Nat.reduceSub,Nat.reduceMul];exact out 13 _ (by rw[hq,if_pos ⟨o7,h4⟩])
     | false=>
      simp -dsimp -implicitDefEqProofs only[aw,ac,V.copy,V.lend,V.lend1,V.cells,V.boxable,over,al,ah,ae,ai,V.plain,Nat.reduceLeDiff,cond_true,cond_false,implies_true,eq_self,ne_eq,reduceIte,reduceCtorEq,Nat.reduceBEq,Nat.reduceLT,Nat.reduceEqDiff,Nat.reduceAdd,Nat.reduceSub,Nat.reduceMul];exact out 0 _ (by rw[hq,if_neg (by simp only[h4];simp)])
    ·rw[if_pos ⟨rfl,h3⟩]at hq;simp -dsimp -implicitDefEqProofs only[aw,ac,V.copy,V.lend,V.lend1,V.cells,V.boxable,over,al,ah,ae,ai,V.plain,Nat.reduceLeDiff,cond_true,cond_false,implies_true,eq_self,ne_eq,reduceIte,reduceCtorEq,Nat.reduceBEq,Nat.reduceLT,Nat.reduceEqDiff,Nat.reduceAdd,Nat.reduceSub,Nat.reduceMul,decide_eq_false h3];exact out _ _ hq
   ·have q7:=decide_eq_false o7;cases hw1:ch s.op with
    | true=>
     rw[hw1,if_neg (by simp),if_neg (by simp)]at hq;simp -dsimp -implicitDefEqProofs only[aw,ac,V.copy,V.lend,V.lend1,V.cells,V.boxable,over,al,ah,ae,ai,V.plain,Nat.reduceLeDiff,cond_true,cond_false,implies_true,eq_self,ne_eq,reduceIte,reduceCtorEq,Nat.reduceBEq,Nat.reduceLT,Nat.reduceEqDiff,Nat.reduceAdd,Nat.reduceSub,Nat.reduceMul,q6,n6];refine aq (cP s.op _) ?_;simp -dsimp -implicitDefEqProofs only[aw,ac,V.copy,V.lend,V.lend1,V.cells,V.boxable,over,al,ah,ae,ai,V.plain,Nat.reduceLeDiff,cond_true,cond_false,implies_true,eq_self,ne_eq,reduceIte,reduceCtorEq,Nat.reduceBEq,Nat.reduceLT,Nat.reduceEqDiff,Nat.reduceAdd,Nat.reduceSub,Nat.reduceMul,hw1,q6,kn];refine aq (cP s.op _) ?_
     simp -dsimp -implicitDefEqProofs only[aw,ac,V.copy,V.lend,V.lend1,V.cells,V.boxable,over,al,ah,ae,ai,V.plain,Nat.reduceLeDiff,cond_true,cond_false,implies_true,eq_self,ne_eq,reduceIte,reduceCtorEq,Nat.reduceBEq,Nat.reduceLT,Nat.reduceEqDiff,Nat.reduceAdd,Nat.reduceSub,Nat.reduceMul,hw1];refine aq (by simpa only[aR]using hv _) ?_;by_cases h3:bd s.ex=0
     ·rw[if_neg (by simp[h3]),if_neg (by simp),if_neg (by simp[o7])]at hq;simp -dsimp -implicitDefEqProofs only[aw,ac,V.copy,V.lend,V.lend1,V.cells,V.boxable,over,al,ah,ae,ai,V.plain,Nat.reduceLeDiff,cond_true,cond_false,implies_true,eq_self,ne_eq,reduceIte,reduceCtorEq,Nat.reduceBEq,Nat.reduceLT,Nat.reduceEqDiff,Nat.reduceAdd,Nat.reduceSub,Nat.reduceMul,h3,Int.reduceEq,decide_true,decide_false,q6,q7];exact out 0 _ hq
     ·rw[if_pos ⟨rfl,h3⟩]at hq;simp -dsimp -implicitDefEqProofs only[aw,ac,V.copy,V.lend,V.lend1,V.cells,V.boxable,over,al,ah,ae,ai,V.plain,Nat.reduceLeDiff,cond_true,cond_false,implies_true,eq_self,ne_eq,reduceIte,reduceCtorEq,Nat.reduceBEq,Nat.reduceLT,Nat.reduceEqDiff,Nat.reduceAdd,Nat.reduceSub,Nat.reduceMul,decide_eq_false h3];exact out _ _ hq
    | false=>
     simp -dsimp -implicitDefEqProofs only[aw,ac,V.copy,V.lend,V.lend1,V.cells,V.boxable,over,al,ah,ae,ai,V.plain,Nat.reduceLeDiff,cond_true,cond_false,implies_true,eq_self,ne_eq,reduceIte,reduceCtorEq,Nat.reduceBEq,Nat.reduceLT,Nat.reduceEqDiff,Nat.reduceAdd,Nat.reduceSub,Nat.reduceMul,q6,n6];refine aq (cP s.op _) ?_;simp -dsimp -implicitDefEqProofs only[aw,ac,V.copy,V.lend,V.lend1,V.cells,V.boxable,over,al,ah,ae,ai,V.plain,Nat.reduceLeDiff,cond_true,cond_false,implies_true,eq_self,ne_eq,reduceIte,reduceCtorEq,Nat.reduceBEq,Nat.reduceLT,Nat.reduceEqDiff,Nat.reduceAdd,Nat.reduceSub,Nat.reduceMul,hw1,q6,kn];refine aq (by simpa only[aR]using tY s.ex _) ?_;cases hz:fO s.ex with
     | false=>
      rw[hw1,hz,if_pos (by rfl)]at hq;simp -dsimp -implicitDefEqProofs only[aw,ac,V.copy,V.lend,V.lend1,V.cells,V.boxable,over,al,ah,ae,ai,V.plain,Nat.reduceLeDiff,cond_true,cond_false,implies_true,eq_self,ne_eq,reduceIte,reduceCtorEq,Nat.reduceBEq,Nat.reduceLT,Nat.reduceEqDiff,Nat.reduceAdd,Nat.reduceSub,Nat.reduceMul];exact out 1 _ hq
     | true=>
      rw[hw1,hz,if_neg (by simp),if_neg (by simp),if_neg (by simp),if_neg (by simp),if_neg (by simp[o7])]at hq;simp -dsimp -implicitDefEqProofs only[aw,ac,V.copy,V.lend,V.lend1,V.cells,V.boxable,over,al,ah,ae,ai,V.plain,Nat.reduceLeDiff,cond_true,cond_false,implies_true,eq_self,ne_eq,reduceIte,reduceCtorEq,Nat.reduceBEq,Nat.reduceLT,Nat.reduceEqDiff,Nat.reduceAdd,Nat.reduceSub,Nat.reduceMul,q6,kn];refine aq (cP s.op _) ?_;simp -dsimp -implicitDefEqProofs only[aw,ac,V.copy,V.lend,V.lend1,V.cells,V.boxable,over,al,ah,ae,ai,V.plain,Nat.reduceLeDiff,cond_true,cond_false,implies_true,eq_self,ne_eq,reduceIte,reduceCtorEq,Nat.reduceBEq,Nat.reduceLT,Nat.reduceEqDiff,Nat.reduceAdd,Nat.reduceSub,Nat.reduceMul,hw1,q6,q7];exact out 0 _ hq
  ·have kn:decide (s.name=⟨#[]⟩)=false:=decide_eq_false hn;have nn:decide (s.name≠⟨#[]⟩)=true:=decide_eq_true hn;rw[h1,n6,nn,if_pos (by simp)]at hq;simp -dsimp -implicitDefEqProofs only[aw,ac,V.copy,V.lend,V.lend1,V.cells,V.boxable,over,al,ah,ae,ai,V.plain,Nat.reduceLeDiff,cond_true,cond_false,implies_true,eq_self,ne_eq,reduceIte,reduceCtorEq,Nat.reduceBEq,Nat.reduceLT,Nat.reduceEqDiff,Nat.reduceAdd,Nat.reduceSub,Nat.reduceMul,q6,n6];refine aq (cP s.op _) ?_;cases hw1:ch s.op with
   | true=>
    simp -dsimp -implicitDefEqProofs only[aw,ac,V.copy,V.lend,V.lend1,V.cells,V.boxable,over,al,ah,ae,ai,V.plain,Nat.reduceLeDiff,cond_true,cond_false,implies_true,eq_self,ne_eq,reduceIte,reduceCtorEq,Nat.reduceBEq,Nat.reduceLT,Nat.reduceEqDiff,Nat.reduceAdd,Nat.reduceSub,Nat.reduceMul,q6,kn];exact out 1 _ hq
   | false=>
    simp -dsimp -implicitDefEqProofs only[aw,ac,V.copy,V.lend,V.lend1,V.cells,V.boxable,over,al,ah,ae,ai,V.plain,Nat.reduceLeDiff,cond_true,cond_false,implies_true,eq_self,ne_eq,reduceIte,reduceCtorEq,Nat.reduceBEq,Nat.reduceLT,Nat.reduceEqDiff,Nat.reduceAdd,Nat.reduceSub,Nat.reduceMul];refine aq (by simpa only[aR]using tY s.ex _) ?_;cases hz:fO s.ex with
    | false=>
     simp -dsimp -implicitDefEqProofs only[aw,ac,V.copy,V.lend,V.lend1,V.cells,V.boxable,over,al,ah,ae,ai,V.plain,Nat.reduceLeDiff,cond_true,cond_false,implies_true,eq_self,ne_eq,reduceIte,reduceCtorEq,Nat.reduceBEq,Nat.reduceLT,Nat.reduceEqDiff,Nat.reduceAdd,Nat.reduceSub,Nat.reduceMul];exact out 1 _ hq
    | true=>
     simp -dsimp -implicitDefEqProofs only[aw,ac,V.copy,V.lend,V.lend1,V.cells,V.boxable,over,al,ah,ae,ai,V.plain,Nat.reduceLeDiff,cond_true,cond_false,implies_true,eq_self,ne_eq,reduceIte,reduceCtorEq,Nat.reduceBEq,Nat.reduceLT,Nat.reduceEqDiff,Nat.reduceAdd,Nat.reduceSub,Nat.reduceMul,q6,kn];exact out 1 _ hq
end Go.Proofs.YthekkgfmagliiaaGreatDoor
