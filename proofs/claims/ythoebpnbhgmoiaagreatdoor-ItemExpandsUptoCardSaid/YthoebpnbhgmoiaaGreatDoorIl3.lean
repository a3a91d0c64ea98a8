import Derived.Test.YthoebpnbhgmoiaaGreatDoorIl2
set_option linter.unusedVariables false
set_option linter.unusedSimpArgs false
set_option linter.unusedSectionVars false
namespace Go.Proofs.YthoebpnbhgmoiaaGreatDoor
open Go.RowKit
def hld1(fs:List (ByteArray×Int))(k:Nat)(env:List Sig)(x:It):Bool:=
 (!decide (x.kind=1) || !decide (vE env x.ex=0))&&(!decide (x.kind=4)||(if vE env x.ex=0 then hlds fs vE k x.els env else hlds fs vE k x.items env)) &&
   (!decide (x.kind=5)||(List.range (fszN fs x.name)).all fun(j:Nat)=>hlds fs vE k x.items (⟨x.idx,(j:Int)⟩::env))
theorem hlds_all(fs:List (ByteArray×Int))(k:Nat)(l:List It)(env:List Sig):hlds fs vE (k+1) l env=l.all (hld1 fs k env):=rfl
theorem range_drop{n i:Nat}(h:i<n):(List.range n).drop i=i::(List.range n).drop (i+1):=by
 rw[List.drop_eq_getElem_cons (by simpa using h)];simp
set_option maxHeartbeats 4000000 in
theorem holds_fun(c:Cl)(hs:SmallF (fldS c))(hc:c.fields.length≤1000000):∀(k:Nat) (l:List It) (env:List Sig),iszs l≤k→ibigs l≤900000→env.length+iszs l≤1000000→∀(σ:List (List V)),
 Fun G 24 [.d (ditl l),vcl c,.d (dsigs env)] σ (RetV (vbool (hlds (fldS c) vE k l env)) σ):=by
 intro k
 induction k with
 | zero=>
  intro l env hk _ _ σ
  have hl:l=[]:=by
   cases l with
   | nil=>rfl
   | cons a r=>rw[iszs]at hk;have:=isz_pos a;omega
  subst hl;refine fun_code Tryz.func24 k24 rfl fun hb hw=>?_;delta c24 oM oV kI kS kT kF;simp -dsimp -implicitDefEqProofs only[aw,slots0,V.copy,V.cells,V.boxable,eq_self,reduceIte,reduceCtorEq,Nat.reduceBEq,Nat.reduceLT,Nat.reduceEqDiff,Nat.reduceAdd];refine awp_for (R:=fun(j:Nat) ρ σ'=>ρ=[(0,.d (ditl [])),(2,.d (dsigs env)),(4,.ptr σ.length 0),(7,vint .i64 0)]∧σ'=σ++[clsC c]) 0 ⟨rfl,rfl⟩ ?_ _;rintro j ρ' σ' hj ⟨rfl,rfl⟩;have h0:hlds (fldS c) vE 0 [] env=true:=rfl;rw[h0];have z0:decide ((0:Int)<((0:Nat):Int))=false:=rfl;simp -dsimp -implicitDefEqProofs only[aw,V.copy,eq_self,reduceIte,reduceCtorEq,Nat.reduceBEq,Nat.reduceLT,Nat.reduceEqDiff,z0];first|exact fin_ret hb rfl rfl List.take_length ⟨rfl,rfl⟩|exact fin_ret hb rfl rfl List.take_left ⟨rfl,rfl⟩
 | succ k ih=>
  intro l env hk hbg henv σ;have hln:=ibigs_len l;refine fun_code Tryz.func24 k24 rfl fun hb hw=>?_;delta c24 oM oV kI kS kT kF;rw[hlds_all]
  have hout:∀(b:Bool) ρ S,l.all (hld1 (fldS c) k env)=b→ρ=[(6,vbool b)]→(∃L,S=σ++L)→fin σ.length rs24 (RetV (vbool (l.all (hld1 (fldS c) k env))) σ) .ret ρ S:=fun b ρ S g1 g2 ⟨L,g3⟩=>by
   subst g2 g3;rw[g1];exact fin_ret hb rfl rfl List.take_left ⟨rfl,rfl⟩
  simp -dsimp -implicitDefEqProofs only[aw,slots0,V.copy,V.cells,V.boxable,eq_self,reduceIte,reduceCtorEq,Nat.reduceBEq,Nat.reduceLT,Nat.reduceEqDiff,Nat.reduceAdd];refine awp_for (R:=fun(j:Nat) ρ σ'=>ρ=[(0,.d (ditl l)),(2,.d (dsigs env)),(4,.ptr σ.length 0),(7,vint .i64 j)]∧σ'=σ++[clsC c]∧l.all (hld1 (fldS c) k env)=(l.drop j).all (hld1 (fldS c) k env)) l.length ⟨rfl,rfl,rfl⟩ ?_ _;rintro j ρ' σ' hj ⟨rfl,rfl,hr⟩;by_cases hlt:j<l.length
  case neg=>
   rw[List.drop_eq_nil_of_le (by omega),List.all_nil]at hr;simp -dsimp -implicitDefEqProofs only[aw,V.copy,eq_self,reduceIte,reduceCtorEq,Nat.reduceBEq,Nat.reduceLT,Nat.reduceEqDiff,Int.ofNat_lt,hlt,decide_false];exact hout _ _ _ hr rfl ⟨_,rfl⟩
  rw[List.drop_eq_getElem_cons hlt,List.all_cons]at hr;have hm:=ibigs_mem (List.getElem_mem hlt);have hmz:=iszs_mem (List.getElem_mem hlt);have hxx:l[j]? = some l[j]:=List.getElem?_eq_getElem hlt;have wj:=wrap_nat hlt (show l.length≤9223372036854775807 by omega);generalize l[j]=x at hr hm hmz hxx;have hbx:=ibig_eq x;have hzx:=isz_eq x;have hva:=fun σ=>rvalue_fun x.ex env (by omega) σ;simp only[vex_eq]at hva;have hI:=fun σ=>ih x.items env (by omega) (by omega) (by omega) σ;have hE:=fun σ=>ih x.els env (by omega) (by omega) (by omega) σ;have e1:∀a:List V,σ++[clsC c,a]=(σ++[clsC c])++[a]:=fun a=>by simp
  have hx1:hld1 (fldS c) k env x=((!decide (x.kind=1) || !decide (vE env x.ex=0))&&(!decide (x.kind=4)||(if vE env x.ex=0 then hlds (fldS c) vE k x.els env else hlds (fldS c) vE k x.items env)) &&
   (!decide (x.kind=5)||(List.range (fszN (fldS c) x.name)).all fun(j:Nat)=>hlds (fldS c) vE k x.items (⟨x.idx,(j:Int)⟩::env))):=rfl
  rw[hx1]at hr;clear hx1;simp -dsimp -implicitDefEqProofs only[aw,V.copy,V.lend,V.lend1,V.cells,V.boxable,over,Nat.reduceLeDiff,eq_self,reduceIte,reduceCtorEq,Nat.reduceBEq,Nat.reduceLT,Nat.reduceEqDiff,Nat.reduceAdd,Int.ofNat_lt,hlt,decide_true,hxx,dit_eq x];refine fun_ret (hva _) ?_;generalize vE env x.ex=v at hr ⊢;generalize hlds (fldS c) vE k x.items env=bI at hr hI;generalize hlds (fldS c) vE k x.els env=bE at hr hE;by_cases k1:x.kind=1
  ·have k4:¬x.kind=4:=by omega
   have k5:¬x.kind=5:=by omega
   rw[decide_eq_true k1,decide_eq_false k4,decide_eq_false k5]at hr;simp only[Bool.not_true,Bool.not_false,Bool.false_or,Bool.true_or,Bool.and_true]at hr;by_cases v0:v=0
   ·rw[decide_eq_true v0,Bool.not_true,Bool.false_and]at hr;simp -dsimp -implicitDefEqProofs only[aw,V.copy,Nat.reduceLeDiff,cond_true,eq_self,reduceIte,reduceCtorEq,Nat.reduceBEq,Nat.reduceLT,Nat.reduceEqDiff,Nat.reduceAdd,decide_eq_true k1,decide_eq_true v0];exact hout _ _ _ hr rfl ⟨_,rfl⟩
   have hgood:l.all (hld1 (fldS c) k env)=(l.drop (j+1)).all (hld1 (fldS c) k env):=by rw[hr,decide_eq_false v0];rfl
   simp -dsimp -implicitDefEqProofs only[aw,V.copy,Nat.reduceLeDiff,cond_true,cond_false,eq_self,reduceIte,reduceCtorEq,Nat.reduceBEq,Nat.reduceLT,Nat.reduceEqDiff,Nat.reduceAdd,decide_eq_true k1,decide_eq_false v0,decide_eq_false k4];refine awp_for (R:=fun(i:Nat) ρ σ'=>ρ=[(0,.d (ditl l)),(2,.d (dsigs env)),(4,.ptr σ.length 0),(7,vint .i64 j),(8,.ptr (σ.length+1) 0),(10,vint .i64 0)]∧σ'=σ++[clsC c,[.d (dint x.kind),.d (dint x.ex.op),.d (dint x.ex.num),.d (dstr x.ex.name),.d (.sl (x.ex.args.map dex)),.d (dstr x.name),.d (dstr x.idx),.d (.sl (x.ws.map dwt)),.d (.sl (x.items.map dit)),.d (.sl (x.els.map dit)),.d (.sl (x.bef.map fun s=>[dstr s])),.d (.sl (x.aft.map fun s=>[dstr s]))]]) 0 ⟨rfl,rfl⟩ ?_ _;rintro i ρ' σ' hi ⟨rfl,rfl⟩
   simp -dsimp -implicitDefEqProofs only[aw,V.copy,Nat.reduceLeDiff,eq_self,reduceIte,reduceCtorEq,Nat.reduceBEq,Nat.reduceLT,Nat.reduceEqDiff,Nat.reduceAdd,decide_eq_false k5,wj];rw[e1];exact⟨hlt,Nxt.drop (by simp) (boxesBelow_app hb rfl) (by simp[slotsBelow,V.under]) ⟨rfl,rfl,hgood⟩⟩
  by_cases k4:x.kind=4
  ·have k5:¬x.kind=5:=by omega
   rw[decide_eq_false k1,decide_eq_true k4,decide_eq_false k5]at hr;simp only[Bool.not_true,Bool.not_false,Bool.false_or,Bool.true_or,Bool.and_true,Bool.true_and]at hr;by_cases v0:v=0
   ·rw[if_pos v0]at hr;simp -dsimp -implicitDefEqProofs only[aw,V.copy,V.lend,V.lend1,Nat.reduceLeDiff,cond_true,cond_false,eq_self,reduceIte,reduceCtorEq,Nat.reduceBEq,Nat.reduceLT,Nat.reduceEqDiff,Nat.reduceAdd,decide_eq_false k1,decide_eq_true k4,decide_eq_true v0];refine fun_ret (hE _) ?_;cases bE with
    | false=>
     rw[Bool.false_and]at hr;simp -dsimp -implicitDefEqProofs only[aw,V.copy,cond_true,cond_false,eq_self,reduceIte,reduceCtorEq,Nat.reduceBEq,Nat.reduceLT,Nat.reduceEqDiff];exact hout _ _ _ hr rfl ⟨_,rfl⟩
    | true=>
    have hgood:l.all (hld1 (fldS c) k env)=(l.drop (j+1)).all (hld1 (fldS c) k env):=by rw[hr,Bool.true_and]
    simp -dsimp -implicitDefEqProofs only[aw,V.copy,cond_true,cond_false,eq_self,reduceIte,reduceCtorEq,Nat.reduceBEq,Nat.reduceLT,Nat.reduceEqDiff];refine awp_for (R:=fun(i:Nat) ρ σ'=>ρ=[(0,.d (ditl l)),(2,.d (dsigs env)),(4,.ptr σ.length 0),(7,vint .i64 j),(8,.ptr (σ.length+1) 0),(10,vint .i64 0)]∧σ'=σ++[clsC c,[.d (dint x.kind),.d (dint x.ex.op),.d (dint x.ex.num),.d (dstr x.ex.name),.d (.sl (x.ex.args.map dex)),.d (dstr x.name),.d (dstr x.idx),.d (.sl (x.ws.map dwt)),.d (.sl (x.items.map dit)),.d (.sl (x.els.map dit)),.d (.sl (x.bef.map fun s=>[dstr s])),.d (.sl (x.aft.map fun s=>[dstr s]))]]) 0 ⟨rfl,rfl⟩ ?_ _;rintro i ρ' σ' hi ⟨rfl,rfl⟩;simp -dsimp -implicitDefEqProofs only[aw,V.copy,Nat.reduceLeDiff,eq_self,reduceIte,reduceCtorEq,Nat.reduceBEq,Nat.reduceLT,Nat.reduceEqDiff,Nat.reduceAdd,decide_eq_false k5,wj];rw[e1]
    exact⟨hlt,Nxt.drop (by simp) (boxesBelow_app hb rfl) (by simp[slotsBelow,V.under]) ⟨rfl,rfl,hgood⟩⟩
   ·rw[if_neg v0]at hr;simp -dsimp -implicitDefEqProofs only[aw,V.copy,V.lend,V.lend1,Nat.reduceLeDiff,cond_true,eq_self,reduceIte,reduceCtorEq,Nat.reduceBEq,Nat.reduceLT,Nat.reduceEqDiff,Nat.reduceAdd,decide_eq_false k1,decide_eq_true k4,decide_eq_false v0];refine fun_ret (hI _) ?_;cases bI with
    | false=>
     rw[Bool.false_and]at hr;simp -dsimp -implicitDefEqProofs only[aw,V.copy,cond_true,cond_false,eq_self,reduceIte,reduceCtorEq,Nat.reduceBEq,Nat.reduceLT,Nat.reduceEqDiff];exact hout _ _ _ hr rfl ⟨_,rfl⟩
    | true=>
    have hgood:l.all (hld1 (fldS c) k env)=(l.drop (j+1)).all (hld1 (fldS c) k env):=by rw[hr,Bool.true_and]
    simp -dsimp -implicitDefEqProofs only[aw,V.copy,Nat.reduceLeDiff,cond_true,cond_false,eq_self,reduceIte,reduceCtorEq,Nat.reduceBEq,Nat.reduceLT,Nat.reduceEqDiff,Nat.reduceAdd,decide_eq_true k4,decide_eq_false v0];refine awp_for (R:=fun(i:Nat) ρ σ'=>ρ=[(0,.d (ditl l)),(2,.d (dsigs env)),(4,.ptr σ.length 0),(7,vint .i64 j),(8,.ptr (σ.length+1) 0),(10,vint .i64 0)]∧σ'=σ++[clsC c,[.d (dint x.kind),.d (dint x.ex.op),.d (dint x.ex.num),.d (dstr x.ex.name),.d (.sl (x.ex.args.map dex)),.d (dstr x.name),.d (dstr x.idx),.d (.sl (x.ws.map dwt)),.d (.sl (x.items.map dit)),.d (.sl (x.els.map dit)),.d (.sl (x.bef.map fun s=>[dstr s])),.d (.sl (x.aft.map fun s=>[dstr s]))]]) 0 ⟨rfl,rfl⟩ ?_ _;rintro i ρ' σ' hi ⟨rfl,rfl⟩;simp -dsimp -implicitDefEqProofs only[aw,V.copy,Nat.reduceLeDiff,eq_self,reduceIte,reduceCtorEq,Nat.reduceBEq,Nat.reduceLT,Nat.reduceEqDiff,Nat.reduceAdd,decide_eq_false k5,wj];rw[e1]
    exact⟨hlt,Nxt.drop (by simp) (boxesBelow_app hb rfl) (by simp[slotsBelow,V.under]) ⟨rfl,rfl,hgood⟩⟩
  by_cases k5:x.kind=5
  case neg=>
   rw[decide_eq_false k1,decide_eq_false k4,decide_eq_false k5]at hr;simp only[Bool.not_false,Bool.true_or,Bool.and_true,Bool.true_and]at hr;have hgood:l.all (hld1 (fldS c) k env)=(l.drop (j+1)).all (hld1 (fldS c) k env):=hr;simp -dsimp -implicitDefEqProofs only[aw,V.copy,Nat.reduceLeDiff,cond_false,eq_self,reduceIte,reduceCtorEq,Nat.reduceBEq,Nat.reduceLT,Nat.reduceEqDiff,Nat.reduceAdd,decide_eq_false k1,decide_eq_false k4];refine awp_for (R:=fun(i:Nat) ρ σ'=>ρ=[(0,.d (ditl l)),(2,.d (dsigs env)),(4,.ptr σ.length 0),(7,vint .i64 j),(8,.ptr (σ.length+1) 0),(10,vint .i64 0)]∧σ'=σ++[clsC c,[.d (dint x.kind),.d (dint x.ex.op),.d (dint x.ex.num),.d (dstr x.ex.name),.d (.sl (x.ex.args.map dex)),.d (dstr x.name),.d (dstr x.idx),.d (.sl (x.ws.map dwt)),.d (.sl (x.items.map dit)),.d (.sl (x.els.map dit)),.d (.sl (x.bef.map fun s=>[dstr s])),.d (.sl (x.aft.map fun s=>[dstr s]))]]) 0 ⟨rfl,rfl⟩ ?_ _
   rintro i ρ' σ' hi ⟨rfl,rfl⟩;simp -dsimp -implicitDefEqProofs only[aw,V.copy,Nat.reduceLeDiff,eq_self,reduceIte,reduceCtorEq,Nat.reduceBEq,Nat.reduceLT,Nat.reduceEqDiff,Nat.reduceAdd,decide_eq_false k5,wj];rw[e1];exact⟨hlt,Nxt.drop (by simp) (boxesBelow_app hb rfl) (by simp[slotsBelow,V.under]) ⟨rfl,rfl,hgood⟩⟩
  rw[decide_eq_false k1,decide_eq_false k4,decide_eq_true k5]at hr;simp only[Bool.not_true,Bool.not_false,Bool.false_or,Bool.true_or,Bool.and_true,Bool.true_and]at hr;have hle:=hs.le x.name;have hn:∃n:Nat,n≤8∧fszI (fldS c) x.name=(n:Int)∧fszN (fldS c) x.name=n:=⟨fszN (fldS c) x.name,hs.leN _,by unfold fszN;unfold fszI at hle ⊢;omega,rfl⟩
  obtain⟨n,hn8,hn1,hn2⟩:=hn;rw[hn2]at hr;simp -dsimp -implicitDefEqProofs only[aw,V.copy,Nat.reduceLeDiff,cond_false,eq_self,reduceIte,reduceCtorEq,Nat.reduceBEq,Nat.reduceLT,Nat.reduceEqDiff,Nat.reduceAdd,decide_eq_false k1,decide_eq_false k4]
  refine awp_for (R:=fun(i:Nat) ρ σ'=>ρ=[(0,.d (ditl l)),(2,.d (dsigs env)),(4,.ptr σ.length 0),(7,vint .i64 j),(8,.ptr (σ.length+1) 0),(10,vint .i64 i)]∧σ'=σ++[clsC c,[.d (dint x.kind),.d (dint x.ex.op),.d (dint x.ex.num),.d (dstr x.ex.name),.d (.sl (x.ex.args.map dex)),.d (dstr x.name),.d (dstr x.idx),.d (.sl (x.ws.map dwt)),.d (.sl (x.items.map dit)),.d (.sl (x.els.map dit)),.d (.sl (x.bef.map fun s=>[dstr s])),.d (.sl (x.aft.map fun s=>[dstr s]))]]∧
   ((List.range n).all fun(j:Nat)=>hlds (fldS c) vE k x.items (⟨x.idx,(j:Int)⟩::env))=(((List.range n).drop i).all fun(j:Nat)=>hlds (fldS c) vE k x.items (⟨x.idx,(j:Int)⟩::env))) n ⟨rfl,rfl,rfl⟩ ?_ _
  rintro i ρ' σ' hi ⟨rfl,rfl,hq⟩;have hsz:=fun σ=>size_fun c x.name hc σ;rw[hn1]at hsz;simp -dsimp -implicitDefEqProofs only[aw,V.copy,V.lend,V.lend1,Nat.reduceLeDiff,eq_self,reduceIte,reduceCtorEq,Nat.reduceLT,Nat.reduceEqDiff,Nat.reduceAdd,decide_eq_true k5];refine fun_ret (hsz _) ?_;by_cases hit:i<n
  ·rw[range_drop hit,List.all_cons]at hq;have hW:=fun σ=>ih x.items (⟨x.idx,(i:Int)⟩::env) (by omega) (by omega) (by rw[List.length_cons];omega) σ;have wi:=wrap_nat hit (show n≤9223372036854775807 by omega);have hrow:(env.map fun s:Sig=>[dstr s.name,dint s.val]).all (fun r=>r.length==2)=true:=by rw[List.all_map];exact List.all_eq_true.2 fun a _=>rfl
   simp only[dsigs,List.map_cons]at hW;generalize hlds (fldS c) vE k x.items (⟨x.idx,(i:Int)⟩::env)=b at hq hW;simp -dsimp -implicitDefEqProofs only[aw,V.copy,V.cells,over,bldV,rowsOf,plains,V.plain,Nat.reduceLeDiff,cond_true,eq_self,reduceIte,reduceCtorEq,Nat.reduceBEq,Nat.reduceLT,Nat.reduceEqDiff,Nat.reduceAdd,Int.ofNat_lt,hit,decide_true,dsigs,hrow];refine onT_intro (by first|omega|(simp only[List.length_map,List.length_cons,List.length_nil]at *;omega)) ?_;simp -dsimp -implicitDefEqProofs only[aw,V.copy,V.lend,V.lend1,Nat.reduceLeDiff,eq_self,reduceIte,reduceCtorEq,Nat.reduceBEq,Nat.reduceLT,Nat.reduceEqDiff,Nat.reduceAdd];refine fun_ret (hW _) ?_;cases b with
   | false=>
    rw[Bool.false_and]at hq;rw[hq,Bool.false_and]at hr;simp -dsimp -implicitDefEqProofs only[aw,V.copy,eq_self,reduceIte,reduceCtorEq,Nat.reduceBEq,Nat.reduceLT,Nat.reduceEqDiff];exact hout _ _ _ hr rfl ⟨_,rfl⟩
   | true=>
    rw[Bool.true_and]at hq;simp -dsimp -implicitDefEqProofs only[aw,V.copy,eq_self,reduceIte,reduceCtorEq,Nat.reduceBEq,Nat.reduceLT,Nat.reduceEqDiff,wi];exact⟨hit,Nxt.same (by simp) (boxesBelow_app hb rfl) (by simp[slotsBelow,V.under]) ⟨rfl,rfl,hq⟩⟩
  ·rw[List.drop_eq_nil_of_le (by simp;omega),List.all_nil]at hq;rw[hq,Bool.true_and]at hr;simp -dsimp -implicitDefEqProofs only[aw,V.copy,cond_true,eq_self,reduceIte,reduceCtorEq,Nat.reduceBEq,Nat.reduceLT,Nat.reduceEqDiff,Int.ofNat_lt,hit,decide_false,wj];rw[e1];exact⟨hlt,Nxt.drop (by simp) (boxesBelow_app hb rfl) (by simp[slotsBelow,V.under]) ⟨rfl,rfl,hr⟩⟩
end Go.Proofs.YthoebpnbhgmoiaaGreatDoor
