import Derived.Test.YthoebpnbhgmoiaaGreatDoorSame8
import Derived.Test.YthoebpnbhgmoiaaGreatDoorRaw2
import Derived.Test.YthoebpnbhgmoiaaGreatDoorSha
import Derived.Test.YthoebpnbhgmoiaaGreatDoorRSubst
import Derived.Test.YthoebpnbhgmoiaaGreatDoorIt1
import Derived.Test.YthoebpnbhgmoiaaGreatDoorItv
import Derived.Test.YthoebpnbhgmoiaaGreatDoorK3
import Derived.Test.YthoebpnbhgmoiaaGreatDoorBrief
set_option linter.unusedVariables false
set_option linter.unusedSimpArgs false
set_option linter.unusedSectionVars false
namespace Go.Proofs.YthoebpnbhgmoiaaGreatDoor
open Go.RowKit
theorem sameL_refl:∀(l:List Ex),(∀a,a∈l→sameE a a=true)→sameL l l=true
 | [],_=>rfl
 | a::r,h=>by simp only[sameL,h a (by simp),sameL_refl r (fun b hb=>h b (by simp[hb])),Bool.and_self]
theorem sameE_refl(a:Ex):sameE a a=true:=by
 induction a using Ex.ind2 with
 | h a ih=>rw[sameE_eq,sameL_refl _ ih];simp
theorem rweights_fun(l:List Wt)(hl:l.length≤1000000)(σ:List (List V)):Fun G 45 [.d (.sl (l.map dwt)),.d (.sl (l.map dwt))] σ (RetV (vbool true) σ):=by
 refine fun_code Tryz.func45 k45 rfl fun hb hw=>?_;delta c45 oM oV kI kS kT kF;simp -dsimp -implicitDefEqProofs only[aw,slots0,V.copy,eq_self,reduceIte,reduceCtorEq,Nat.reduceBEq,Nat.reduceLT,Nat.reduceEqDiff,decide_true];refine awp_for (R:=fun(j:Nat) ρ σ'=>ρ=[(0,.d (.sl (l.map dwt))),(1,.d (.sl (l.map dwt))),(5,vint .i64 j)]∧σ'=σ) l.length ⟨rfl,rfl⟩ ?_ _;rintro j ρ' σ' hj ⟨rfl,rfl⟩;by_cases hlt:j<l.length
 ·have hxx:l[j]? = some l[j]:=List.getElem?_eq_getElem hlt;have wj:=wrap_nat hlt (show l.length≤9223372036854775807 by omega);generalize l[j]=w at hxx;have hd:dwt w=[dint w.lo,dint w.hi,dint w.w,dbl w.each]:=rfl
  have hq:eqaV true [.i .i64,.i .i64,.i .i64,.b] (V.agg [.d (dint w.lo),.d (dint w.hi),.d (dint w.w),.d (dbl w.each)]) (V.agg [.d (dint w.lo),.d (dint w.hi),.d (dint w.w),.d (dbl w.each)])=some (vbool false):=by
   simp[eqaV,eqLits,eqLit]
  simp -dsimp -implicitDefEqProofs only[aw,V.copy,Nat.reduceLeDiff,eq_self,reduceIte,reduceCtorEq,Nat.reduceBEq,Nat.reduceLT,Nat.reduceEqDiff,Nat.reduceAdd,Int.ofNat_lt,hlt,decide_true,hxx,hd];refine onT_intro (by kernel_rfl) ?_;simp -dsimp -implicitDefEqProofs only[aw,V.copy,eq_self,reduceIte,reduceCtorEq,Nat.reduceBEq,Nat.reduceLT,Nat.reduceEqDiff,hq,wj];exact⟨hlt,Nxt.same (by simp) hb (by simp[slotsBelow,V.under]) ⟨rfl,rfl⟩⟩
 ·simp -dsimp -implicitDefEqProofs only[aw,V.copy,eq_self,reduceIte,reduceCtorEq,Nat.reduceBEq,Nat.reduceLT,Nat.reduceEqDiff,Int.ofNat_lt,hlt,decide_false];first|exact fin_ret hb rfl rfl List.take_length ⟨rfl,rfl⟩|exact fin_ret hb rfl rfl List.take_left ⟨rfl,rfl⟩
theorem texts_same(l:List ByteArray)(hl:l.length≤1000000)(σ:List (List V)):Fun G 46 [.d (dstrs l),.d (dstrs l)] σ (RetV (vbool true) σ):=by
 refine fun_code Tryz.func46 k46 rfl fun hb hw=>?_;delta c46 oM oV kI kS kT kF;simp -dsimp -implicitDefEqProofs only[aw,slots0,V.copy,eq_self,reduceIte,reduceCtorEq,Nat.reduceBEq,Nat.reduceLT,Nat.reduceEqDiff,dstrs,decide_true];refine awp_for (R:=fun(j:Nat) ρ σ'=>ρ=[(0,.d (.sl (l.map fun s=>[dstr s]))),(1,.d (.sl (l.map fun s=>[dstr s]))),(5,vint .i64 j)]∧σ'=σ) l.length ⟨rfl,rfl⟩ ?_ _;rintro j ρ' σ' hj ⟨rfl,rfl⟩;by_cases hlt:j<l.length
 ·have hxx:l[j]? = some l[j]:=List.getElem?_eq_getElem hlt;generalize l[j]=a at hxx;have wj:=wrap_nat hlt (show l.length≤9223372036854775807 by omega);simp -dsimp -implicitDefEqProofs only[aw,V.copy,Nat.reduceLeDiff,eq_self,reduceIte,reduceCtorEq,Nat.reduceBEq,Nat.reduceLT,Nat.reduceEqDiff,Int.ofNat_lt,hlt,decide_true,hxx,wj];exact Nxt.same (Nat.le_refl _) hb (by simp[slotsBelow,V.under]) ⟨rfl,rfl⟩
 ·simp -dsimp -implicitDefEqProofs only[aw,V.copy,eq_self,reduceIte,reduceCtorEq,Nat.reduceBEq,Nat.reduceLT,Nat.reduceEqDiff,Int.ofNat_lt,hlt,decide_false];first|exact fin_ret hb rfl rfl List.take_length ⟨rfl,rfl⟩|exact fin_ret hb rfl rfl List.take_left ⟨rfl,rfl⟩
set_option maxHeartbeats 2000000 in
theorem rsame_item:∀l:List It,(l.length≤1000000∧∀x,x∈l→ibig x≤1000000)→∀σ,Fun G 16 [.d (ditl l),.d (ditl l)] σ (RetV (vbool true) σ):=by
 refine its_ind2 fun l ih hs σ=>?_;have hln:=hs.1;refine fun_code Tryz.func16 k16b rfl fun hb hw=>?_;unfold c16b;simp -dsimp -implicitDefEqProofs only[aw,slots0,V.copy,eq_self,reduceIte,reduceCtorEq,Nat.reduceBEq,Nat.reduceLT,Nat.reduceEqDiff,decide_true];refine awp_for (R:=fun(j:Nat) ρ σ'=>ρ=[(0,.d (ditl l)),(1,.d (ditl l)),(5,vint .i64 j)]∧σ'=σ) l.length ⟨rfl,rfl⟩ ?_ _;rintro j ρ' σ' hj ⟨rfl,rfl⟩;by_cases hlt:j<l.length
 ·obtain⟨i1,i2⟩:=ih _ (List.getElem_mem hlt);have hm:=hs.2 _ (List.getElem_mem hlt);have hxx:l[j]? = some l[j]:=List.getElem?_eq_getElem hlt;have wj:=wrap_nat hlt (show l.length≤9223372036854775807 by omega);generalize l[j]=x at hxx i1 i2 hm;have hbx:=ibig_eq x;have hse:=fun σ=>rsame_fun x.ex x.ex σ;rw[sameE_refl]at hse;simp only[vex_eq]at hse;have hw1:=fun σ=>rweights_fun x.ws (by omega) σ;have ht1:=fun σ=>texts_same x.bef (by omega) σ;have ht2:=fun σ=>texts_same x.aft (by omega) σ;simp only[dstrs]at ht1 ht2;have n1:=ibigs_len x.items;have n2:=ibigs_len x.els;have h1:=fun σ=>i1 ⟨by omega,fun y hy=>by have:=ibigs_mem hy;omega⟩ σ;have h2:=fun σ=>i2 ⟨by omega,fun y hy=>by have:=ibigs_mem hy;omega⟩ σ;simp -dsimp -implicitDefEqProofs only[aw,V.copy,eq_self,reduceIte,reduceCtorEq,Nat.reduceBEq,Nat.reduceLT,Nat.reduceEqDiff,Int.ofNat_lt,hlt,decide_true]
  have hia:iaV 12 (.d (ditl l)) (vint .i64 j)=some (.row (dit x) 0):=by simp only[vint,v_ia_nat,rowsV,Option.bind_some,List.getElem?_map,hxx,Option.map_some];rw[dit_eq];rfl
  have hld:∀σ,loadV σ 12 true (.row (dit x) 0)=some (.agg [.d (dint x.kind),.d (dint x.ex.op),.d (dint x.ex.num),.d (dstr x.ex.name),.d (.sl (x.ex.args.map dex)),.d (dstr x.name),.d (dstr x.idx),.d (.sl (x.ws.map dwt)),.d (.sl (x.items.map dit)),.d (.sl (x.els.map dit)),.d (.sl (x.bef.map fun s=>[dstr s])),.d (.sl (x.aft.map fun s=>[dstr s]))]):=fun σ=>by rw[dit_eq];rfl
  refine w_raw (two_region rfl rfl rfl rfl hia hld ?_);rintro p q hpq;rcases hpq with⟨rfl,rfl⟩|⟨rfl,rfl⟩
  all_goals
   simp -dsimp -implicitDefEqProofs only[aw,V.copy,V.lend,V.lend1,Nat.reduceLeDiff,cond_false,eq_self,reduceIte,reduceCtorEq,Nat.reduceBEq,Nat.reduceLT,Nat.reduceEqDiff,Nat.reduceAdd,decide_true];refine fun_ret (hse _) ?_;simp -dsimp -implicitDefEqProofs only[aw,V.copy,V.lend,Nat.reduceLeDiff,cond_false,eq_self,reduceIte,reduceCtorEq,Nat.reduceLT,Nat.reduceEqDiff,Nat.reduceAdd];refine fun_ret (hw1 _) ?_;simp -dsimp -implicitDefEqProofs only[aw,V.copy,V.lend,Nat.reduceLeDiff,cond_false,eq_self,reduceIte,reduceCtorEq,Nat.reduceLT,Nat.reduceEqDiff,Nat.reduceAdd];refine fun_ret (ht1 _) ?_;simp -dsimp -implicitDefEqProofs only[aw,V.copy,V.lend,Nat.reduceLeDiff,cond_false,eq_self,reduceIte,reduceCtorEq,Nat.reduceLT,Nat.reduceEqDiff,Nat.reduceAdd];refine fun_ret (ht2 _) ?_
   simp -dsimp -implicitDefEqProofs only[aw,V.copy,V.lend,Nat.reduceLeDiff,cond_false,eq_self,reduceIte,reduceCtorEq,Nat.reduceBEq,Nat.reduceLT,Nat.reduceEqDiff,Nat.reduceAdd];refine fun_ret (h1 _) ?_;simp -dsimp -implicitDefEqProofs only[aw,V.copy,V.lend,Nat.reduceLeDiff,eq_self,reduceIte,reduceCtorEq,Nat.reduceLT,Nat.reduceEqDiff,Nat.reduceAdd];refine fun_ret (h2 _) ?_;simp -dsimp -implicitDefEqProofs only[aw,V.copy,cond_false,eq_self,reduceIte,reduceCtorEq,Nat.reduceBEq,Nat.reduceLT,Nat.reduceEqDiff,wj];exact⟨hlt,Nxt.drop (by simp) hb (by simp[slotsBelow,V.under]) ⟨rfl,rfl⟩⟩
 ·simp -dsimp -implicitDefEqProofs only[aw,V.copy,eq_self,reduceIte,reduceCtorEq,Nat.reduceBEq,Nat.reduceLT,Nat.reduceEqDiff,Int.ofNat_lt,hlt,decide_false];first|exact fin_ret hb rfl rfl List.take_length ⟨rfl,rfl⟩|exact fin_ret hb rfl rfl List.take_left ⟨rfl,rfl⟩
theorem gat_len:∀e:Ex,(nodesE e).length=esize e:=by
 intro e
 induction e using Ex.ind with
 | h o n s l ih=>
 rw[nodesE,esize,List.length_cons]
 have:∀r:List Ex,(∀a,a∈r→a∈l)→(nodesL r).length=esizes r:=by
  intro r
  induction r with
  | nil=>intro _;rfl
  | cons a r ihr=>
   intro h;rw[nodesL,esizes,List.length_append,ih a (h a (List.mem_cons_self ..)),ihr fun x hx=>h x (List.mem_cons_of_mem _ hx)]
 rw[this l fun _ h=>h]
theorem gat_take(l:List Ex){j:Nat}(h:j<l.length):nodesL (l.take (j+1))=nodesL (l.take j)++nodesE l[j]:=by
 induction l generalizing j with
 | nil=>simp at h
 | cons a r ih=>
  cases j with
  | zero=>simp only[List.take_succ_cons,List.take_zero,nodesL,List.getElem_cons_zero,List.append_nil,List.nil_append]
  | succ j=>simp only[List.take_succ_cons,nodesL,List.getElem_cons_succ,List.append_assoc];rw[ih (by simpa using h)]
theorem gat_take_le(l:List Ex)(j:Nat):(nodesL (l.take j)).length≤esizes l:=by
 induction l generalizing j with
 | nil=>simp[nodesL,esizes]
 | cons a r ih=>
  cases j with
  | zero=>simp[nodesL,esizes]
  | succ j=>rw[List.take_succ_cons,nodesL,List.length_append,esizes,gat_len];have:=ih j;omega
set_option maxHeartbeats 2000000 in
theorem gather_fun(e:Ex):∀(out:List Ex),out.length+esize e≤2000000→∀σ,FunO G 124 [] 38 4 (out.map dex) [vex e] σ (RetV (.own 38 4 ((out++nodesE e).map dex)) σ):=by
 induction e using Ex.ind3 with
 | h e ih=>
 intro out hs σ;have he:esize e=esizes e.args+1:=by cases e;rfl
 have hln:=len_le e.args;have hne:nodesE e=e::nodesL e.args:=by cases e;rw[nodesE];rfl
 refine funo_code Tryz.func124 k124 (by simp only[vex_eq];rfl) fun hb hw=>?_;delta c124 oM oV kI kS kT kF;simp -dsimp -implicitDefEqProofs only[aw,slots0,V.copy,V.cells,V.boxable,rowsOf,plains,V.plain,Nat.reduceLeDiff,eq_self,reduceIte,reduceCtorEq,Nat.reduceBEq,Nat.reduceLT,Nat.reduceEqDiff,Nat.reduceAdd,vex_eq];refine onT_intro (by first|omega|(simp only[List.length_map];omega)) ?_;simp -dsimp -implicitDefEqProofs only[aw,V.copy,eq_self,reduceIte,reduceCtorEq,Nat.reduceBEq,Nat.reduceLT,Nat.reduceEqDiff];refine awp_for (R:=fun(j:Nat) ρ σ'=>ρ=[(0,.own 38 4 ((out++e::nodesL (e.args.take j)).map dex)),(3,.ptr σ.length 0),(5,vint .i64 j)]∧σ'=σ++[[.d (dint e.op),.d (dint e.num),.d (dstr e.name),.d (.sl (e.args.map dex))]]) e.args.length ⟨by simp only[List.take_zero,nodesL,List.map_append,List.map_cons,List.map_nil,dex_eq e];rfl,rfl⟩ ?_ _;rintro j ρ' σ' hj ⟨rfl,rfl⟩
 by_cases hlt:j<e.args.length
 ·have ht:=gat_take e.args hlt;have hle:=gat_take_le e.args (j+1);rw[ht,List.length_append,gat_len]at hle;have hxx:e.args[j]? = some e.args[j]:=List.getElem?_eq_getElem hlt;have hc:=fun σ=>ih e.args[j] (List.getElem_mem hlt) (out++e::nodesL (e.args.take j)) (by simp only[List.length_append,List.length_cons];omega) σ;simp only[vex_eq]at hc;have wj:=wrap_nat hlt (show e.args.length≤9223372036854775807 by omega);generalize e.args[j]=a at ht hxx hc;simp -dsimp -implicitDefEqProofs only[aw,V.copy,V.lend,V.lend1,Nat.reduceLeDiff,eq_self,reduceIte,reduceCtorEq,Nat.reduceBEq,Nat.reduceLT,Nat.reduceEqDiff,Nat.reduceAdd,Int.ofNat_lt,hlt,decide_true,hxx,dex_eq a];refine funo_ret (hc _) ?_;simp -dsimp -implicitDefEqProofs only[aw,V.copy,eq_self,reduceIte,reduceCtorEq,Nat.reduceBEq,Nat.reduceLT,Nat.reduceEqDiff,wj]
  refine⟨hlt,Nxt.same (by simp) (boxesBelow_app hb rfl) (by simp[slotsBelow,V.under]) ⟨?_,rfl⟩⟩;rw[ht];try simp only[List.append_assoc,List.cons_append]
 ·simp -dsimp -implicitDefEqProofs only[aw,V.copy,Nat.reduceLeDiff,eq_self,reduceIte,reduceCtorEq,Nat.reduceBEq,Nat.reduceLT,Nat.reduceEqDiff,Nat.reduceAdd,Int.ofNat_lt,hlt,decide_false];rw[List.take_of_length_le (by omega),←hne];exact fin_ret hb rfl rfl List.take_left ⟨rfl,rfl⟩
theorem rnodes_fun(e:Ex)(hs:esize e≤1000000)(σ:List (List V)):Fun G 88 [vex e] σ (RetV (.d (.sl ((nodesE e).map dex))) σ):=by
 refine fun_code Tryz.func88 k88 (by simp only[vex_eq];rfl) fun hb hw=>?_;delta c88 oM oV kI kS kT kF;have hg:=fun σ=>fun_of_funo_nil (gather_fun e [] (by simp;omega) σ);simp only[vex_eq,List.nil_append]at hg;simp -dsimp -implicitDefEqProofs only[aw,slots0,V.copy,V.cells,V.boxable,Nat.reduceLeDiff,eq_self,reduceIte,reduceCtorEq,Nat.reduceBEq,Nat.reduceLT,Nat.reduceEqDiff,Nat.reduceAdd,vex_eq];refine fun_ret (hg _) ?_;simp -dsimp -implicitDefEqProofs only[aw,V.copy,eq_self,reduceIte,Nat.reduceBEq,Nat.reduceLT,Nat.reduceEqDiff];exact fin_ret hb rfl rfl List.take_left ⟨rfl,rfl⟩
theorem inner_fun(x:It)(bd:List ByteArray)(hl:bd.length≤1000000)(σ:List (List V)):Fun G 72 [vit x,.d (dstrs bd)] σ (RetV (.d (dstrs (bnd x bd))) σ):=by
 refine fun_code Tryz.func72 k72 (by simp only[vit_eq];rfl) fun hb hw=>?_;delta c72 oM oV kI kS kT kF;have hrow:(bd.map fun s=>[dstr s]).all (fun r=>r.length==1)=true:=by rw[List.all_map];exact List.all_eq_true.2 fun a _=>rfl
 simp -dsimp -implicitDefEqProofs only[aw,slots0,V.copy,V.cells,V.boxable,rowsOf,eq_self,reduceIte,reduceCtorEq,Nat.reduceBEq,Nat.reduceLT,Nat.reduceEqDiff,vit_eq,dstrs,hrow];refine onT_intro (by first|omega|(simp only[List.length_map];omega)) ?_;by_cases k5:x.kind=5
 ·have hr:bnd x bd=bd++[x.idx]:=if_pos k5;rw[hr];simp -dsimp -implicitDefEqProofs only[aw,V.copy,V.cells,rowsOf,plains,V.plain,Nat.reduceLeDiff,eq_self,reduceIte,Nat.reduceBEq,Nat.reduceLT,Nat.reduceEqDiff,Nat.reduceAdd,k5,decide_true];refine onT_intro (by first|omega|(simp only[List.length_map];omega)) ?_;simp -dsimp -implicitDefEqProofs only[aw,V.copy,eq_self,reduceIte,Nat.reduceBEq,Nat.reduceLT,Nat.reduceEqDiff];exact fin_ret (v:=.d (dstrs (bd++[x.idx]))) hb (by simp[rs72,resV,res1,dstrs,aw,V.lend,eq_self,reduceIte]) rfl List.take_left ⟨rfl,rfl⟩
 ·have hr:bnd x bd=bd:=if_neg k5;rw[hr];simp -dsimp -implicitDefEqProofs only[aw,V.copy,Nat.reduceLeDiff,eq_self,reduceIte,Nat.reduceBEq,Nat.reduceLT,Nat.reduceEqDiff,Nat.reduceAdd,decide_eq_false k5];exact fin_ret (v:=.d (dstrs bd)) hb (by simp[rs72,resV,res1,dstrs,aw,V.lend,eq_self,reduceIte]) rfl List.take_left ⟨rfl,rfl⟩
theorem nodesL_mem{l:List Ex}{n:Ex}:n∈nodesL l↔∃a,a∈l∧n∈nodesE a:=by
 induction l with
 | nil=>simp[nodesL]
 | cons b r ih=>rw[nodesL,List.mem_append,ih];simp
section
variable (spl : ByteArray → Option (ByteArray × Int)) (fs : List (ByteArray × Int))
theorem first_zero(l:List Int):firstE l=0↔∀a,a∈l→a=0:=by
 unfold firstE;cases h:l.find? (· ≠ 0)with
 | none=>
  rw[List.find?_eq_none]at h;exact⟨fun _ a ha=>by have:=h a ha;simpa using this,fun _=>rfl⟩
 | some x=>
  have h1:=List.find?_some h;have h2:=List.mem_of_find?_eq_some h;have h1:x≠0:=by simpa using h1
  exact⟨fun hx=>absurd hx h1,fun hx=>absurd (hx x h2) h1⟩
theorem exprC_zero(bd:List ByteArray)(e:Ex):exprC spl fs bd e=0↔∀n,n∈nodesE e→nodeC spl fs bd n=0:=by
 unfold exprC;rw[first_zero];simp
end
end Go.Proofs.YthoebpnbhgmoiaaGreatDoor
namespace Go.Proofs.YthoebpnbhgmoiaaGreatDoor
open Go.RowKit
mutual
def allN(ops:List Int)(P:ByteArray→Prop):Ex→Prop
 | .mk o _ s l=>(o∈ops→P s)∧allNs ops P l
def allNs(ops:List Int)(P:ByteArray→Prop):List Ex→Prop
 | []=>True
 | a::r=>allN ops P a∧allNs ops P r
end
section
variable {nm : ByteArray} {x : Int} {env : List Sig}
end
end Go.Proofs.YthoebpnbhgmoiaaGreatDoor
namespace Go.Proofs.YthoebpnbhgmoiaaGreatDoor
open Go.RowKit
section
variable (spl : ByteArray → Option (ByteArray × Int)) (fs : List (ByteArray × Int))
theorem vldX_mem{l:List It}{d:Nat}(h:rvl l d=0){x:It}(hx:x∈l):shapeE x d=0∧rvl x.items (d+1)=0∧rvl x.els (d+1)=0:=by
 induction l with
 | nil=>cases hx
 | cons a r ih=>
  rw[rvl,rv1_eq]at h;by_cases h1:shapeE a d=0
  ·rw[if_pos h1]at h;by_cases h2:rvl a.items (d+1)=0
   ·rw[if_pos h2]at h;by_cases h3:rvl a.els (d+1)=0
    ·rw[if_pos h3]at h;rcases List.mem_cons.1 hx with rfl|hx
     ·exact⟨h1,h2,h3⟩
     ·exact ih h hx
    ·rw[if_neg h3]at h;exact absurd h h3
   ·rw[if_neg h2,if_neg h2]at h;exact absurd h h2
  ·rw[if_neg h1,if_neg h1]at h;exact absurd h h1
theorem shape_expr{x:It}{d:Nat}(h:shapeE x d=0)(hk:x.kind=1∨x.kind=2∨x.kind=4):validE x.ex=0:=by
 unfold shapeE at h;split at h
 ·cases h
 ·rw[if_neg (by omega),if_neg (by omega),if_neg (by omega)]at h;exact h
end
end Go.Proofs.YthoebpnbhgmoiaaGreatDoor
