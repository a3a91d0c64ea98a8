import Derived.Test.YthoebpnbhgmoiaaGreatDoorIwk
import Derived.Test.YthoebpnbhgmoiaaGreatDoorGrow
set_option linter.unusedVariables false
set_option linter.unusedSimpArgs false
set_option linter.unusedSectionVars false
namespace Go.Proofs.YthoebpnbhgmoiaaGreatDoor
open Go.RowKit
theorem flat_take{α β:Type}(f:α→List β)(l:List α){j:Nat}(h:j<l.length):(l.take (j+1)).flatMap f=(l.take j).flatMap f++f l[j]:=by
 rw[List.take_add_one,List.getElem?_eq_getElem h,List.flatMap_append];simp
theorem nodeName_len(bd:List ByteArray)(e:Ex):(nodeName bd e).length≤1:=by unfold nodeName;split<;>simp
theorem flat_names_len(bd:List ByteArray)(l:List Ex):(l.flatMap (nodeName bd)).length≤l.length:=by
 induction l with
 | nil=>simp
 | cons a r ih=>rw[List.flatMap_cons,List.length_append,List.length_cons];have:=nodeName_len bd a;omega
set_option maxHeartbeats 2000000 in
theorem mentioned_fun(x:It)(d:Nat)(bd:List ByteArray)(hbig:ibig x≤1000000)(σ:List (List V)):Fun G 59 [vit x,vplc d bd] σ (RetV (.d (dstrs (ownN x bd))) σ):=by
 have hb0:=ibig_eq x;refine fun_code Tryz.func59 k59 (by simp only[vit_eq];rfl) fun hb hw=>?_;delta c59 oM oV kI kS kT kF;have hn:=fun σ=>nodes_fun x.ex (by omega) σ;simp only[vex_eq]at hn;have hnl:=nodesE_len x.ex;by_cases k1:x.kind=1∨x.kind=2∨x.kind=4
 ·have e1:ownN x bd=(nodesE x.ex).flatMap (nodeName bd):=by unfold ownN;rw[if_pos k1]
  rw[e1];rcases k1 with k1|k1|k1
  all_goals
   simp -dsimp -implicitDefEqProofs only[aw,slots0,V.copy,V.lend,V.lend1,V.cells,V.boxable,Nat.reduceLeDiff,eq_self,reduceIte,reduceCtorEq,Nat.reduceBEq,Nat.reduceLT,Nat.reduceEqDiff,Nat.reduceAdd,vit_eq,k1,Int.reduceEq,decide_true,decide_false];refine fun_ret (hn _) ?_;simp -dsimp -implicitDefEqProofs only[aw,V.copy,eq_self,reduceIte,Nat.reduceBEq,Nat.reduceLT,Nat.reduceEqDiff];generalize nodesE x.ex=N at hnl ⊢
   refine awp_forK [3,5,16,17,18] (R:=fun(j:Nat) ρ σ'=>ρ=[(3,.ptr (σ.length+1) 0),(5,.own 9 1 (((N.take j).flatMap (nodeName bd)).map fun s=>[dstr s])),(16,.d (.sl (N.map dex))),(17,vint .i64 N.length),(18,vint .i64 j)]∧
    σ'=σ++[[.d (dint x.kind),.d (dint x.ex.op),.d (dint x.ex.num),.d (dstr x.ex.name),.d (.sl (x.ex.args.map dex)),.d (dstr x.name),.d (dstr x.idx),.d (.sl (x.ws.map dwt)),.d (.sl (x.items.map dit)),.d (.sl (x.els.map dit)),.d (.sl (x.bef.map fun s=>[dstr s])),.d (.sl (x.aft.map fun s=>[dstr s]))],[.d (dint d),.d (.sl (bd.map fun s=>[dstr s]))]]) N.length ⟨rfl,by rw[k1]⟩ ?_ _
   rintro j ρ' σ' hj ⟨rfl,rfl⟩;by_cases hlt:j<N.length
   ·have ht:=flat_take (nodeName bd) N hlt;have hle:=flat_names_len bd (N.take j);rw[List.length_take]at hle;have hx:N[j]? = some N[j]:=List.getElem?_eq_getElem hlt;have wj:=wrap_nat hlt (show N.length≤9223372036854775807 by omega);generalize N[j]=e at hx ht;have e3:∀a b c:List V,σ++[a,b,c]=(σ++[a,b])++[c]:=fun a b c=>by simp
    have hbb:∀a b:List V,V.unders (σ.length+2) a=true→V.unders (σ.length+2) b=true→boxesBelow (σ++[a,b]).length (σ++[a,b])=true:=fun a b h1 h2=>boxesBelow_app hb (by simp[h1,h2]);by_cases n1:e.op=3∨e.op=24
    ·have hnm:nodeName bd e=[e.name]:=by unfold nodeName;rw[if_pos (by omega)]
     rw[hnm]at ht;rcases n1 with n1|n1
     all_goals
      simp -dsimp -implicitDefEqProofs only[aw,V.copy,V.cells,V.boxable,over,rowsOf,plains,V.plain,Nat.reduceLeDiff,cond_false,eq_self,reduceIte,Nat.reduceBEq,Nat.reduceLT,Nat.reduceEqDiff,Nat.reduceAdd,Int.ofNat_lt,hlt,decide_true,hx,dex_eq e,n1,Int.reduceEq,decide_false];refine onT_intro (by first|omega|(simp only[List.length_map];omega)) ?_;simp -dsimp -implicitDefEqProofs only[aw,V.copy,eq_self,reduceIte,Nat.reduceBEq,Nat.reduceLT,Nat.reduceEqDiff,wj];rw[e3];exact⟨hlt,Nxt.drop (by simp) (hbb _ _ rfl rfl) (by simp[slotsBelow,V.under]) ⟨by rw[ht,List.map_append];rfl,rfl⟩⟩
    ·have n3:¬e.op=3:=fun h=>n1 (.inl h);have n24:¬e.op=24:=fun h=>n1 (.inr h);by_cases n2:e.op=2
     ·simp -dsimp -implicitDefEqProofs only[aw,V.copy,V.lend,V.cells,V.boxable,over,Nat.reduceLeDiff,cond_false,eq_self,reduceIte,Nat.reduceBEq,Nat.reduceLT,Nat.reduceEqDiff,Nat.reduceAdd,Int.ofNat_lt,hlt,decide_true,hx,dex_eq e,n2,Int.reduceEq,decide_false];refine fun_ret (fun_contains bd e.name _) ?_;cases hi:inB e.name bd with
      | true=>
       have hnm:nodeName bd e=[]:=by unfold nodeName;rw[if_neg];rw[hi];simp[n2]
       rw[hnm,List.append_nil]at ht;simp -dsimp -implicitDefEqProofs only[aw,V.copy,cond_true,cond_false,eq_self,reduceIte,Nat.reduceBEq,Nat.reduceLT,Nat.reduceEqDiff,wj];rw[e3];exact⟨hlt,Nxt.drop (by simp) (hbb _ _ rfl rfl) (by simp[slotsBelow,V.under]) ⟨by rw[ht],rfl⟩⟩
      | false=>
       have hnm:nodeName bd e=[e.name]:=by unfold nodeName;rw[if_pos];exact .inr (.inr ⟨n2,hi⟩)
       rw[hnm]at ht;simp -dsimp -implicitDefEqProofs only[aw,V.copy,V.cells,rowsOf,plains,V.plain,Nat.reduceLeDiff,cond_true,cond_false,eq_self,reduceIte,Nat.reduceBEq,Nat.reduceLT,Nat.reduceEqDiff,Nat.reduceAdd];refine onT_intro (by first|omega|(simp only[List.length_map];omega)) ?_;simp -dsimp -implicitDefEqProofs only[aw,V.copy,eq_self,reduceIte,Nat.reduceBEq,Nat.reduceLT,Nat.reduceEqDiff,wj];rw[e3];exact⟨hlt,Nxt.drop (by simp) (hbb _ _ rfl rfl) (by simp[slotsBelow,V.under]) ⟨by rw[ht,List.map_append];rfl,rfl⟩⟩
     ·have hnm:nodeName bd e=[]:=by unfold nodeName;rw[if_neg];omega
      rw[hnm,List.append_nil]at ht;simp -dsimp -implicitDefEqProofs only[aw,V.copy,V.cells,V.boxable,over,Nat.reduceLeDiff,cond_false,eq_self,reduceIte,Nat.reduceBEq,Nat.reduceLT,Nat.reduceEqDiff,Nat.reduceAdd,Int.ofNat_lt,hlt,decide_true,hx,dex_eq e,decide_eq_false n2,decide_eq_false n3,decide_eq_false n24,wj];rw[e3];exact Nxt.drop (by simp) (hbb _ _ rfl rfl) (by simp[slotsBelow,V.under]) ⟨by rw[ht],rfl⟩
   ·simp -dsimp -implicitDefEqProofs only[aw,V.copy,eq_self,reduceIte,reduceCtorEq,Nat.reduceBEq,Nat.reduceLT,Nat.reduceEqDiff,Int.ofNat_lt,hlt,decide_false];rw[List.take_of_length_le (by omega)];first|exact fin_ret hb rfl rfl List.take_length ⟨rfl,rfl⟩|exact fin_ret hb rfl rfl List.take_left ⟨rfl,rfl⟩
 ·have m1:¬x.kind=1:=fun h=>k1 (.inl h);have m2:¬x.kind=2:=fun h=>k1 (.inr (.inl h));have m4:¬x.kind=4:=fun h=>k1 (.inr (.inr h));by_cases k3:x.kind=3∨x.kind=5
  ·have e1:ownN x bd=[x.name]:=by unfold ownN;rw[if_neg k1,if_pos k3]
   rw[e1];rcases k3 with k3|k3
   all_goals
    simp -dsimp -implicitDefEqProofs only[aw,slots0,V.copy,V.cells,V.boxable,rowsOf,plains,V.plain,Nat.reduceLeDiff,eq_self,reduceIte,reduceCtorEq,Nat.reduceBEq,Nat.reduceLT,Nat.reduceEqDiff,Nat.reduceAdd,Nat.reduceMul,vit_eq,k3,Int.reduceEq,decide_true,decide_false];first|exact fin_ret hb rfl rfl List.take_length ⟨rfl,rfl⟩|exact fin_ret hb rfl rfl List.take_left ⟨rfl,rfl⟩
  ·have m3:¬x.kind=3:=fun h=>k3 (.inl h);have m5:¬x.kind=5:=fun h=>k3 (.inr h);by_cases k6:x.kind=6
   ·have e1:ownN x bd=x.bef++x.aft:=by unfold ownN;rw[if_neg k1,if_neg k3,if_pos k6]
    rw[e1];simp -dsimp -implicitDefEqProofs only[aw,slots0,V.copy,V.lend,V.cells,V.boxable,rowsOf,plains,V.plain,Nat.reduceLeDiff,eq_self,reduceIte,reduceCtorEq,Nat.reduceBEq,Nat.reduceLT,Nat.reduceEqDiff,Nat.reduceAdd,vit_eq,k6,Int.reduceEq,decide_true,decide_false];have hcc:=fun σ=>concat_fun [x.bef,x.aft] (by simp;omega) (by simp) σ;simp only[List.map_cons,List.map_nil]at hcc;refine fun_ret (hcc _) ?_;simp -dsimp -implicitDefEqProofs only[aw,V.copy,eq_self,reduceIte,Nat.reduceBEq,Nat.reduceLT,Nat.reduceEqDiff];have e2:[x.bef,x.aft].flatten=x.bef++x.aft:=by simp
    rw[e2];first|exact fin_ret hb rfl rfl List.take_length ⟨rfl,rfl⟩|exact fin_ret hb rfl rfl List.take_left ⟨rfl,rfl⟩
   ·have e1:ownN x bd=[]:=by unfold ownN;rw[if_neg k1,if_neg k3,if_neg k6]
    rw[e1];simp -dsimp -implicitDefEqProofs only[aw,slots0,V.copy,V.cells,V.boxable,Nat.reduceLeDiff,eq_self,reduceIte,reduceCtorEq,Nat.reduceBEq,Nat.reduceLT,Nat.reduceEqDiff,Nat.reduceAdd,vit_eq,decide_eq_false m1,decide_eq_false m2,decide_eq_false m3,decide_eq_false m4,decide_eq_false m5,decide_eq_false k6];first|exact fin_ret hb rfl rfl List.take_length ⟨rfl,rfl⟩|exact fin_ret hb rfl rfl List.take_left ⟨rfl,rfl⟩
theorem firstE_cons(a:Int)(l:List Int):firstE (a::l)=if a=0 then firstE l else a:=by
 unfold firstE;rw[List.find?_cons];by_cases h:a=0
 ·rw[if_pos h];simp[h]
 ·rw[if_neg h];simp[h]
def VarsOk(e:Ex):Prop:=∀n,n∈nodesE e→n.op=2→isVarB n.name=true
theorem vars_ok(e:Ex):errE e=0→VarsOk e:=by
 induction e using Ex.ind with
 | h o m s l ih=>
 intro he n hn ho;obtain⟨h1,h2⟩:=errE_node he;rw[nodesE]at hn;rcases List.mem_cons.1 hn with rfl|hn
 ·exact(node_ok h1).2.2.2.2.1 ho
 ·obtain⟨a,ha,hn⟩:=nodesL_mem.1 hn;exact ih a ha (errL_mem h2 a ha) n hn ho
set_option maxHeartbeats 2000000 in
theorem expression_fun(i:Nat)(fs:List (ByteArray×Int))(hp:Sz8 fs)(e:Ex)(bd:List ByteArray)(hs:esize e≤1000000)(hv:VarsOk e)(σ:List (List V))(h:FB σ i fs):Fun G 48 [.mp i,vex e,.d (dstrs bd)] σ (RetV (.d (dint (exprC splE fs bd e))) σ):=by
 refine fun_code Tryz.func48 k48 (by simp only[vex_eq];rfl) fun hb hw=>?_;delta c48 oM oV kI kS kT kF;have hn:=fun σ=>nodes_fun e hs σ;simp only[vex_eq]at hn;have hnl:=nodesE_len e;unfold VarsOk at hv;simp -dsimp -implicitDefEqProofs only[aw,slots0,V.copy,V.lend,V.lend1,V.cells,V.boxable,Nat.reduceLeDiff,eq_self,reduceIte,reduceCtorEq,Nat.reduceBEq,Nat.reduceLT,Nat.reduceEqDiff,Nat.reduceAdd,vex_eq];refine fun_ret (hn _) ?_;simp -dsimp -implicitDefEqProofs only[aw,V.copy,eq_self,reduceIte,reduceCtorEq,Nat.reduceBEq,Nat.reduceLT,Nat.reduceEqDiff];unfold exprC;generalize nodesE e=N at hnl hv ⊢;have hil:=h.lt
 refine awp_forK [0,2,11,12,13] (R:=fun(j:Nat) ρ σ'=>ρ=[(0,.mp i),(2,.d (dstrs bd)),(11,.d (.sl (N.map dex))),(12,vint .i64 N.length),(13,vint .i64 j)]∧σ'=σ++[[.d (dint e.op),.d (dint e.num),.d (dstr e.name),.d (.sl (e.args.map dex))]]∧
  firstE (N.map (nodeC splE fs bd))=firstE ((N.drop j).map (nodeC splE fs bd))) N.length ⟨rfl,rfl,rfl⟩ ?_ _
 rintro j ρ' σ' hj ⟨rfl,rfl,hr⟩;by_cases hlt:j<N.length
 ·have hx:N[j]? = some N[j]:=List.getElem?_eq_getElem hlt;have wj:=wrap_nat hlt (show N.length≤9223372036854775807 by omega);rw[List.drop_eq_getElem_cons hlt,List.map_cons,firstE_cons]at hr;have hm:=hv _ (List.getElem_mem hlt);generalize N[j]=x at hx hr hm;have e3:∀a b:List V,σ++[a,b]=(σ++[a])++[b]:=fun a b=>by simp
  have hend:∀(c:Int),nodeC splE fs bd x=c→c=0→firstE (N.map (nodeC splE fs bd))=firstE ((N.drop (j+1)).map (nodeC splE fs bd)):=fun c h1 h2=>by rw[h1,if_pos h2]at hr;exact hr
  have hend2:∀(c:Int),nodeC splE fs bd x=c→¬c=0→firstE (N.map (nodeC splE fs bd))=c:=fun c h1 h2=>by rw[h1,if_neg h2]at hr;exact hr
  by_cases n2:x.op=2
  ·cases hi:inB x.name bd with
   | true=>
    have hc:nodeC splE fs bd x=0:=by unfold nodeC;rw[if_pos n2,hi];rfl
    simp -dsimp -implicitDefEqProofs only[aw,V.copy,V.lend,V.cells,V.boxable,over,Nat.reduceLeDiff,eq_self,reduceIte,reduceCtorEq,Nat.reduceBEq,Nat.reduceLT,Nat.reduceEqDiff,Nat.reduceAdd,Int.ofNat_lt,hlt,decide_true,hx,dex_eq x,n2];refine fun_ret (fun_contains bd x.name _) ?_;simp -dsimp -implicitDefEqProofs only[aw,V.copy,eq_self,reduceIte,reduceCtorEq,Nat.reduceBEq,Nat.reduceLT,Nat.reduceEqDiff,hi,wj,decide_true];rw[e3];exact⟨hlt,Nxt.drop (by simp) (boxesBelow_app hb rfl) (by simp[slotsBelow,V.under];omega) ⟨rfl,rfl,hend _ hc rfl⟩⟩
   | false=>
    have hc:nodeC splE fs bd x=varE splE fs x.name:=by unfold nodeC;rw[if_pos n2,hi];rfl
    simp -dsimp -implicitDefEqProofs only[aw,V.copy,V.lend,V.cells,V.boxable,over,Nat.reduceLeDiff,eq_self,reduceIte,reduceCtorEq,Nat.reduceBEq,Nat.reduceLT,Nat.reduceEqDiff,Nat.reduceAdd,Int.ofNat_lt,hlt,decide_true,hx,dex_eq x,n2];refine fun_ret (fun_contains bd x.name _) ?_;simp -dsimp -implicitDefEqProofs only[aw,V.copy,V.lend,Nat.reduceLeDiff,eq_self,reduceIte,reduceCtorEq,Nat.reduceBEq,Nat.reduceLT,Nat.reduceEqDiff,Nat.reduceAdd,hi];refine fun_ret (variable_fun i fs x.name (hm n2) hp _ (h.app _)) ?_;by_cases h0:varE splE fs x.name=0
    ·simp -dsimp -implicitDefEqProofs only[aw,V.copy,eq_self,reduceIte,reduceCtorEq,Nat.reduceBEq,Nat.reduceLT,Nat.reduceEqDiff,h0,wj,decide_true];rw[e3];exact⟨hlt,Nxt.drop (by simp) (boxesBelow_app hb rfl) (by simp[slotsBelow,V.under];omega) ⟨rfl,rfl,hend _ hc h0⟩⟩
    ·simp -dsimp -implicitDefEqProofs only[aw,V.copy,eq_self,reduceIte,reduceCtorEq,Nat.reduceBEq,Nat.reduceLT,Nat.reduceEqDiff,decide_eq_false h0];rw[hend2 _ hc h0];first|exact fin_ret hb rfl rfl List.take_length ⟨rfl,rfl⟩|exact fin_ret hb rfl rfl List.take_left ⟨rfl,rfl⟩
  ·by_cases n3:x.op=3∨x.op=24
   ·have hc:nodeC splE fs bd x=arrE fs x.name:=by unfold nodeC;rw[if_neg n2,if_pos n3]
    rcases n3 with n3|n3
    all_goals
     simp -dsimp -implicitDefEqProofs only[aw,V.copy,V.lend,V.cells,V.boxable,over,Nat.reduceLeDiff,eq_self,reduceIte,reduceCtorEq,Nat.reduceBEq,Nat.reduceLT,Nat.reduceEqDiff,Nat.reduceAdd,Int.ofNat_lt,hlt,decide_true,hx,dex_eq x,n3,Int.reduceEq,decide_false];refine fun_ret (array_fun i fs x.name hp _ (h.app _)) ?_;by_cases h0:arrE fs x.name=0
     ·simp -dsimp -implicitDefEqProofs only[aw,V.copy,eq_self,reduceIte,reduceCtorEq,Nat.reduceBEq,Nat.reduceLT,Nat.reduceEqDiff,h0,wj,decide_true];rw[e3];exact⟨hlt,Nxt.drop (by simp) (boxesBelow_app hb rfl) (by simp[slotsBelow,V.under];omega) ⟨rfl,rfl,hend _ hc h0⟩⟩
     ·simp -dsimp -implicitDefEqProofs only[aw,V.copy,eq_self,reduceIte,reduceCtorEq,Nat.reduceBEq,Nat.reduceLT,Nat.reduceEqDiff,decide_eq_false h0];rw[hend2 _ hc h0];first|exact fin_ret hb rfl rfl List.take_length ⟨rfl,rfl⟩|exact fin_ret hb rfl rfl List.take_left ⟨rfl,rfl⟩
   ·have hc:nodeC splE fs bd x=0:=by unfold nodeC;rw[if_neg n2,if_neg n3]
    have m3:¬x.op=3:=fun h=>n3 (.inl h);have m24:¬x.op=24:=fun h=>n3 (.inr h);simp -dsimp -implicitDefEqProofs only[aw,V.copy,V.cells,V.boxable,over,Nat.reduceLeDiff,eq_self,reduceIte,reduceCtorEq,Nat.reduceBEq,Nat.reduceLT,Nat.reduceEqDiff,Nat.reduceAdd,Int.ofNat_lt,hlt,decide_true,hx,dex_eq x,decide_eq_false n2,decide_eq_false m3,decide_eq_false m24,wj];rw[e3];exact Nxt.drop (by simp) (boxesBelow_app hb rfl) (by simp[slotsBelow,V.under];omega) ⟨rfl,rfl,hend _ hc rfl⟩
 ·simp -dsimp -implicitDefEqProofs only[aw,V.copy,eq_self,reduceIte,reduceCtorEq,Nat.reduceBEq,Nat.reduceLT,Nat.reduceEqDiff,Int.ofNat_lt,hlt,decide_false];rw[List.drop_eq_nil_of_le (by omega)]at hr;rw[hr];first|exact fin_ret hb rfl rfl List.take_length ⟨rfl,rfl⟩|exact fin_ret hb rfl rfl List.take_left ⟨rfl,rfl⟩
end Go.Proofs.YthoebpnbhgmoiaaGreatDoor
