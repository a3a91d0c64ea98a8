import Derived.Test.YthoebpnbhgmoiaaGreatDoorIr5
import Derived.Test.YthoebpnbhgmoiaaGreatDoorIt6
import Derived.Test.YthoebpnbhgmoiaaGreatDoorClo
import Derived.Test.YthoebpnbhgmoiaaGreatDoorIw4
set_option linter.unusedVariables false
set_option linter.unusedSimpArgs false
set_option linter.unusedSectionVars false
namespace Go.Proofs.YthoebpnbhgmoiaaGreatDoor
open Go.RowKit
theorem var_size{s:ByteArray}(h:isVarB s=true):s.size≤1000:=by
 unfold isVarB at h;rw[Bool.or_eq_true]at h;rcases h with h|h
 ·obtain⟨h4,hA,-⟩:=spl_parts h;simp only[elemB,Bool.and_eq_true]at h;have:=nameB_size h.1.2;rw[hA,ByteArray.size_extract]at this;omega
 ·have:=nameB_size h;omega
set_option maxHeartbeats 2000000 in
theorem asked_fun(e:Ex)(c:Cl)(bd:List ByteArray)(hs:esize e≤1000000)(hv:VarsOk e)(hc:c.fields.length≤1000000)(hbd:bd.length≤1000000)(σ:List (List V)):Fun G 51 [vex e,vcl c,.d (dstrs bd)] σ (RetV (.d (dint (exprC splE (fldS c) bd e))) σ):=by
 refine fun_code Tryz.func51 k51 (by simp only[vex_eq];rfl) fun hb hw=>?_;delta c51 oM oV kI kS kT kF;have hn:=fun σ=>rnodes_fun e hs σ;simp only[vex_eq]at hn;have hnl:=nodesE_count e;unfold VarsOk at hv;simp -dsimp -implicitDefEqProofs only[aw,slots0,V.copy,V.lend,V.lend1,V.cells,V.boxable,Nat.reduceLeDiff,eq_self,reduceIte,reduceCtorEq,Nat.reduceBEq,Nat.reduceLT,Nat.reduceEqDiff,Nat.reduceAdd,vex_eq];refine fun_ret (hn _) ?_;simp -dsimp -implicitDefEqProofs only[aw,V.copy,eq_self,reduceIte,Nat.reduceBEq,Nat.reduceLT,Nat.reduceEqDiff];unfold exprC;generalize nodesE e=N at hnl hv ⊢
 refine awp_for (R:=fun(j:Nat) ρ σ'=>ρ=[(2,.d (dstrs bd)),(4,.ptr (σ.length+1) 0),(7,.d (.sl (N.map dex))),(8,vint .i64 j)]∧σ'=σ++[[.d (dint e.op),.d (dint e.num),.d (dstr e.name),.d (.sl (e.args.map dex))],clsC c]∧
  firstE (N.map (nodeC splE (fldS c) bd))=firstE ((N.drop j).map (nodeC splE (fldS c) bd))) N.length ⟨rfl,rfl,rfl⟩ ?_ _
 rintro j ρ' σ' hj ⟨rfl,rfl,hr⟩;by_cases hlt:j<N.length
 ·have hx:N[j]? = some N[j]:=List.getElem?_eq_getElem hlt;have wj:=wrap_nat hlt (show N.length≤9223372036854775807 by omega);rw[List.drop_eq_getElem_cons hlt,List.map_cons,firstE_cons]at hr;have hm:=hv _ (List.getElem_mem hlt);generalize N[j]=x at hx hr hm;have hend:∀(k:Int),nodeC splE (fldS c) bd x=k→k=0→firstE (N.map (nodeC splE (fldS c) bd))=firstE ((N.drop (j+1)).map (nodeC splE (fldS c) bd)):=fun k h1 h2=>by rw[h1,if_pos h2]at hr;exact hr
  have hend2:∀(k:Int),nodeC splE (fldS c) bd x=k→¬k=0→firstE (N.map (nodeC splE (fldS c) bd))=k:=fun k h1 h2=>by rw[h1,if_neg h2]at hr;exact hr
  by_cases n2:x.op=2
  ·cases hi:inB x.name bd with
   | true=>
    have hk:nodeC splE (fldS c) bd x=0:=by unfold nodeC;rw[if_pos n2,hi];rfl
    simp -dsimp -implicitDefEqProofs only[aw,V.copy,V.lend,Nat.reduceLeDiff,eq_self,reduceIte,Nat.reduceBEq,Nat.reduceLT,Nat.reduceEqDiff,Nat.reduceAdd,Int.ofNat_lt,hlt,decide_true,hx,dex_eq x,n2];refine fun_ret (bound_fun bd x.name hbd _) ?_;simp -dsimp -implicitDefEqProofs only[aw,V.copy,Nat.reduceLeDiff,cond_true,cond_false,eq_self,reduceIte,Nat.reduceBEq,Nat.reduceLT,Nat.reduceEqDiff,Nat.reduceAdd,hi,hx,dex_eq x,n2,wj,decide_true,Int.reduceEq,decide_false];exact⟨hlt,Nxt.same (by simp) (boxesBelow_app hb rfl) (by simp[slotsBelow,V.under]) ⟨rfl,rfl,hend _ hk rfl⟩⟩
   | false=>
    have hk:nodeC splE (fldS c) bd x=varE splE (fldS c) x.name:=by unfold nodeC;rw[if_pos n2,hi];rfl
    have hsz:=var_size (hm n2);simp -dsimp -implicitDefEqProofs only[aw,V.copy,V.lend,Nat.reduceLeDiff,eq_self,reduceIte,Nat.reduceBEq,Nat.reduceLT,Nat.reduceEqDiff,Nat.reduceAdd,Int.ofNat_lt,hlt,decide_true,hx,dex_eq x,n2];refine fun_ret (bound_fun bd x.name hbd _) ?_;simp -dsimp -implicitDefEqProofs only[aw,V.copy,V.lend,V.lend1,Nat.reduceLeDiff,cond_true,eq_self,reduceIte,Nat.reduceBEq,Nat.reduceLT,Nat.reduceEqDiff,Nat.reduceAdd,hi,hx,dex_eq x];refine calm_ret (rvariable_fun c x.name (by omega) hc _) ?_;by_cases h0:varE splE (fldS c) x.name=0
    ·simp -dsimp -implicitDefEqProofs only[aw,V.copy,Nat.reduceLeDiff,cond_false,eq_self,reduceIte,Nat.reduceBEq,Nat.reduceLT,Nat.reduceEqDiff,Nat.reduceAdd,h0,hx,dex_eq x,n2,wj,decide_true,Int.reduceEq,decide_false];exact⟨hlt,Nxt.same (by simp) (boxesBelow_app hb rfl) (by simp[slotsBelow,V.under]) ⟨rfl,rfl,hend _ hk h0⟩⟩
    ·rw[hend2 _ hk h0];simp -dsimp -implicitDefEqProofs only[aw,V.copy,Nat.reduceLeDiff,cond_false,eq_self,reduceIte,Nat.reduceBEq,Nat.reduceLT,Nat.reduceEqDiff,Nat.reduceAdd,decide_eq_false h0,hx,dex_eq x,n2,Int.reduceEq,decide_false];first|exact fin_ret hb rfl rfl List.take_length ⟨rfl,rfl⟩|exact fin_ret hb rfl rfl List.take_left ⟨rfl,rfl⟩
  ·by_cases n3:x.op=3∨x.op=24
   ·have hk:nodeC splE (fldS c) bd x=arrE (fldS c) x.name:=by unfold nodeC;rw[if_neg n2,if_pos n3]
    rcases n3 with n3|n3
    all_goals
     simp -dsimp -implicitDefEqProofs only[aw,V.copy,V.lend,V.lend1,Nat.reduceLeDiff,cond_false,eq_self,reduceIte,Nat.reduceBEq,Nat.reduceLT,Nat.reduceEqDiff,Nat.reduceAdd,Int.ofNat_lt,hlt,decide_true,hx,dex_eq x,n3,Int.reduceEq,decide_false];refine calm_ret (rarray_fun c x.name hc _) ?_;by_cases h0:arrE (fldS c) x.name=0
     ·simp -dsimp -implicitDefEqProofs only[aw,V.copy,eq_self,reduceIte,Nat.reduceBEq,Nat.reduceLT,Nat.reduceEqDiff,h0,wj,decide_true];exact⟨hlt,Nxt.same (by simp) (boxesBelow_app hb rfl) (by simp[slotsBelow,V.under]) ⟨rfl,rfl,hend _ hk h0⟩⟩
     ·rw[hend2 _ hk h0];simp -dsimp -implicitDefEqProofs only[aw,V.copy,eq_self,reduceIte,Nat.reduceBEq,Nat.reduceLT,Nat.reduceEqDiff,decide_eq_false h0];first|exact fin_ret hb rfl rfl List.take_length ⟨rfl,rfl⟩|exact fin_ret hb rfl rfl List.take_left ⟨rfl,rfl⟩
   ·have hk:nodeC splE (fldS c) bd x=0:=by unfold nodeC;rw[if_neg n2,if_neg n3]
    have m3:¬x.op=3:=fun h=>n3 (.inl h);have m24:¬x.op=24:=fun h=>n3 (.inr h);simp -dsimp -implicitDefEqProofs only[aw,V.copy,Nat.reduceLeDiff,cond_false,eq_self,reduceIte,Nat.reduceBEq,Nat.reduceLT,Nat.reduceEqDiff,Nat.reduceAdd,Int.ofNat_lt,hlt,decide_true,hx,dex_eq x,decide_eq_false n2,decide_eq_false m3,decide_eq_false m24,wj];exact Nxt.same (by simp) (boxesBelow_app hb rfl) (by simp[slotsBelow,V.under]) ⟨rfl,rfl,hend _ hk rfl⟩
 ·rw[List.drop_eq_nil_of_le (by omega)]at hr;rw[hr];simp -dsimp -implicitDefEqProofs only[aw,V.copy,eq_self,reduceIte,Nat.reduceBEq,Nat.reduceLT,Nat.reduceEqDiff,Int.ofNat_lt,hlt,decide_false];first|exact fin_ret hb rfl rfl List.take_length ⟨rfl,rfl⟩|exact fin_ret hb rfl rfl List.take_left ⟨rfl,rfl⟩
set_option maxHeartbeats 2000000 in
theorem rone_fun(x:It)(c:Cl)(d:Nat)(bd:List ByteArray)(hbig:ibig x≤1000000)(hsh:shapeE x d=0)(hc:c.fields.length≤1000000)(hbd:bd.length≤1000000)(σ:List (List V)):
 Fun G 71 [vit x,vcl c,.d (dstrs bd)] σ (RetV (.d (dint (oneE splE (fldS c) x d bd))) σ):=by
 have hb0:=ibig_eq x;refine fun_code Tryz.func71 k71 (by simp only[vit_eq];rfl) fun hb hw=>?_;delta c71 oM oV kI kS kT kF;by_cases k3:x.kind=3
 ·have hv:=own_vars hsh (.inl k3) bd x.name (by unfold ownN;rw[if_neg (by omega),if_pos (.inl k3)];simp);have hnm:=fun σ=>r11named_fun c [x.name] (by simp) (fun s hs=>by rw[List.mem_singleton.1 hs];have:=var_size hv;omega) hc σ;have hone:oneE splE (fldS c) x d bd=if eithB splE (fldS c) x.name=true then 0 else 7:=by unfold oneE;rw[if_pos k3]
  simp only[dstrs,List.map_cons,List.map_nil,List.all_cons,List.all_nil,Bool.and_true]at hnm;rw[hone];simp -dsimp -implicitDefEqProofs only[aw,slots0,V.copy,V.lend,V.lend1,V.cells,V.boxable,rowsOf,plains,V.plain,Nat.reduceLeDiff,eq_self,reduceIte,reduceCtorEq,Nat.reduceBEq,Nat.reduceLT,Nat.reduceEqDiff,Nat.reduceAdd,vit_eq,k3,decide_true];refine fun_ret (hnm _) ?_;cases he:eithB splE (fldS c) x.name with
  | true=>
   rw[if_pos rfl];simp -dsimp -implicitDefEqProofs only[aw,V.copy,eq_self,reduceIte,Nat.reduceBEq,Nat.reduceLT,Nat.reduceEqDiff];first|exact fin_ret hb rfl rfl List.take_length ⟨rfl,rfl⟩|exact fin_ret hb rfl rfl List.take_left ⟨rfl,rfl⟩
  | false=>
   rw[if_neg Bool.false_ne_true];simp -dsimp -implicitDefEqProofs only[aw,V.copy,eq_self,reduceIte,Nat.reduceBEq,Nat.reduceLT,Nat.reduceEqDiff];first|exact fin_ret hb rfl rfl List.take_length ⟨rfl,rfl⟩|exact fin_ret hb rfl rfl List.take_left ⟨rfl,rfl⟩
 by_cases k6:x.kind=6
 ·have hv:=own_vars hsh (.inr k6) bd;have ho:ownN x bd=x.bef++x.aft:=by unfold ownN;rw[if_neg (by omega),if_neg (by omega),if_pos k6]
  rw[ho]at hv;have hB:=fun σ=>r11named_fun c x.bef (by omega) (fun s hs=>by have:=var_size (hv s (List.mem_append_left _ hs));omega) hc σ;have hA:=fun σ=>r11named_fun c x.aft (by omega) (fun s hs=>by have:=var_size (hv s (List.mem_append_right _ hs));omega) hc σ;have hone:oneE splE (fldS c) x d bd=if(x.bef.all (eithB splE (fldS c))&&x.aft.all (eithB splE (fldS c)))=true then 0 else 7:=by unfold oneE;rw[if_neg k3,if_pos k6,List.all_append]
  simp only[dstrs]at hA hB;rw[hone];simp -dsimp -implicitDefEqProofs only[aw,slots0,V.copy,V.lend,V.lend1,V.cells,V.boxable,Nat.reduceLeDiff,eq_self,reduceIte,reduceCtorEq,Nat.reduceBEq,Nat.reduceLT,Nat.reduceEqDiff,Nat.reduceAdd,vit_eq,k6,Int.reduceEq,decide_true,decide_false];refine fun_ret (hB _) ?_;cases h1:x.bef.all (eithB splE (fldS c))with
  | false=>
   rw[Bool.false_and,if_neg Bool.false_ne_true];simp -dsimp -implicitDefEqProofs only[aw,V.copy,eq_self,reduceIte,Nat.reduceBEq,Nat.reduceLT,Nat.reduceEqDiff];first|exact fin_ret hb rfl rfl List.take_length ⟨rfl,rfl⟩|exact fin_ret hb rfl rfl List.take_left ⟨rfl,rfl⟩
  | true=>
   simp -dsimp -implicitDefEqProofs only[aw,V.copy,V.lend,V.lend1,Nat.reduceLeDiff,eq_self,reduceIte,Nat.reduceLT,Nat.reduceEqDiff,Nat.reduceAdd];refine fun_ret (hA _) ?_;cases h2:x.aft.all (eithB splE (fldS c))with
   | false=>
    rw[Bool.true_and,if_neg Bool.false_ne_true];simp -dsimp -implicitDefEqProofs only[aw,V.copy,cond_false,eq_self,reduceIte,Nat.reduceBEq,Nat.reduceLT,Nat.reduceEqDiff];first|exact fin_ret hb rfl rfl List.take_length ⟨rfl,rfl⟩|exact fin_ret hb rfl rfl List.take_left ⟨rfl,rfl⟩
   | true=>
    rw[Bool.true_and,if_pos rfl];simp -dsimp -implicitDefEqProofs only[aw,V.copy,cond_false,eq_self,reduceIte,Nat.reduceBEq,Nat.reduceLT,Nat.reduceEqDiff];first|exact fin_ret hb rfl rfl List.take_length ⟨rfl,rfl⟩|exact fin_ret hb rfl rfl List.take_left ⟨rfl,rfl⟩
 by_cases k5:x.kind=5
 ·have e1:oneE splE (fldS c) x d bd=if arrE (fldS c) x.name≠0 then arrE (fldS c) x.name else if(fsz (fldS c) x.idx).isSome=true∨inB x.idx bd=true then 8 else 0:=by
   unfold oneE;rw[if_neg k3,if_neg k6,if_pos k5]
  rw[e1];simp -dsimp -implicitDefEqProofs only[aw,slots0,V.copy,V.lend,V.lend1,V.cells,V.boxable,Nat.reduceLeDiff,eq_self,ne_eq,reduceIte,reduceCtorEq,Nat.reduceBEq,Nat.reduceLT,Nat.reduceEqDiff,Nat.reduceAdd,vit_eq,k5,Int.reduceEq,decide_true,decide_false];refine fun_ret (rarray_fun c x.name hc _) ?_;by_cases h0:arrE (fldS c) x.name=0
  ·rw[if_neg (by simp[h0])];simp -dsimp -implicitDefEqProofs only[aw,V.copy,V.lend,V.lend1,Nat.reduceLeDiff,eq_self,reduceIte,Nat.reduceBEq,Nat.reduceLT,Nat.reduceEqDiff,Nat.reduceAdd,h0,decide_true];refine fun_ret (field_fun c x.idx hc _) ?_;cases hf:fsz (fldS c) x.idx with
   | some n=>
    rw[if_pos (.inl rfl)];simp -dsimp -implicitDefEqProofs only[aw,V.copy,eq_self,reduceIte,Nat.reduceBEq,Nat.reduceLT,Nat.reduceEqDiff,Option.getD_some,Option.isSome_some];first|exact fin_ret hb rfl rfl List.take_length ⟨rfl,rfl⟩|exact fin_ret hb rfl rfl List.take_left ⟨rfl,rfl⟩
   | none=>
    simp -dsimp -implicitDefEqProofs only[aw,V.copy,V.lend,Nat.reduceLeDiff,eq_self,reduceIte,Nat.reduceBEq,Nat.reduceLT,Nat.reduceEqDiff,Nat.reduceAdd,Option.getD_none,Option.isSome_none];refine fun_ret (bound_fun bd x.idx hbd _) ?_;cases hi:inB x.idx bd with
    | true=>
     rw[if_pos (.inr rfl)];simp -dsimp -implicitDefEqProofs only[aw,V.copy,cond_false,eq_self,reduceIte,Nat.reduceBEq,Nat.reduceLT,Nat.reduceEqDiff];first|exact fin_ret hb rfl rfl List.take_length ⟨rfl,rfl⟩|exact fin_ret hb rfl rfl List.take_left ⟨rfl,rfl⟩
    | false=>
     rw[if_neg (by simp)];simp -dsimp -implicitDefEqProofs only[aw,V.copy,cond_false,eq_self,reduceIte,Nat.reduceBEq,Nat.reduceLT,Nat.reduceEqDiff];first|exact fin_ret hb rfl rfl List.take_length ⟨rfl,rfl⟩|exact fin_ret hb rfl rfl List.take_left ⟨rfl,rfl⟩
  ·rw[if_pos h0];simp -dsimp -implicitDefEqProofs only[aw,V.copy,eq_self,reduceIte,Nat.reduceBEq,Nat.reduceLT,Nat.reduceEqDiff,decide_eq_false h0];first|exact fin_ret hb rfl rfl List.take_length ⟨rfl,rfl⟩|exact fin_ret hb rfl rfl List.take_left ⟨rfl,rfl⟩
 have e1:oneE splE (fldS c) x d bd=exprC splE (fldS c) bd x.ex:=by unfold oneE;rw[if_neg k3,if_neg k6,if_neg k5]
 have hve:validE x.ex=0:=by have:=shape_body hsh;rw[if_neg k3,if_neg k6,if_neg k5]at this;exact this
 rw[e1];have hx:=fun σ=>asked_fun x.ex c bd (by omega) (vars_ok _ (validE_err hve)) hc hbd σ;simp only[vex_eq,dstrs]at hx;simp -dsimp -implicitDefEqProofs only[aw,slots0,V.copy,V.lend,V.lend1,V.cells,V.boxable,Nat.reduceLeDiff,eq_self,reduceIte,reduceCtorEq,Nat.reduceBEq,Nat.reduceLT,Nat.reduceEqDiff,Nat.reduceAdd,vit_eq,decide_eq_false k3,decide_eq_false k6,decide_eq_false k5];refine fun_ret (hx _) ?_;simp -dsimp -implicitDefEqProofs only[aw,V.copy,eq_self,reduceIte,Nat.reduceBEq,Nat.reduceLT,Nat.reduceEqDiff];first|exact fin_ret hb rfl rfl List.take_length ⟨rfl,rfl⟩|exact fin_ret hb rfl rfl List.take_left ⟨rfl,rfl⟩
theorem bnd_len(x:It)(bd:List ByteArray):(bnd x bd).length≤bd.length+1:=by
 unfold bnd;split<;>simp
set_option maxHeartbeats 2000000 in
theorem rcheck_list(c:Cl)(hc:c.fields.length≤1000000):∀l:List It,ibigs l≤1000000→∀(d:Nat),rvl l d=0→∀(bd:List ByteArray),bd.length+ibigs l≤1000000→∀σ,Fun G 39 [.d (ditl l),vcl c,.d (dstrs bd)] σ (RetV (.d (dint (wkE (oneE splE (fldS c)) l d bd))) σ):=by
 refine its_ind2 fun l ih hs d hv bd hbd σ=>?_;have hln:=ibigs_len l;refine fun_code Tryz.func39 k39 rfl fun hb hw=>?_;delta c39 oM oV kI kS kT kF;simp -dsimp -implicitDefEqProofs only[aw,slots0,V.copy,V.cells,V.boxable,eq_self,reduceIte,reduceCtorEq,Nat.reduceBEq,Nat.reduceLT,Nat.reduceEqDiff,Nat.reduceAdd];refine awp_for (R:=fun(j:Nat) ρ σ'=>ρ=[(0,.d (ditl l)),(2,.d (dstrs bd)),(4,.ptr σ.length 0),(7,vint .i64 j)]∧σ'=σ++[clsC c]∧wkE (oneE splE (fldS c)) l d bd=wkE (oneE splE (fldS c)) (l.drop j) d bd) l.length ⟨rfl,rfl,rfl⟩ ?_ _;rintro j ρ' σ' hj ⟨rfl,rfl,hr⟩;by_cases hlt:j<l.length
 ·rw[List.drop_eq_getElem_cons hlt,wkE_cons]at hr;obtain⟨i1,i2⟩:=ih _ (List.getElem_mem hlt);have hm:=ibigs_mem (List.getElem_mem hlt);have hxx:l[j]? = some l[j]:=List.getElem?_eq_getElem hlt;obtain⟨s1,s2,s3⟩:=vldX_mem hv (List.getElem_mem hlt);generalize l[j]=x at hr i1 i2 hm hxx s1 s2 s3;have hbx:=ibig_eq x;have hbl:=bnd_len x bd;have hon:=fun σ=>rone_fun x c d bd (by omega) s1 hc (by omega) σ;have hin:=fun σ=>inner_fun x bd (by omega) σ;have h1:=fun σ=>i1 (by omega) (d+1) s2 (bnd x bd) (by omega) σ;have h2:=fun σ=>i2 (by omega) (d+1) s3 bd (by omega) σ;rw[chk_any splE (fldS c) x.items (dep x d) (d+1),chk_any splE (fldS c) x.els (dep x d) (d+1)]at hr;have wj:=wrap_nat hlt (show l.length≤9223372036854775807 by omega);simp only[vit_eq]at hon hin
  simp -dsimp -implicitDefEqProofs only[aw,V.copy,V.lend,V.lend1,Nat.reduceLeDiff,eq_self,reduceIte,reduceCtorEq,Nat.reduceBEq,Nat.reduceLT,Nat.reduceEqDiff,Nat.reduceAdd,Int.ofNat_lt,hlt,decide_true,hxx,dit_eq x];refine calm_ret (hon _) ?_;by_cases q1:oneE splE (fldS c) x d bd=0
  case neg=>
   rw[if_neg q1]at hr;rw[hr];simp -dsimp -implicitDefEqProofs only[aw,V.copy,eq_self,reduceIte,reduceCtorEq,Nat.reduceBEq,Nat.reduceLT,Nat.reduceEqDiff,decide_eq_false q1];first|exact fin_ret hb rfl rfl List.take_length ⟨rfl,rfl⟩|exact fin_ret hb rfl rfl List.take_left ⟨rfl,rfl⟩
  rw[if_pos q1]at hr;simp -dsimp -implicitDefEqProofs only[aw,V.copy,V.lend,V.lend1,Nat.reduceLeDiff,eq_self,reduceIte,reduceCtorEq,Nat.reduceBEq,Nat.reduceLT,Nat.reduceEqDiff,Nat.reduceAdd,q1,decide_true,hxx,dit_eq x];refine calm_ret (hin _) ?_;simp -dsimp -implicitDefEqProofs only[aw,V.lend,V.lend1,eq_self,reduceIte,reduceCtorEq,Nat.reduceLT,Nat.reduceEqDiff];refine calm_ret (h1 _) ?_;by_cases q2:wkE (oneE splE (fldS c)) x.items (d+1) (bnd x bd)=0
  case neg=>
   rw[if_neg q2]at hr;rw[hr];simp -dsimp -implicitDefEqProofs only[aw,V.copy,eq_self,reduceIte,reduceCtorEq,Nat.reduceBEq,Nat.reduceLT,Nat.reduceEqDiff,decide_eq_false q2];first|exact fin_ret hb rfl rfl List.take_length ⟨rfl,rfl⟩|exact fin_ret hb rfl rfl List.take_left ⟨rfl,rfl⟩
  rw[if_pos q2]at hr;simp -dsimp -implicitDefEqProofs only[aw,V.copy,V.lend,V.lend1,Nat.reduceLeDiff,eq_self,reduceIte,reduceCtorEq,Nat.reduceBEq,Nat.reduceLT,Nat.reduceEqDiff,Nat.reduceAdd,q2,decide_true,hxx,dit_eq x];refine calm_ret (h2 _) ?_;by_cases q3:wkE (oneE splE (fldS c)) x.els (d+1) bd=0
  case neg=>
   rw[if_neg q3]at hr;rw[hr];simp -dsimp -implicitDefEqProofs only[aw,V.copy,eq_self,reduceIte,reduceCtorEq,Nat.reduceBEq,Nat.reduceLT,Nat.reduceEqDiff,decide_eq_false q3];first|exact fin_ret hb rfl rfl List.take_length ⟨rfl,rfl⟩|exact fin_ret hb rfl rfl List.take_left ⟨rfl,rfl⟩
  rw[if_pos q3]at hr;simp -dsimp -implicitDefEqProofs only[aw,V.copy,eq_self,reduceIte,reduceCtorEq,Nat.reduceBEq,Nat.reduceLT,Nat.reduceEqDiff,q3,decide_true,wj];exact⟨hlt,Nxt.same (by simp) (boxesBelow_app hb rfl) (by simp[slotsBelow,V.under]) ⟨rfl,rfl,hr⟩⟩
 ·rw[List.drop_eq_nil_of_le (by omega),wkE_nil]at hr;rw[hr];simp -dsimp -implicitDefEqProofs only[aw,V.copy,eq_self,reduceIte,reduceCtorEq,Nat.reduceBEq,Nat.reduceLT,Nat.reduceEqDiff,Int.ofNat_lt,hlt,decide_false];first|exact fin_ret hb rfl rfl List.take_length ⟨rfl,rfl⟩|exact fin_ret hb rfl rfl List.take_left ⟨rfl,rfl⟩
theorem rcheck_item(l:List It)(c:Cl)(hl:ibigs l≤900000)(hc:c.fields.length≤1000000)(σ:List (List V)):Fun G 13 [.d (ditl l),vcl c] σ (RetV (.d (dint (checkI splE (fldS c) l))) σ):=by
 refine fun_code Tryz.func13 k13 rfl fun hb hw=>?_;delta c13 oM oV kI kS kT kF;unfold checkI;simp -dsimp -implicitDefEqProofs only[aw,slots0,V.copy,V.lend,V.cells,V.boxable,eq_self,ne_eq,reduceIte,reduceCtorEq,Nat.reduceBEq,Nat.reduceLT,Nat.reduceEqDiff];refine fun_ret (rvalid_item l hl _) ?_;by_cases h0:validI l=0
 ·rw[if_neg (by simp[h0])]
  have hv:rvl l 0=0:=by
   unfold validI at h0;split at h0
   ·cases h0
   ·exact h0
  have hch:=fun σ=>rcheck_list c hc l (by omega) 0 hv [] (by simp;omega) σ;simp only[dstrs,List.map_nil]at hch;simp -dsimp -implicitDefEqProofs only[aw,V.copy,V.lend,V.lend1,Nat.reduceLeDiff,eq_self,reduceIte,reduceCtorEq,Nat.reduceBEq,Nat.reduceLT,Nat.reduceEqDiff,Nat.reduceAdd,h0,decide_true];refine fun_ret (hch _) ?_;simp -dsimp -implicitDefEqProofs only[aw,V.copy,eq_self,reduceIte,reduceCtorEq,Nat.reduceBEq,Nat.reduceLT,Nat.reduceEqDiff];first|exact fin_ret hb rfl rfl List.take_length ⟨rfl,rfl⟩|exact fin_ret hb rfl rfl List.take_left ⟨rfl,rfl⟩
 ·rw[if_pos h0];simp -dsimp -implicitDefEqProofs only[aw,V.copy,eq_self,reduceIte,reduceCtorEq,Nat.reduceBEq,Nat.reduceLT,Nat.reduceEqDiff,decide_eq_false h0];first|exact fin_ret hb rfl rfl List.take_length ⟨rfl,rfl⟩|exact fin_ret hb rfl rfl List.take_left ⟨rfl,rfl⟩
end Go.Proofs.YthoebpnbhgmoiaaGreatDoor
