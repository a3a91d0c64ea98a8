import Derived.Test.YthoebpnbhgmoiaaGreatDoorIe3
set_option linter.unusedVariables false
set_option linter.unusedSimpArgs false
set_option linter.unusedSectionVars false
namespace Go.Proofs.YthoebpnbhgmoiaaGreatDoor
open Go.RowKit
theorem mres_fsz(fs:List (ByteArray×Int))(s:ByteArray):mres false (V.d (D.lit (Value.int IntKind.i64 0))) ((fsz fs s).map fun n=>V.d (dint n))=.d (.lit (.int .i64 (fszI fs s))):=by
 unfold fszI;cases fsz fs s<;>rfl
theorem iax0(a:Ex)(r:List (List D)):iaV 4 (V.d (.sl ([dint a.op,dint a.num,dstr a.name,.sl (a.args.map dex)]::r))) (V.d (D.lit (Value.int IntKind.i64 0)))=some (.row [dint a.op,dint a.num,dstr a.name,.sl (a.args.map dex)] 0):=rfl
theorem SOk_eq(fs:List (ByteArray×Int))(e:Ex):SOk fs e↔(e.op=3∨e.op=24→1≤fszI fs e.name∧fszI fs e.name≤8∧nameB e.name=true)∧(e.op=3→∃a,e.args=[a])∧(e.op=1∨e.op=24→e.args=[])∧(e.op=1→e.name=⟨#[]⟩)∧(e.op=2→e.name≠⟨#[]⟩)∧SOkL fs e.args:=by
 cases e;rw[SOk];rfl
theorem cstE_eq(fs:List (ByteArray×Int))(e:Ex):cstE fs e=if e.op=1 then some e.num else if e.op=3 then(match cstL fs e.args with|some i=>if fszI fs e.name≤i then some 0 else none|none=>none)else none:=by cases e;rw[cstE];rfl
theorem psE_eq(fs:List (ByteArray×Int))(e:Ex):psE fs e=if e.op=24 then 2*fszN fs e.name-1 else if e.op=3 then(if(cstL fs e.args).isSome=true then 1 else min (fszN fs e.name*(psL fs e.args 0+4)+1) 401)else min (psL fs e.args 0+1) 401:=by cases e;rw[psE];rfl
abbrev vcst(c:Option Int):V:=.tup [.d (dint (c.getD 0)),vbool c.isSome]
set_option maxHeartbeats 2000000 in
theorem constant_fun(i:Nat)(fs:List (ByteArray×Int))(e:Ex):SOk fs e→∀σ,FB σ i fs→Fun G 85 [.mp i,vex e] σ (RetV (vcst (cstE fs e)) σ):=by
 induction e using Ex.ind3 with
 | h e ih=>
 intro hs σ h;rw[SOk_eq]at hs;refine fun_code Tryz.func85 k85 (by simp only[vex_eq];rfl) fun hb hw=>?_;delta c85 oM oV kI kS kT kF;by_cases o1:e.op=1
 ·have hres:cstE fs e=some e.num:=by rw[cstE_eq,if_pos o1]
  rw[hres];simp -dsimp -implicitDefEqProofs only[aw,slots0,V.copy,V.cells,V.boxable,Nat.reduceLeDiff,eq_self,reduceIte,reduceCtorEq,Nat.reduceBEq,Nat.reduceLT,Nat.reduceEqDiff,Nat.reduceAdd,vex_eq,o1,decide_true];first|exact fin_ret hb rfl rfl List.take_length ⟨rfl,rfl⟩|exact fin_ret hb rfl rfl List.take_left ⟨rfl,rfl⟩
 by_cases o3:e.op=3
 ·obtain⟨a,ha⟩:=hs.2.1 o3;have hSa:SOk fs a:=(SOkL_mem fs).1 hs.2.2.2.2.2 a (by simp[ha]);have hcl:cstL fs e.args=cstE fs a:=by rw[ha,cstL]
  have hc:=fun σ h=>ih a (by simp[ha]) hSa σ h;simp only[vex_eq]at hc;simp -dsimp -implicitDefEqProofs only[aw,slots0,V.copy,V.lend,V.lend1,V.cells,V.boxable,Nat.reduceLeDiff,eq_self,reduceIte,reduceCtorEq,Nat.reduceBEq,Nat.reduceLT,Nat.reduceEqDiff,Nat.reduceAdd,vex_eq,o3,ha,Int.reduceEq,decide_true,decide_false,dex_eq a,iax0];refine fun_ret (hc _ (h.app _)) ?_;cases hca:cstE fs a with
  | none=>
   have hres:cstE fs e=none:=by rw[cstE_eq,if_neg o1,if_pos o3,hcl,hca]
   rw[hres];simp -dsimp -implicitDefEqProofs only[aw,V.copy,eq_self,reduceIte,reduceCtorEq,Nat.reduceBEq,Nat.reduceLT,Nat.reduceEqDiff,Option.getD_none,Option.isSome_none];first|exact fin_ret hb rfl rfl List.take_length ⟨rfl,rfl⟩|exact fin_ret hb rfl rfl List.take_left ⟨rfl,rfl⟩
  | some c=>
   by_cases hle:fszI fs e.name≤c
   ·have hres:cstE fs e=some 0:=by rw[cstE_eq,if_neg o1,if_pos o3,hcl,hca];exact if_pos hle
    rw[hres];simp -dsimp -implicitDefEqProofs only[aw,V.copy,Nat.reduceLeDiff,cond_true,eq_self,reduceIte,reduceCtorEq,Nat.reduceBEq,Nat.reduceLT,Nat.reduceEqDiff,Nat.reduceAdd,Option.getD_some,Option.isSome_some,h.at2,mget_kvF,mres_fsz,decide_eq_true hle];first|exact fin_ret hb rfl rfl List.take_length ⟨rfl,rfl⟩|exact fin_ret hb rfl rfl List.take_left ⟨rfl,rfl⟩
   ·have hres:cstE fs e=none:=by rw[cstE_eq,if_neg o1,if_pos o3,hcl,hca];exact if_neg hle
    rw[hres];simp -dsimp -implicitDefEqProofs only[aw,V.copy,Nat.reduceLeDiff,cond_true,eq_self,reduceIte,reduceCtorEq,Nat.reduceBEq,Nat.reduceLT,Nat.reduceEqDiff,Nat.reduceAdd,Option.getD_some,Option.isSome_some,h.at2,mget_kvF,mres_fsz,decide_eq_false hle];first|exact fin_ret hb rfl rfl List.take_length ⟨rfl,rfl⟩|exact fin_ret hb rfl rfl List.take_left ⟨rfl,rfl⟩
 have hres:cstE fs e=none:=by rw[cstE_eq,if_neg o1,if_neg o3]
 rw[hres];simp -dsimp -implicitDefEqProofs only[aw,slots0,V.copy,V.cells,V.boxable,Nat.reduceLeDiff,eq_self,reduceIte,reduceCtorEq,Nat.reduceBEq,Nat.reduceLT,Nat.reduceEqDiff,Nat.reduceAdd,vex_eq,decide_eq_false o1,decide_eq_false o3];first|exact fin_ret hb rfl rfl List.take_length ⟨rfl,rfl⟩|exact fin_ret hb rfl rfl List.take_left ⟨rfl,rfl⟩
theorem psL_take(fs:List (ByteArray×Int)):∀(l:List Ex) (s:Nat) {j:Nat} (h:j<l.length),psL fs (l.take (j+1)) s=min (psL fs (l.take j) s+psE fs l[j]) 401:=by
 intro l
 induction l with
 | nil=>intro s j h;simp at h
 | cons a r ih=>
  intro s j h;cases j with
  | zero=>simp only[List.take_succ_cons,List.take_zero,psL,List.getElem_cons_zero]
  | succ j=>simp only[List.take_succ_cons,psL,List.getElem_cons_succ];exact ih _ (by simpa using h)
theorem psL_le(fs:List (ByteArray×Int))(l:List Ex)(s:Nat)(hs:s≤401):psL fs l s≤401:=by
 induction l generalizing s with
 | nil=>exact hs
 | cons a r ih=>rw[psL];exact ih _ (by omega)
theorem psE_le(fs:List (ByteArray×Int))(hf:∀s,fszI fs s≤8)(e:Ex):psE fs e≤401:=by
 rw[psE_eq];split
 ·have:=hf e.name;unfold fszN;unfold fszI at this;omega
 ·split
  ·split<;>omega
  ·omega
set_option maxHeartbeats 4000000 in
theorem psize_fun(i:Nat)(fs:List (ByteArray×Int))(hf:∀s,fszI fs s≤8)(e:Ex):SOk fs e→esize e≤1000000→∀σ,FB σ i fs→Fun G 49 [.mp i,vex e] σ (RetV (.d (dint (psE fs e:Nat))) σ):=by
 induction e using Ex.ind3 with
 | h e ih=>
 intro hs hsz σ h;have he:=esize_eq e;have hln:=len_le e.args;have hil:=h.lt;have hs':=hs;rw[SOk_eq]at hs';refine fun_code Tryz.func49 k49 (by simp only[vex_eq];rfl) fun hb hw=>?_;delta c49 oM oV kI kS kT kF;by_cases o24:e.op=24
 ·obtain⟨g1,g2,-⟩:=hs'.1 (.inr o24);have hn:=fszN_I fs g1;have w1:IntKind.i64.wrap (2*fszI fs e.name)=2*fszI fs e.name:=wrap_i64 (by omega) (by omega);have w2:IntKind.i64.wrap (2*fszI fs e.name-1)=((2*fszN fs e.name-1:Nat):Int):=by rw[wrap_i64 (by omega) (by omega)];omega
  have hres:psE fs e=2*fszN fs e.name-1:=by rw[psE_eq,if_pos o24]
  rw[hres];simp -dsimp -implicitDefEqProofs only[aw,slots0,V.copy,V.cells,V.boxable,Nat.reduceLeDiff,eq_self,reduceIte,reduceCtorEq,Nat.reduceBEq,Nat.reduceLT,Nat.reduceEqDiff,Nat.reduceAdd,vex_eq,o24,decide_true,h.at2,mget_kvF,mres_fsz,w1,w2];first|exact fin_ret hb rfl rfl List.take_length ⟨rfl,rfl⟩|exact fin_ret hb rfl rfl List.take_left ⟨rfl,rfl⟩
 simp -dsimp -implicitDefEqProofs only[aw,slots0,V.copy,V.cells,V.boxable,Nat.reduceLeDiff,eq_self,reduceIte,reduceCtorEq,Nat.reduceBEq,Nat.reduceLT,Nat.reduceEqDiff,Nat.reduceAdd,vex_eq,decide_eq_false o24];refine awp_for (R:=fun(j:Nat) ρ σ'=>ρ=[(0,.mp i),(3,.ptr σ.length 0),(5,vint .i64 (psL fs (e.args.take j) 0:Nat)),(20,.d (.sl (e.args.map dex))),(21,vint .i64 e.args.length),(22,vint .i64 j)]∧σ'=σ++[[.d (dint e.op),.d (dint e.num),.d (dstr e.name),.d (.sl (e.args.map dex))]]) e.args.length ⟨rfl,rfl⟩ ?_ _;rintro j ρ' σ' hj ⟨rfl,rfl⟩;by_cases hlt:j<e.args.length
 ·have ht:=psL_take fs e.args 0 hlt;have hel:=args_size (List.getElem_mem hlt);have hps:=psL_le fs (e.args.take j) 0 (by omega);have hpe:=psE_le fs hf e.args[j];have hc:=fun σ h=>ih e.args[j] (List.getElem_mem hlt) ((SOkL_mem fs).1 hs'.2.2.2.2.2 _ (List.getElem_mem hlt)) (by omega) σ h;simp only[vex_eq]at hc;have hxx:e.args[j]? = some e.args[j]:=List.getElem?_eq_getElem hlt;generalize e.args[j]=a at hc hxx ht hpe hel;have wj:=wrap_nat hlt (show e.args.length≤9223372036854775807 by omega);have w1:IntKind.i64.wrap ((psL fs (e.args.take j) 0:Nat)+(psE fs a:Nat):Int)=((psL fs (e.args.take j) 0+psE fs a:Nat):Int):=by rw[wrap_i64 (by omega) (by omega)];omega
  have w2:min (((psL fs (e.args.take j) 0+psE fs a:Nat)):Int) 401=((min (psL fs (e.args.take j) 0+psE fs a) 401:Nat):Int):=by omega
  simp -dsimp -implicitDefEqProofs only[aw,V.copy,V.lend,V.lend1,V.cells,V.boxable,over,Nat.reduceLeDiff,eq_self,reduceIte,reduceCtorEq,Nat.reduceBEq,Nat.reduceLT,Nat.reduceEqDiff,Nat.reduceAdd,Int.ofNat_lt,hlt,decide_true,hxx,dex_eq a];refine fun_ret (hc _ (h.app _)) ?_;simp -dsimp -implicitDefEqProofs only[aw,V.copy,eq_self,reduceIte,reduceCtorEq,Nat.reduceBEq,Nat.reduceLT,Nat.reduceEqDiff,w1,w2,wj,if_false];exact⟨hlt,Nxt.drop1 (by simp) (boxesBelow_app hb rfl) (by simp[slotsBelow,V.under];omega) ⟨by rw[ht],rfl⟩⟩
 ·have hps:=psL_le fs e.args 0 (by omega);have hps0:=psL_le fs (e.args.take j) 0 (by omega);have hall:e.args.take j=e.args:=List.take_of_length_le (by omega);rw[hall];by_cases o3:e.op=3
  ·obtain⟨a,ha⟩:=hs'.2.1 o3;have hSa:SOk fs a:=(SOkL_mem fs).1 hs'.2.2.2.2.2 a (by simp[ha]);obtain⟨g1,g2,-⟩:=hs'.1 (.inl o3);have hn:=fszN_I fs g1;have hc:=fun σ h=>constant_fun i fs a hSa σ h;simp only[vex_eq]at hc;have hcl:cstL fs e.args=cstE fs a:=by rw[ha,cstL]
   have hres0:psE fs e=if(cstE fs a).isSome=true then 1 else min (fszN fs e.name*(psL fs e.args 0+4)+1) 401:=by rw[psE_eq,if_neg o24,if_pos o3,hcl]
   generalize psL fs e.args 0=P at hps hres0;have hlt1:¬j<1:=by rw[ha]at hlt;simpa using hlt
   simp -dsimp -implicitDefEqProofs only[aw,V.copy,V.lend,V.lend1,Nat.reduceLeDiff,eq_self,reduceIte,reduceCtorEq,Nat.reduceBEq,Nat.reduceLT,Nat.reduceEqDiff,Nat.reduceAdd,Int.ofNat_lt,decide_eq_false hlt1,o3,decide_true,ha,dex_eq a,iax0];refine fun_ret (hc _ (h.app _)) ?_;cases hca:cstE fs a with
   | some c=>
    have hres:psE fs e=1:=by rw[hres0,hca];exact if_pos rfl
    rw[hres];simp -dsimp -implicitDefEqProofs only[aw,V.copy,eq_self,reduceIte,reduceCtorEq,Nat.reduceBEq,Nat.reduceLT,Nat.reduceEqDiff,Option.isSome_some];first|exact fin_ret hb rfl rfl List.take_length ⟨rfl,rfl⟩|exact fin_ret hb rfl rfl List.take_left ⟨rfl,rfl⟩
   | none=>
    have hres:psE fs e=min (fszN fs e.name*(P+4)+1) 401:=by rw[hres0,hca];exact if_neg (by simp)
    rw[hres];have w1:IntKind.i64.wrap ((P:Int)+4)=((P+4:Nat):Int):=by rw[wrap_i64 (by omega) (by omega)];omega
    have hmul:fszN fs e.name*(P+4)≤8*405:=Nat.mul_le_mul (by omega) (by omega)
    have w2:IntKind.i64.wrap (fszI fs e.name*((P+4:Nat):Int))=((fszN fs e.name*(P+4):Nat):Int):=by
     rw[←hn,←Int.natCast_mul,wrap_i64 (by omega) (by omega)]
    generalize fszN fs e.name*(P+4)=M at w2 hmul;have w3:IntKind.i64.wrap ((M:Int)+1)=((M+1:Nat):Int):=by rw[wrap_i64 (by omega) (by omega)];omega
    have w4:min ((M+1:Nat):Int) 401=((min (M+1) 401:Nat):Int):=by omega
    simp -dsimp -implicitDefEqProofs only[aw,V.copy,Nat.reduceLeDiff,eq_self,reduceIte,reduceCtorEq,Nat.reduceBEq,Nat.reduceLT,Nat.reduceEqDiff,Nat.reduceAdd,Option.isSome_none,h.at2,mget_kvF,mres_fsz,w1,w2,w3,w4,if_false];first|exact fin_ret hb rfl rfl List.take_length ⟨rfl,rfl⟩|exact fin_ret hb rfl rfl List.take_left ⟨rfl,rfl⟩
  ·have hres:psE fs e=min (psL fs e.args 0+1) 401:=by rw[psE_eq,if_neg o24,if_neg o3]
   rw[hres];have w1:IntKind.i64.wrap ((psL fs e.args 0:Nat)+1:Int)=((psL fs e.args 0+1:Nat):Int):=by rw[wrap_i64 (by omega) (by omega)];omega
   have w2:min (((psL fs e.args 0+1:Nat)):Int) 401=((min (psL fs e.args 0+1) 401:Nat):Int):=by omega
   simp -dsimp -implicitDefEqProofs only[aw,V.copy,Nat.reduceLeDiff,eq_self,reduceIte,reduceCtorEq,Nat.reduceBEq,Nat.reduceLT,Nat.reduceEqDiff,Nat.reduceAdd,Int.ofNat_lt,hlt,decide_false,decide_eq_false o3,w1,w2,if_false];first|exact fin_ret hb rfl rfl List.take_length ⟨rfl,rfl⟩|exact fin_ret hb rfl rfl List.take_left ⟨rfl,rfl⟩
end Go.Proofs.YthoebpnbhgmoiaaGreatDoor
