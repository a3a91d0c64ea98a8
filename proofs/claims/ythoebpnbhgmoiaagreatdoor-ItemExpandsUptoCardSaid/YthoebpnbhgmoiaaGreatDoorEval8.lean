import Derived.Test.YthoebpnbhgmoiaaGreatDoorOper8
import Derived.Test.YthoebpnbhgmoiaaGreatDoorBrief
import Derived.Test.YthoebpnbhgmoiaaGreatDoorReplE
set_option linter.unusedVariables false
set_option linter.unusedSimpArgs false
set_option linter.unusedSectionVars false
namespace Go.Proofs.YthoebpnbhgmoiaaGreatDoor
open Go.RowKit
theorem wf_sigs{env:List Sig}(h:V.Wf (.d (dsigs env))):∀j (hj:j<env.length),I64 env[j].val:=by
 intro j hj;unfold dsigs at h;cases h with
 | d h=>
 cases h with
 | sl _ hl h=>
 have:=h j 1 (by simpa using hj) (by simp);simp only[List.getElem_map,List.getElem_cons_succ,List.getElem_cons_zero]at this;cases this with
 | lit _ hf=>simpa[I64,Fits,IntKind.min,IntKind.max,IntKind.signed,IntKind.bits]using hf
theorem rfind_fun(env:List Sig)(s:ByteArray)(σ:List (List V)):Fun G 129 [.d (dsigs env),.d (dstr s)] σ (RetV (.tup [.d (dint ((findS env s).getD 0)),.d (.lit (.bool (findS env s).isSome))]) σ):=by
 refine fun_code Tryz.func129 k129 rfl fun hb hw=>?_;have hvals:=wf_sigs (hw 0 (by simp));have hm:=wf_len (hw 0 (by simp));rw[List.length_map]at hm;delta c129 oM oV kI kS kT kF;simp -dsimp -implicitDefEqProofs only[aw,slots0,V.copy,eq_self,reduceIte,reduceCtorEq,Nat.reduceBEq,Nat.reduceLT,Nat.reduceEqDiff,dsigs];refine awp_for (R:=fun(j:Nat) ρ σ'=>ρ=[(0,.d (dsigs env)),(1,.d (dstr s)),(6,vint .i64 j)]∧σ'=σ∧findS env s=findS (env.drop j) s) env.length ⟨rfl,rfl,rfl⟩ ?_ _;rintro j ρ' σ' hj ⟨rfl,rfl,hrec⟩;by_cases hlt:j<env.length
 ·have hst:findS (env.drop j) s=if env[j].name=s then some (env[j].val%65536)else findS (env.drop (j+1)) s:=by rw[List.drop_eq_getElem_cons hlt];rfl
  by_cases hs:env[j].name=s
  ·simp -dsimp -implicitDefEqProofs only[aw,V.copy,V.lend,Nat.reduceLeDiff,eq_self,reduceIte,reduceCtorEq,Nat.reduceBEq,Nat.reduceLT,Nat.reduceEqDiff,Nat.reduceAdd,dsigs,Int.ofNat_lt,hlt,decide_true,List.getElem?_eq_getElem hlt,decide_eq_true hs];refine fun_ret (r2wrap_fun _ (hvals j hlt) _) ?_;simp -dsimp -implicitDefEqProofs only[aw,V.copy,eq_self,reduceIte,reduceCtorEq,Nat.reduceBEq,Nat.reduceLT,Nat.reduceEqDiff];exact fin_ret (v:=.tup _) hb rfl rfl List.take_length ⟨by rw[hrec,hst,if_pos hs];rfl,rfl⟩
  ·simp -dsimp -implicitDefEqProofs only[aw,V.copy,Nat.reduceLeDiff,eq_self,reduceIte,reduceCtorEq,Nat.reduceBEq,Nat.reduceLT,Nat.reduceEqDiff,Nat.reduceAdd,dsigs,Int.ofNat_lt,hlt,decide_true,List.getElem?_eq_getElem hlt,decide_eq_false hs,wrap_nat hlt hm];exact Nxt.same (by simp) hb rfl ⟨rfl,rfl,by rw[hrec,hst,if_neg hs]⟩
 ·simp -dsimp -implicitDefEqProofs only[aw,V.copy,eq_self,reduceIte,reduceCtorEq,Nat.reduceBEq,Nat.reduceLT,Nat.reduceEqDiff,dsigs,Int.ofNat_lt,hlt,decide_false];exact fin_ret (v:=.tup _) hb rfl rfl List.take_length ⟨by rw[hrec,List.drop_of_length_le (by omega)];rfl,rfl⟩
theorem digit_sub(i:Nat)(hi:i<8):subV true 0 (V.d (D.lit (Value.string ⟨#[48,49,50,51,52,53,54,55,56,57]⟩))) (some (V.d (dint i))) (some (vint .i64 (IntKind.i64.wrap ((i:Int)+1))))=some (.d (dstr ⟨#[(48+i).toUInt8]⟩)):=by
 have:i=0∨i=1∨i=2∨i=3∨i=4∨i=5∨i=6∨i=7:=by omega
 rcases this with rfl|rfl|rfl|rfl|rfl|rfl|rfl|rfl<;>rfl
theorem digit_fun(i:Nat)(hi:i<8)(σ:List (List V)):Fun G 95 [.d (dint i)] σ (RetV (.d (dstr ⟨#[(48+i).toUInt8]⟩)) σ):=by
 refine fun_code Tryz.func95 k95 rfl fun hb hw=>?_;delta c95 oM oV kI kS kT kF;simp -dsimp -implicitDefEqProofs only[aw,slots0,V.copy,eq_self,reduceIte,reduceCtorEq,Nat.reduceBEq,Nat.reduceLT,Nat.reduceEqDiff,digit_sub i hi];exact fin_ret hb rfl rfl List.take_length ⟨rfl,rfl⟩
theorem relem_fun(a:ByteArray)(h:a.size≤1000)(i:Nat)(hi:i<8)(σ:List (List V)):Fun G 55 [.d (dstr a),.d (dint i)] σ (RetV (.d (dstr (elemName a i))) σ):=by
 refine fun_code Tryz.func55 k55 rfl fun hb hw=>?_;delta c55 oM oV kI kS kT kF;simp -dsimp -implicitDefEqProofs only[aw,slots0,V.copy,eq_self,reduceIte,reduceCtorEq,Nat.reduceBEq,Nat.reduceLT,Nat.reduceEqDiff];rw[if_pos (by simp only[ByteArray.size,List.size_toArray,List.length_cons,List.length_nil]at h ⊢;omega)];simp -dsimp -implicitDefEqProofs only[aw,V.copy,V.lend,eq_self,reduceIte,reduceCtorEq,Nat.reduceLT,Nat.reduceEqDiff];refine fun_ret (digit_fun i hi _) ?_;simp -dsimp -implicitDefEqProofs only[aw,eq_self,reduceIte,reduceCtorEq,Nat.reduceLT,Nat.reduceEqDiff];have e1:(a++⟨#[91]⟩:ByteArray).size=a.size+1:=by rw[ByteArray.size_append];rfl
 have e2:(a++⟨#[91]⟩++⟨#[(48+i).toUInt8]⟩:ByteArray).size=a.size+2:=by rw[ByteArray.size_append,e1];rfl
 have e3:(⟨#[(48+i).toUInt8]⟩:ByteArray).size=1:=rfl;have e4:(⟨#[93]⟩:ByteArray).size=1:=rfl;rw[if_pos (by rw[e1,e3];omega)];simp -dsimp -implicitDefEqProofs only[aw,eq_self,reduceIte,reduceCtorEq,Nat.reduceLT,Nat.reduceEqDiff];rw[if_pos (by rw[e2,e4];omega)];simp -dsimp -implicitDefEqProofs only[aw,V.copy,eq_self,reduceIte,reduceCtorEq,Nat.reduceBEq,Nat.reduceLT,Nat.reduceEqDiff]
 exact fin_ret hb rfl rfl List.take_length ⟨by
  have:a++⟨#[91]⟩++⟨#[(48+i).toUInt8]⟩++⟨#[93]⟩=elemName a i:=by
   unfold elemName;apply ByteArray.ext;apply Array.ext';simp
  rw[←this];rfl,rfl⟩
theorem relement_fun(env:List Sig)(a:ByteArray)(h:a.size≤1000)(i:Int)(σ:List (List V)):Fun G 130 [.d (dsigs env),.d (dstr a),.d (dint i)] σ (RetV (.d (dint ((atS env a i).getD 0))) σ):=by
 refine fun_code Tryz.func130 k130 rfl fun hb hw=>?_;delta c130 oM oV kI kS kT kF;by_cases h1:i<0
 ·simp -dsimp -implicitDefEqProofs only[aw,slots0,V.copy,V.lend,eq_self,reduceIte,reduceCtorEq,Nat.reduceBEq,Nat.reduceLT,Nat.reduceEqDiff,Nat.reduceAdd,dsigs,decide_eq_true h1];exact fin_ret hb rfl rfl List.take_length ⟨by unfold atS;rw[if_neg (by omega)];rfl,rfl⟩
 ·by_cases h2:8≤i
  ·simp -dsimp -implicitDefEqProofs only[aw,slots0,V.copy,V.lend,cond_false,eq_self,reduceIte,reduceCtorEq,Nat.reduceBEq,Nat.reduceLT,Nat.reduceEqDiff,Nat.reduceAdd,dsigs,decide_eq_false h1,decide_eq_true h2];exact fin_ret hb rfl rfl List.take_length ⟨by unfold atS;rw[if_neg (by omega)];rfl,rfl⟩
  ·obtain⟨k,rfl⟩:=Int.eq_ofNat_of_zero_le (show 0≤i by omega);simp -dsimp -implicitDefEqProofs only[aw,slots0,V.copy,V.lend,cond_false,eq_self,reduceIte,reduceCtorEq,Nat.reduceBEq,Nat.reduceLT,Nat.reduceEqDiff,Nat.reduceAdd,decide_eq_false h1,decide_eq_false h2];refine fun_ret (relem_fun a h k (by omega) _) ?_;simp -dsimp -implicitDefEqProofs only[aw,V.lend,eq_self,reduceIte,reduceCtorEq,Nat.reduceLT,Nat.reduceEqDiff];refine fun_ret (rfind_fun env _ _) ?_;simp -dsimp -implicitDefEqProofs only[aw,V.copy,eq_self,reduceIte,reduceCtorEq,Nat.reduceBEq,Nat.reduceLT,Nat.reduceEqDiff];exact fin_ret hb rfl rfl List.take_length ⟨by unfold atS;rw[if_pos (by omega)];rfl,rfl⟩
theorem named_fun(op:Int)(σ:List (List V)):Fun G 128 [.d (dint op)] σ (RetV (.d (.lit (.bool (namedB op)))) σ):=by
 refine fun_code Tryz.func128 k128 rfl fun hb hw=>?_;delta c128 oM oV kI kS kT kF;by_cases h2:op=2
 ·simp -dsimp -implicitDefEqProofs only[aw,slots0,V.copy,eq_self,reduceIte,reduceCtorEq,Nat.reduceBEq,Nat.reduceLT,Nat.reduceEqDiff,decide_eq_true h2];exact fin_ret hb rfl rfl List.take_length ⟨by unfold namedB;rw[decide_eq_true h2];rfl,rfl⟩
 by_cases h3:op=3
 ·simp -dsimp -implicitDefEqProofs only[aw,slots0,V.copy,cond_false,eq_self,reduceIte,reduceCtorEq,Nat.reduceBEq,Nat.reduceLT,Nat.reduceEqDiff,decide_eq_false h2,decide_eq_true h3];exact fin_ret hb rfl rfl List.take_length ⟨by unfold namedB;rw[decide_eq_false h2,decide_eq_true h3];rfl,rfl⟩
 ·simp -dsimp -implicitDefEqProofs only[aw,slots0,V.copy,cond_false,eq_self,reduceIte,reduceCtorEq,Nat.reduceBEq,Nat.reduceLT,Nat.reduceEqDiff,decide_eq_false h2,decide_eq_false h3];exact fin_ret hb rfl rfl List.take_length ⟨by unfold namedB;rw[decide_eq_false h2,decide_eq_false h3];rfl,rfl⟩
theorem asks_fun(op:Int)(σ:List (List V)):Fun G 96 [.d (dint op)] σ (RetV (.d (.lit (.bool (decide (op=1)||namedB op)))) σ):=by
 refine fun_code Tryz.func96 k96 rfl fun hb hw=>?_;delta c96 oM oV kI kS kT kF;by_cases h1:op=1
 ·simp -dsimp -implicitDefEqProofs only[aw,slots0,V.copy,eq_self,reduceIte,reduceCtorEq,Nat.reduceBEq,Nat.reduceLT,Nat.reduceEqDiff,decide_eq_true h1];exact fin_ret hb rfl rfl List.take_length ⟨rfl,rfl⟩
 ·simp -dsimp -implicitDefEqProofs only[aw,slots0,V.copy,V.lend,eq_self,reduceIte,reduceCtorEq,Nat.reduceBEq,Nat.reduceLT,Nat.reduceEqDiff,decide_eq_false h1];refine fun_ret (named_fun _ _) ?_;simp -dsimp -implicitDefEqProofs only[aw,V.copy,cond_false,eq_self,reduceIte,reduceCtorEq,Nat.reduceBEq,Nat.reduceLT,Nat.reduceEqDiff];exact fin_ret hb rfl rfl List.take_length ⟨by rw[decide_eq_false h1,Bool.false_or];rfl,rfl⟩
def leafK(env:List Sig)(o:Int)(s:ByteArray):Bool:=if o=2 then(findS env s).isSome else if o=3∨o=24 then(findS env (elemName s 0)).isSome else true
def leafR(env:List Sig)(o n:Int)(s:ByteArray)(vs:List Int):Int×Int:=if leafK env o s=true then(leafS env o n s vs,0)else(0,7)
theorem leaf_fun(env:List Sig)(e:Ex)(vs:List Int)(ho:e.op=1∨e.op=2∨e.op=3∨e.op=24)(h3:e.op=3→vs.length=1)(hz:e.op=3∨e.op=24→e.name.size≤1000)(σ:List (List V)):
 Fun G 97 [vex e,.d (dsigs env),.d (.sl (vs.map fun x=>[dint x]))] σ (RetV (.tup [.d (dint (leafR env e.op e.num e.name vs).1),.d (dint (leafR env e.op e.num e.name vs).2)]) σ):=by
 refine fun_code Tryz.func97 k97 (by simp only[vex_eq];rfl) fun hb hw=>?_;delta c97 oM oV kI kS kT kF;have fk:∀(b:Bool),leafK env e.op e.name=b→leafR env e.op e.num e.name vs=if b=true then(leafS env e.op e.num e.name vs,0)else(0,7):=fun b h=>by unfold leafR;rw[h]
 rcases ho with ho|ho|ho|ho
 ·simp -dsimp -implicitDefEqProofs only[aw,slots0,V.copy,V.cells,V.boxable,Nat.reduceLeDiff,eq_self,reduceIte,reduceCtorEq,Nat.reduceBEq,Nat.reduceLT,Nat.reduceEqDiff,Nat.reduceAdd,vex_eq,ho,decide_true];exact fin_ret (v:=.tup _) hb rfl rfl List.take_left ⟨rfl,rfl⟩
 ·simp -dsimp -implicitDefEqProofs only[aw,slots0,V.copy,V.lend,V.cells,V.boxable,Nat.reduceLeDiff,eq_self,reduceIte,reduceCtorEq,Nat.reduceBEq,Nat.reduceLT,Nat.reduceEqDiff,Nat.reduceAdd,vex_eq,ho,Int.reduceEq,decide_true,decide_false];refine fun_ret (rfind_fun env _ _) ?_;have hk:leafK env e.op e.name=(findS env e.name).isSome:=by rw[ho];rfl
  have hr:=fk _ hk;cases hf:(findS env e.name).isSome with
  | true=>
   rw[hf]at hr;simp -dsimp -implicitDefEqProofs only[aw,V.copy,eq_self,reduceIte,Nat.reduceBEq,Nat.reduceLT,Nat.reduceEqDiff];exact fin_ret (v:=.tup _) hb rfl rfl List.take_left ⟨by rw[hr,ho];rfl,rfl⟩
  | false=>
   rw[hf]at hr;simp -dsimp -implicitDefEqProofs only[aw,V.copy,eq_self,reduceIte,Nat.reduceBEq,Nat.reduceLT,Nat.reduceEqDiff];exact fin_ret (v:=.tup _) hb rfl rfl List.take_left ⟨by rw[hr,ho];rfl,rfl⟩
 ·have hz':=hz (.inl ho)
  obtain⟨v,rfl⟩:∃v,vs=[v]:=by
   match vs,h3 ho with
   | [v],_=>exact⟨v,rfl⟩
  have e0:iaV 1 (V.d (D.sl [[dint v]])) (V.d (D.lit (Value.int IntKind.i64 0)))=some (.row [dint v] 0):=rfl;simp -dsimp -implicitDefEqProofs only[aw,slots0,V.copy,V.lend,V.cells,V.boxable,Nat.reduceLeDiff,eq_self,reduceIte,reduceCtorEq,Nat.reduceBEq,Nat.reduceLT,Nat.reduceEqDiff,Nat.reduceAdd,vex_eq,ho,Int.reduceEq,decide_false];refine fun_ret (relem_fun e.name hz' 0 (by decide) _) ?_;simp -dsimp -implicitDefEqProofs only[aw,V.lend,eq_self,reduceIte,Nat.reduceLT,Nat.reduceEqDiff];refine fun_ret (rfind_fun env _ _) ?_;have hk:leafK env e.op e.name=(findS env (elemName e.name 0)).isSome:=by rw[ho];rfl
  have hr:=fk _ hk;cases hf:(findS env (elemName e.name 0)).isSome with
  | true=>
   rw[hf]at hr;simp -dsimp -implicitDefEqProofs only[aw,V.copy,V.lend,Nat.reduceLeDiff,eq_self,reduceIte,Nat.reduceBEq,Nat.reduceLT,Nat.reduceEqDiff,Nat.reduceAdd,decide_true,e0];refine calm_ret (relement_fun env e.name hz' v _) ?_;simp -dsimp -implicitDefEqProofs only[aw,V.copy,eq_self,reduceIte,Nat.reduceBEq,Nat.reduceLT,Nat.reduceEqDiff];exact fin_ret (v:=.tup _) hb rfl rfl List.take_left ⟨by rw[hr,ho];rfl,rfl⟩
  | false=>
   rw[hf]at hr;simp -dsimp -implicitDefEqProofs only[aw,V.copy,eq_self,reduceIte,Nat.reduceBEq,Nat.reduceLT,Nat.reduceEqDiff];exact fin_ret (v:=.tup _) hb rfl rfl List.take_left ⟨by rw[hr,ho];rfl,rfl⟩
 ·have hz':=hz (.inr ho);simp -dsimp -implicitDefEqProofs only[aw,slots0,V.copy,V.lend,V.cells,V.boxable,Nat.reduceLeDiff,eq_self,reduceIte,reduceCtorEq,Nat.reduceBEq,Nat.reduceLT,Nat.reduceEqDiff,Nat.reduceAdd,vex_eq,ho,Int.reduceEq,decide_false];refine fun_ret (relem_fun e.name hz' 0 (by decide) _) ?_;simp -dsimp -implicitDefEqProofs only[aw,V.lend,eq_self,reduceIte,Nat.reduceLT,Nat.reduceEqDiff];refine fun_ret (rfind_fun env _ _) ?_;have hk:leafK env e.op e.name=(findS env (elemName e.name 0)).isSome:=by rw[ho];rfl
  have hr:=fk _ hk;cases hf:(findS env (elemName e.name 0)).isSome with
  | true=>
   rw[hf]at hr;simp -dsimp -implicitDefEqProofs only[aw,V.copy,Nat.reduceLeDiff,eq_self,reduceIte,Nat.reduceBEq,Nat.reduceLT,Nat.reduceEqDiff,Nat.reduceAdd,Int.reduceEq,decide_false];refine awp_for (R:=fun(k:Nat) ρ σ'=>ρ=[(1,.d (dsigs env)),(3,.ptr σ.length 0),(12,vint .i64 (sumTo env e.name k)),(13,vint .i64 k)]∧σ'=σ++[[V.d (dint 24),V.d (dint e.num),V.d (dstr e.name),V.d (D.sl (List.map dex e.args))]]) 8 ⟨rfl,rfl⟩ ?_ _;rintro k ρ' σ' hk8 ⟨rfl,rfl⟩;by_cases hlt:k<8
   ·have hat:(atS env e.name k).getD 0=(findS env (elemName e.name k)).getD 0:=by unfold atS;rw[if_pos (by omega)];rfl
    have b1:=sumTo_bd env e.name k;have b2:=find_bd env (elemName e.name k);unfold Wd at b1 b2;simp -dsimp -implicitDefEqProofs only[aw,V.copy,V.lend,Nat.reduceLeDiff,eq_self,reduceIte,Nat.reduceBEq,Nat.reduceLT,Nat.reduceEqDiff,Nat.reduceAdd,decide_eq_true (show(k:Int)<8 by omega)];refine fun_ret (relement_fun env e.name hz' k _) ?_;rw[hat];simp -dsimp -implicitDefEqProofs only[aw,V.lend,eq_self,reduceIte,Nat.reduceLT,Nat.reduceEqDiff];refine fun_ret (r2add_fun _ _ ⟨by omega,by omega⟩ ⟨by omega,by omega⟩ _) ?_;simp -dsimp -implicitDefEqProofs only[aw,V.copy,eq_self,reduceIte,Nat.reduceBEq,Nat.reduceLT,Nat.reduceEqDiff,wrap_nat hlt (show 8≤9223372036854775807 by omega)];exact⟨hlt,Nxt.same (by simp) (boxesBelow_app hb rfl) (by simp[slotsBelow,V.under]) ⟨rfl,rfl⟩⟩
   ·have hje:k=8:=by omega
    subst hje;simp -dsimp -implicitDefEqProofs only[aw,V.copy,eq_self,reduceIte,Nat.reduceBEq,Nat.reduceLT,Nat.reduceEqDiff,decide_eq_false (show ¬((8:Nat):Int)<8 by omega)];exact fin_ret (v:=.tup _) hb rfl rfl List.take_left ⟨by rw[hr,ho];rfl,rfl⟩
  | false=>
   rw[hf]at hr;simp -dsimp -implicitDefEqProofs only[aw,V.copy,eq_self,reduceIte,Nat.reduceBEq,Nat.reduceLT,Nat.reduceEqDiff];exact fin_ret (v:=.tup _) hb rfl rfl List.take_left ⟨by rw[hr,ho];rfl,rfl⟩
mutual
def kB(env:List Sig):Ex→Bool
 | .mk o _ s l=>kBs env l&&leafK env o s
def kBs(env:List Sig):List Ex→Bool
 | []=>true
 | a::r=>kB env a&&kBs env r
end
theorem kB_known(env:List Sig)(e:Ex):kB env e=knownB env e:=by
 rw[Bool.eq_iff_iff,known_iff]
 induction e using Ex.ind with
 | h o m s l ih=>
 have hL:∀(r:List Ex),(∀a,a∈r→a∈l)→(kBs env r=true↔allNs [2] (fun s=>(findS env s).isSome=true) r∧allNs [3,24] (fun s=>(findS env (elemName s 0)).isSome=true) r):=by
  intro r
  induction r with
  | nil=>intro _;simp[kBs,allNs]
  | cons a r ihr=>
   intro hm;simp only[kBs,allNs,Bool.and_eq_true];rw[ih a (hm a (by simp)),ihr (fun x hx=>hm x (by simp[hx]))];constructor
   ·rintro⟨⟨h1,h2⟩,h3,h4⟩;exact⟨⟨h1,h3⟩,h2,h4⟩
   ·rintro⟨⟨h1,h3⟩,h2,h4⟩;exact⟨⟨h1,h2⟩,h3,h4⟩
 simp only[kB,allN,Bool.and_eq_true];rw[hL l (fun _ h=>h)]
 have hk:leafK env o s=true↔(o∈[2]→(findS env s).isSome=true)∧(o∈[3,24]→(findS env (elemName s 0)).isSome=true):=by
  unfold leafK;simp only[List.mem_cons,List.not_mem_nil,or_false];by_cases h2:o=2
  ·simp[h2]
  ·by_cases h3:o=3∨o=24
   ·simp[h2,h3]
   ·simp[h2,h3]
 rw[hk];constructor
 ·rintro⟨⟨h1,h2⟩,h3,h4⟩;exact⟨⟨h3,h1⟩,h4,h2⟩
 ·rintro⟨⟨h3,h1⟩,h4,h2⟩;exact⟨⟨h1,h2⟩,h3,h4⟩
theorem kBs_take(env:List Sig):∀(l:List Ex) (j:Nat) (h:j<l.length),kBs env (l.take (j+1))=(kBs env (l.take j)&&kB env l[j])
 | a::r,0,_=>by simp[kBs]
 | a::r,j+1,h=>by
  have:=kBs_take env r j (by simpa using h);simp only[List.take_succ_cons,kBs,List.getElem_cons_succ,this,Bool.and_assoc]
theorem kBs_false(env:List Sig):∀(l:List Ex) (j:Nat) (h:j<l.length),kB env l[j]=false→kBs env l=false
 | a::r,0,_,hf=>by simp only[List.getElem_cons_zero]at hf;simp[kBs,hf]
 | a::r,j+1,h,hf=>by
  have:=kBs_false env r j (by simpa using h) (by simpa using hf);simp[kBs,this]
def rvalE(env:List Sig)(e:Ex):Int×Int:=if kB env e=true then(valE env e,0)else(0,7)
theorem value_fun(env:List Sig)(e:Ex):errE e=0→esize e≤1000000→∀σ,Fun G 57 [vex e,.d (dsigs env)] σ (RetV (.tup [.d (dint (rvalE env e).1),.d (dint (rvalE env e).2)]) σ):=by
 induction e using Ex.ind with
 | h o n s l ih=>
 intro he hz σ;obtain⟨hnode,herl⟩:=errE_node he;obtain⟨o1,o25,-,hop,hvar,hname,-,-⟩:=node_ok hnode;have hmem:=errL_mem herl;have hll:l.length≤1000000:=by have:=len_le l;simp only[esize]at hz;omega
 have hsz:∀a,a∈l→esize a≤1000000:=by
  intro a ha
  have:∀(r:List Ex),a∈r→esize a≤esizes r:=by
   intro r
   induction r with
   | nil=>intro h;cases h
   | cons b r ihr=>
    intro h;simp only[esizes];rcases List.mem_cons.1 h with rfl|h
    ·omega
    ·have:=ihr h;omega
  have:=this l ha;simp only[esize]at hz;omega
 have hq:rvalE env (.mk o n s l)=if(kBs env l&&leafK env o s)=true then(leafS env o n s (valL env l),0)else(0,7):=by
  unfold rvalE;rw[kB,valE]
 refine fun_code Tryz.func57 k57 (by simp only[vex_eq];rfl) fun hb hw=>?_;delta c57 oM oV kI kS kT kF;simp -dsimp -implicitDefEqProofs only[aw,slots0,V.copy,V.cells,V.boxable,eq_self,reduceIte,reduceCtorEq,Nat.reduceBEq,Nat.reduceLT,Nat.reduceEqDiff,vex_eq];simp only[Ex.op,Ex.num,Ex.name,Ex.args];generalize hτ:σ++[[V.d (dint o),V.d (dint n),V.d (dstr s),V.d (D.sl (List.map dex l))]]=τ;refine awp_for (R:=fun(j:Nat) ρ σ'=>ρ=[(1,.d (dsigs env)),(2,.ptr σ.length 0),(6,.own 3 1 ((valL env (l.take j)).map fun x=>[dint x])),(7,vint .i64 j)]∧σ'=τ∧kBs env (l.take j)=true) l.length ⟨rfl,rfl,by simp[kBs]⟩ ?_ _;rintro j ρ' σ' hj ⟨rfl,rfl,hrec⟩;subst hτ;by_cases hlt:j<l.length
 ·simp -dsimp -implicitDefEqProofs only[aw,V.copy,V.lend,V.lend1,Nat.reduceLeDiff,eq_self,reduceIte,Nat.reduceBEq,Nat.reduceLT,Nat.reduceEqDiff,Nat.reduceAdd,Int.ofNat_lt,hlt,decide_true,List.getElem?_eq_getElem hlt,dex_eq];refine fun_ret (by simpa only[vex_eq]using ih l[j] (List.getElem_mem hlt) (hmem _ (List.getElem_mem hlt)) (hsz _ (List.getElem_mem hlt)) _) ?_;unfold rvalE;cases hk:kB env l[j]with
  | true=>
   have hvl:=valL_len env (l.take j);rw[List.length_take]at hvl;simp -dsimp -implicitDefEqProofs only[aw,V.copy,V.cells,rowsOf,plains,V.plain,eq_self,reduceIte,Nat.reduceBEq,Nat.reduceLT,Nat.reduceEqDiff,if_true,decide_true];refine onT_intro (by omega) ?_;simp -dsimp -implicitDefEqProofs only[aw,V.copy,eq_self,reduceIte,Nat.reduceBEq,Nat.reduceLT,Nat.reduceEqDiff,wrap_nat hlt (show l.length≤9223372036854775807 by omega)];refine⟨hlt,Nxt.same (by simp) (boxesBelow_app hb rfl) (by simp[slotsBelow,V.under]) ⟨?_,rfl,?_⟩⟩
   ·have ht:l.take (j+1)=l.take j++[l[j]]:=by rw[List.take_add_one,List.getElem?_eq_getElem hlt];rfl
    have hv:valL env (l.take j++[l[j]])=valL env (l.take j)++[valE env l[j]]:=by
     generalize l.take j=r
     induction r with
     | nil=>rfl
     | cons a r ihr=>simp only[List.cons_append,valL,ihr]
    rw[ht,hv,List.map_append];rfl
   ·rw[kBs_take env l j hlt,hrec,hk];rfl
  | false=>
   simp -dsimp -implicitDefEqProofs only[aw,V.copy,eq_self,reduceIte,Nat.reduceBEq,Nat.reduceLT,Nat.reduceEqDiff,Int.reduceEq,decide_false];refine fin_ret (v:=.tup _) hb rfl rfl List.take_left ⟨?_,rfl⟩;rw[show kB env (Ex.mk o n s l)=false by rw[kB,kBs_false env l j hlt hk];rfl];rfl
 ·rw[List.take_of_length_le (show l.length≤j by omega)]at hrec;rw[List.take_of_length_le (show l.length≤j by omega)];have hvl:=valL_len env l;have hwd:=valL_bd env l herl;simp -dsimp -implicitDefEqProofs only[aw,V.copy,V.lend,Nat.reduceLeDiff,eq_self,reduceIte,Nat.reduceBEq,Nat.reduceLT,Nat.reduceEqDiff,Nat.reduceAdd,Int.ofNat_lt,hlt,decide_false];refine fun_ret (asks_fun o _) ?_;by_cases hlf:o=1∨o=2∨o=3∨o=24
  ·have has:(decide (o=1)||namedB o)=true:=by rcases hlf with rfl|rfl|rfl|rfl<;>rfl
   rw[has];simp -dsimp -implicitDefEqProofs only[aw,V.copy,V.lend,V.lend1,Nat.reduceLeDiff,eq_self,reduceIte,Nat.reduceBEq,Nat.reduceLT,Nat.reduceEqDiff,Nat.reduceAdd]
   have c3:o=3→(valL env l).length=1:=by
    rintro rfl;rw[hvl];have h3:operB 3 l.length=true:=hop;have:arity 3=1:=by decide
    simp only[operB]at h3;rw[if_neg (by decide)]at h3;simp only[decide_eq_true_eq]at h3;omega
   have cz:o=3∨o=24→s.size≤1000:=fun h=>by have:=nameB_size (hname h);omega
   refine fun_ret (by simpa only[vex_eq,Ex.op,Ex.num,Ex.name,Ex.args]using leaf_fun env (.mk o n s l) (valL env l) hlf c3 cz _) ?_;simp -dsimp -implicitDefEqProofs only[aw,V.copy,eq_self,reduceIte,Nat.reduceBEq,Nat.reduceLT,Nat.reduceEqDiff];refine fin_ret (v:=.tup _) hb rfl rfl List.take_left ⟨?_,rfl⟩;rw[hq,hrec,Bool.true_and];rfl
  ·have hn:¬o=1∧¬o=2∧¬o=3∧¬o=24:=by omega
   obtain⟨n1,n2,n3,n24⟩:=hn;have has:(decide (o=1)||namedB o)=false:=by unfold namedB;simp[n1,n2,n3,n24]
   rw[has];simp -dsimp -implicitDefEqProofs only[aw,V.copy,V.lend,Nat.reduceLeDiff,eq_self,reduceIte,Nat.reduceBEq,Nat.reduceLT,Nat.reduceEqDiff,Nat.reduceAdd];refine fun_ret (operate_fun o (valL env l) (by rw[hvl];exact hop) o1 o25 n1 n2 n3 n24 hwd _) ?_;simp -dsimp -implicitDefEqProofs only[aw,V.copy,eq_self,reduceIte,Nat.reduceBEq,Nat.reduceLT,Nat.reduceEqDiff];refine fin_ret (v:=.tup _) hb rfl rfl List.take_left ⟨?_,rfl⟩;have hlk:leafK env o s=true:=by unfold leafK;rw[if_neg n2,if_neg (by omega)]
   have hls:leafS env o n s (valL env l)=operS o (valL env l):=by unfold leafS;rw[if_neg n1,if_neg n2,if_neg n3,if_neg n24]
   rw[hq,hrec,hlk,hls];rfl
theorem reval_fun(e:Ex)(env:List Sig)(hs:esize e≤1000000)(hd:edepth e≤999999)(σ:List (List V)):Fun G 25 [vex e,.d (dsigs env)] σ (RetV (.tup [.d (dint (evalE e env).1),.d (dint (evalE e env).2)]) σ):=by
 refine fun_code Tryz.func25 k25 (by simp only[vex_eq];rfl) fun hb hw=>?_;delta c25 oM oV kI kS kT kF;simp -dsimp -implicitDefEqProofs only[aw,slots0,V.copy,V.lend,V.lend1,V.cells,V.boxable,Nat.reduceLeDiff,eq_self,reduceIte,reduceCtorEq,Nat.reduceBEq,Nat.reduceLT,Nat.reduceEqDiff,Nat.reduceAdd,vex_eq];refine fun_ret (by simpa only[vex_eq]using fun_rvalid e hs hd _) ?_;by_cases hv:validE e=0
 ·have hq:evalE e env=rvalE env e:=by unfold evalE rvalE;rw[if_pos hv,kB_known]
  simp -dsimp -implicitDefEqProofs only[aw,V.copy,V.lend,V.lend1,Nat.reduceLeDiff,eq_self,reduceIte,Nat.reduceBEq,Nat.reduceLT,Nat.reduceEqDiff,Nat.reduceAdd,decide_eq_true hv];refine fun_ret (by simpa only[vex_eq]using value_fun env e (validE_err hv) hs _) ?_;simp -dsimp -implicitDefEqProofs only[aw,V.copy,eq_self,reduceIte,Nat.reduceBEq,Nat.reduceLT,Nat.reduceEqDiff];exact fin_ret (v:=.tup _) hb rfl rfl List.take_left ⟨by rw[hq];rfl,rfl⟩
 ·have hq:evalE e env=(0,1):=by unfold evalE;rw[if_neg hv]
  simp -dsimp -implicitDefEqProofs only[aw,V.copy,eq_self,reduceIte,Nat.reduceBEq,Nat.reduceLT,Nat.reduceEqDiff,decide_eq_false hv];exact fin_ret (v:=.tup _) hb rfl rfl List.take_left ⟨by rw[hq];rfl,rfl⟩
end Go.Proofs.YthoebpnbhgmoiaaGreatDoor
