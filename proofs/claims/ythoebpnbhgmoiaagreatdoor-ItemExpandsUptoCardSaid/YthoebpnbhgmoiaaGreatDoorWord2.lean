import Derived.Test.YthoebpnbhgmoiaaGreatDoorIs3
import Derived.Test.YthoebpnbhgmoiaaGreatDoorReplE
import Derived.Test.YthoebpnbhgmoiaaGreatDoorClo
import Derived.Test.YthoebpnbhgmoiaaGreatDoorIw4
import Derived.Test.YthoebpnbhgmoiaaGreatDoorBr8
import Derived.Test.YthoebpnbhgmoiaaGreatDoorEnv
set_option linter.unusedVariables false
set_option linter.unusedSimpArgs false
set_option linter.unusedSectionVars false
namespace Go.Proofs.YthoebpnbhgmoiaaGreatDoor
open Go.RowKit
theorem fsz_drop(c:Cl)(s:ByteArray){j:Nat}(h:j<c.fields.length):fsz ((fldS c).drop j) s=if c.fields[j].name=s then some c.fields[j].size else fsz ((fldS c).drop (j+1)) s:=by
 have h':j<(fldS c).length:=by unfold fldS;simpa using h
 have he:(fldS c)[j]=(c.fields[j].name,c.fields[j].size):=by simp[fldS]
 rw[List.drop_eq_getElem_cons h',he];unfold fsz;rw[List.find?_cons];by_cases e:c.fields[j].name=s
 ·rw[if_pos e];simp[e]
 ·rw[if_neg e];simp[e]
theorem wi{x:Int}(h1 : -9223372036854775808≤x)(h2:x≤9223372036854775807):IntKind.i64.wrap x=x:=by rw[IntKind.wrap_i64];omega
def I64(x:Int):Prop:=-9223372036854775808≤x∧x≤9223372036854775807
theorem tmod_cases(n m:Int)(hm:0<m):(0≤n∧n.tmod m=n%m)∨(n<0∧n.tmod m = -((-n)%m)):=by
 by_cases h:0≤n
 ·exact .inl ⟨h,Int.tmod_eq_emod_of_nonneg h⟩
 ·refine .inr ⟨by omega,?_⟩;have:=Int.neg_tmod (-n) m;rw[Int.neg_neg]at this;rw[this,Int.tmod_eq_emod_of_nonneg (by omega)]
theorem nz65536:((65536:Int)=0)=False:=eq_false (by decide)
theorem nz2:((2:Int)=0)=False:=eq_false (by decide)
theorem r2wrap_fun(n:Int)(h:I64 n)(σ:List (List V)):Fun G 147 [.d (dint n)] σ (RetV (.d (dint (n%65536))) σ):=by
 unfold I64 at h;refine fun_code Tryz.func147 k147 rfl fun hb hw=>?_;delta c147 oM oV kI kS kT kF;have hm:=tmod_cases n 65536 (by decide);have e1:IntKind.i64.wrap (n.tmod 65536)=n.tmod 65536:=wi (by omega) (by omega);simp -dsimp -implicitDefEqProofs only[aw,slots0,V.copy,eq_self,reduceIte,reduceCtorEq,Nat.reduceBEq,Nat.reduceLT,Nat.reduceEqDiff,nz65536];refine iteT_intro (fun h1=>?_) (fun h1=>?_)
 ·simp only[decide_eq_true_eq]at h1;have e2:IntKind.i64.wrap (n.tmod 65536+65535)=n.tmod 65536+65535:=wi (by omega) (by omega);have e3:IntKind.i64.wrap (n.tmod 65536+65535+1)=n%65536:=by rw[wi (by omega) (by omega)];omega
  simp -dsimp -implicitDefEqProofs only[aw,V.copy,eq_self,reduceIte,reduceCtorEq,Nat.reduceBEq,Nat.reduceLT,Nat.reduceEqDiff,e2,e3];exact fin_ret hb rfl rfl List.take_length ⟨rfl,rfl⟩
 ·simp only[decide_eq_false_iff_not]at h1;have e2:n.tmod 65536=n%65536:=by omega
  simp -dsimp -implicitDefEqProofs only[aw,V.copy,eq_self,reduceIte,reduceCtorEq,Nat.reduceBEq,Nat.reduceLT,Nat.reduceEqDiff,e2];exact fin_ret hb rfl rfl List.take_length ⟨rfl,rfl⟩
theorem r2add_fun(a b:Int)(ha:I64 a)(hb':I64 b)(σ:List (List V)):Fun G 131 [.d (dint a),.d (dint b)] σ (RetV (.d (dint ((a+b)%65536))) σ):=by
 refine fun_code Tryz.func131 k131 rfl fun hb hw=>?_;delta c131 oM oV kI kS kT kF;simp -dsimp -implicitDefEqProofs only[aw,slots0,V.copy,V.lend,eq_self,reduceIte,reduceCtorEq,Nat.reduceBEq,Nat.reduceLT,Nat.reduceEqDiff];refine fun_ret (r2wrap_fun a ha _) ?_;simp -dsimp -implicitDefEqProofs only[aw,V.copy,V.lend,eq_self,reduceIte,reduceCtorEq,Nat.reduceLT,Nat.reduceEqDiff];refine fun_ret (r2wrap_fun b hb' _) ?_;have e1:IntKind.i64.wrap (a%65536+b%65536)=a%65536+b%65536:=wi (by omega) (by omega);simp -dsimp -implicitDefEqProofs only[aw,V.lend,eq_self,reduceIte,reduceCtorEq,Nat.reduceLT,Nat.reduceEqDiff,e1];refine fun_ret (r2wrap_fun _ ⟨by omega,by omega⟩ _) ?_;have e2:(a%65536+b%65536)%65536=(a+b)%65536:=by omega
 simp -dsimp -implicitDefEqProofs only[aw,V.copy,eq_self,reduceIte,reduceCtorEq,Nat.reduceBEq,Nat.reduceLT,Nat.reduceEqDiff,e2];exact fin_ret hb rfl rfl List.take_length ⟨rfl,rfl⟩
theorem r2sub_fun(a b:Int)(ha:I64 a)(hb':I64 b)(σ:List (List V)):Fun G 152 [.d (dint a),.d (dint b)] σ (RetV (.d (dint ((a-b)%65536))) σ):=by
 refine fun_code Tryz.func152 k152 rfl fun hb hw=>?_;delta c152 oM oV kI kS kT kF;simp -dsimp -implicitDefEqProofs only[aw,slots0,V.copy,V.lend,eq_self,reduceIte,reduceCtorEq,Nat.reduceBEq,Nat.reduceLT,Nat.reduceEqDiff];refine fun_ret (r2wrap_fun a ha _) ?_;simp -dsimp -implicitDefEqProofs only[aw,V.copy,V.lend,eq_self,reduceIte,reduceCtorEq,Nat.reduceLT,Nat.reduceEqDiff];refine fun_ret (r2wrap_fun b hb' _) ?_;have e1:IntKind.i64.wrap (a%65536-b%65536)=a%65536-b%65536:=wi (by omega) (by omega);simp -dsimp -implicitDefEqProofs only[aw,V.lend,eq_self,reduceIte,reduceCtorEq,Nat.reduceLT,Nat.reduceEqDiff,e1];refine fun_ret (r2wrap_fun _ ⟨by omega,by omega⟩ _) ?_;have e2:(a%65536-b%65536)%65536=(a-b)%65536:=by omega
 simp -dsimp -implicitDefEqProofs only[aw,V.copy,eq_self,reduceIte,reduceCtorEq,Nat.reduceBEq,Nat.reduceLT,Nat.reduceEqDiff,e2];exact fin_ret hb rfl rfl List.take_length ⟨rfl,rfl⟩
theorem mod_mul_le{a b:Int}:0≤(a%65536)*(b%65536)∧(a%65536)*(b%65536)≤65536*65536:=by
 have h1:0≤a%65536:=by omega
 have h2:a%65536≤65536:=by omega
 have h3:0≤b%65536:=by omega
 have h4:b%65536≤65536:=by omega
 exact⟨Int.mul_nonneg h1 h3,Int.mul_le_mul h2 h4 h3 (by omega)⟩
theorem r2mul_fun(a b:Int)(ha:I64 a)(hb':I64 b)(σ:List (List V)):Fun G 153 [.d (dint a),.d (dint b)] σ (RetV (.d (dint ((a*b)%65536))) σ):=by
 have hm:=mod_mul_le (a:=a) (b:=b);refine fun_code Tryz.func153 k153 rfl fun hb hw=>?_;delta c153 oM oV kI kS kT kF;simp -dsimp -implicitDefEqProofs only[aw,slots0,V.copy,V.lend,eq_self,reduceIte,reduceCtorEq,Nat.reduceBEq,Nat.reduceLT,Nat.reduceEqDiff];refine fun_ret (r2wrap_fun a ha _) ?_;simp -dsimp -implicitDefEqProofs only[aw,V.copy,V.lend,eq_self,reduceIte,reduceCtorEq,Nat.reduceLT,Nat.reduceEqDiff];refine fun_ret (r2wrap_fun b hb' _) ?_;have e1:IntKind.i64.wrap (a%65536*(b%65536))=a%65536*(b%65536):=wi (by omega) (by omega);simp -dsimp -implicitDefEqProofs only[aw,V.lend,eq_self,reduceIte,reduceCtorEq,Nat.reduceLT,Nat.reduceEqDiff,e1];refine fun_ret (r2wrap_fun _ ⟨by omega,by omega⟩ _) ?_;have e2:(a%65536*(b%65536))%65536=(a*b)%65536:=(Int.mul_emod a b 65536).symm
 simp -dsimp -implicitDefEqProofs only[aw,V.copy,eq_self,reduceIte,reduceCtorEq,Nat.reduceBEq,Nat.reduceLT,Nat.reduceEqDiff,e2];exact fin_ret hb rfl rfl List.take_length ⟨rfl,rfl⟩
theorem r2neg_fun(a:Int)(ha:I64 a)(σ:List (List V)):Fun G 150 [.d (dint a)] σ (RetV (.d (dint ((-a)%65536))) σ):=by
 refine fun_code Tryz.func150 k150 rfl fun hb hw=>?_;delta c150 oM oV kI kS kT kF;simp -dsimp -implicitDefEqProofs only[aw,slots0,V.copy,V.lend,eq_self,reduceIte,reduceCtorEq,Nat.reduceBEq,Nat.reduceLT];refine fun_ret (r2wrap_fun a ha _) ?_;have e1:IntKind.i64.wrap (0-a%65536)=0-a%65536:=wi (by omega) (by omega);simp -dsimp -implicitDefEqProofs only[aw,V.lend,eq_self,reduceIte,reduceCtorEq,Nat.reduceLT,Nat.reduceEqDiff,e1];refine fun_ret (r2wrap_fun _ ⟨by omega,by omega⟩ _) ?_;have e2:(0-a%65536)%65536=(-a)%65536:=by omega
 simp -dsimp -implicitDefEqProofs only[aw,V.copy,eq_self,reduceIte,reduceCtorEq,Nat.reduceBEq,Nat.reduceLT,Nat.reduceEqDiff,e2];exact fin_ret hb rfl rfl List.take_length ⟨rfl,rfl⟩
theorem r2inv_fun(a:Int)(ha:I64 a)(σ:List (List V)):Fun G 149 [.d (dint a)] σ (RetV (.d (dint (65535-a%65536))) σ):=by
 refine fun_code Tryz.func149 k149 rfl fun hb hw=>?_;delta c149 oM oV kI kS kT kF;simp -dsimp -implicitDefEqProofs only[aw,slots0,V.copy,V.lend,eq_self,reduceIte,reduceCtorEq,Nat.reduceBEq,Nat.reduceLT];refine fun_ret (r2wrap_fun a ha _) ?_;have e1:IntKind.i64.wrap (65535-a%65536)=65535-a%65536:=wi (by omega) (by omega);simp -dsimp -implicitDefEqProofs only[aw,V.copy,eq_self,reduceIte,reduceCtorEq,Nat.reduceBEq,Nat.reduceLT,Nat.reduceEqDiff,e1];exact fin_ret hb rfl rfl List.take_length ⟨rfl,rfl⟩
theorem pow_le16{n:Nat}(h:n≤16):1≤(2:Int)^n∧(2:Int)^n≤65536:=by
 have:∀n,n≤16→1≤(2:Int)^n∧(2:Int)^n≤65536:=by decide
 exact this n h
theorem r2power_fun(n:Nat)(h:n≤16)(σ:List (List V)):Fun G 167 [.d (dint n)] σ (RetV (.d (dint (2^n))) σ):=by
 refine fun_code Tryz.func167 k167 rfl fun hb hw=>?_;delta c167 oM oV kI kS kT kF;simp -dsimp -implicitDefEqProofs only[aw,slots0,V.copy,eq_self,reduceIte,reduceCtorEq,Nat.reduceBEq,Nat.reduceLT,Nat.reduceEqDiff];refine awp_for (R:=fun(j:Nat) ρ σ'=>ρ=[(0,.d (dint n)),(3,vint .i64 (2^j)),(4,vint .i64 j)]∧σ'=σ) n ⟨rfl,rfl⟩ ?_ _;rintro j ρ' σ' hj ⟨rfl,rfl⟩;by_cases hlt:j<n
 ·have hp:=pow_le16 (show j+1≤16 by omega);have e1:IntKind.i64.wrap (2*2^j)=2^(j+1):=by rw[Int.pow_succ]at hp ⊢;rw[wi (by omega) (by omega)];omega
  simp -dsimp -implicitDefEqProofs only[aw,V.copy,eq_self,reduceIte,reduceCtorEq,Nat.reduceBEq,Nat.reduceLT,Nat.reduceEqDiff,Int.ofNat_lt,hlt,decide_true,e1,wrap_nat hlt (show n≤9223372036854775807 by omega)];exact Nxt.same (by simp) hb rfl ⟨rfl,rfl⟩
 ·have hje:j=n:=by omega
  subst hje;simp -dsimp -implicitDefEqProofs only[aw,V.copy,eq_self,reduceIte,reduceCtorEq,Nat.reduceBEq,Nat.reduceLT,Nat.reduceEqDiff,Int.ofNat_lt,hlt,decide_false];exact fin_ret hb rfl rfl List.take_length ⟨rfl,rfl⟩
end Go.Proofs.YthoebpnbhgmoiaaGreatDoor
