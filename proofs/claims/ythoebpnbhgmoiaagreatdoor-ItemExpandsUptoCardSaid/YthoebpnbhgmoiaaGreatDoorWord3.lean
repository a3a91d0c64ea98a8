import Derived.Test.YthoebpnbhgmoiaaGreatDoorWord2
set_option linter.unusedVariables false
set_option linter.unusedSimpArgs false
set_option linter.unusedSectionVars false
namespace Go.Proofs.YthoebpnbhgmoiaaGreatDoor
open Go.RowKit
theorem r2shl_fun(x:Nat)(hx:x<65536)(n:Int)(σ:List (List V)):Fun G 157 [.d (dint x),.d (dint n)] σ (RetV (.d (dint (shlS x n))) σ):=by
 refine fun_code Tryz.func157 k157 rfl fun hb hw=>?_;delta c157 oM oV kI kS kT kF;by_cases h1:n<0
 ·simp -dsimp -implicitDefEqProofs only[aw,slots0,V.copy,V.lend,eq_self,reduceIte,reduceCtorEq,Nat.reduceBEq,Nat.reduceLT,Nat.reduceEqDiff,decide_eq_true h1];exact fin_ret hb rfl rfl List.take_length ⟨by unfold shlS;rw[if_pos (by omega)];rfl,rfl⟩
 ·by_cases h2:15<n
  ·simp -dsimp -implicitDefEqProofs only[aw,slots0,V.copy,V.lend,cond_false,eq_self,reduceIte,reduceCtorEq,Nat.reduceBEq,Nat.reduceLT,Nat.reduceEqDiff,decide_eq_false h1,decide_eq_true h2];exact fin_ret hb rfl rfl List.take_length ⟨by unfold shlS;rw[if_pos (by omega)];rfl,rfl⟩
  ·simp -dsimp -implicitDefEqProofs only[aw,slots0,V.copy,V.lend,cond_false,eq_self,reduceIte,reduceCtorEq,Nat.reduceBEq,Nat.reduceLT,Nat.reduceEqDiff,decide_eq_false h1,decide_eq_false h2];refine fun_ret (r2wrap_fun _ ⟨by omega,by omega⟩ _) ?_;obtain⟨k,rfl⟩:=Int.eq_ofNat_of_zero_le (show 0≤n by omega);have hp:=pow_le16 (show k≤16 by omega);have hm:=Int.mul_le_mul (show(x:Int)≤65536 by omega) hp.2 (by omega) (by omega);have hm0:=Int.mul_nonneg (show(0:Int)≤x by omega) (show(0:Int)≤2^k by omega);have e0:(x:Int)%65536=x:=by omega
   simp -dsimp -implicitDefEqProofs only[aw,V.copy,V.lend,eq_self,reduceIte,reduceCtorEq,Nat.reduceLT,Nat.reduceEqDiff,e0];refine fun_ret (r2power_fun k (by omega) _) ?_;have e1:IntKind.i64.wrap ((x:Int)*2^k)=x*2^k:=wi (by omega) (by omega);simp -dsimp -implicitDefEqProofs only[aw,V.lend,eq_self,reduceIte,reduceCtorEq,Nat.reduceLT,Nat.reduceEqDiff,e1];refine fun_ret (r2wrap_fun _ ⟨by omega,by omega⟩ _) ?_;simp -dsimp -implicitDefEqProofs only[aw,V.copy,eq_self,reduceIte,reduceCtorEq,Nat.reduceBEq,Nat.reduceLT,Nat.reduceEqDiff];exact fin_ret hb rfl rfl List.take_length ⟨by unfold shlS;rw[if_neg (by omega)];rfl,rfl⟩
theorem r2shr_fun(x:Nat)(hx:x<65536)(n:Int)(σ:List (List V)):Fun G 158 [.d (dint x),.d (dint n)] σ (RetV (.d (dint (shrS x n))) σ):=by
 refine fun_code Tryz.func158 k158 rfl fun hb hw=>?_;delta c158 oM oV kI kS kT kF;by_cases h1:n<0
 ·simp -dsimp -implicitDefEqProofs only[aw,slots0,V.copy,V.lend,eq_self,reduceIte,reduceCtorEq,Nat.reduceBEq,Nat.reduceLT,Nat.reduceEqDiff,decide_eq_true h1];exact fin_ret hb rfl rfl List.take_length ⟨by unfold shrS;rw[if_pos (by omega)];rfl,rfl⟩
 ·by_cases h2:15<n
  ·simp -dsimp -implicitDefEqProofs only[aw,slots0,V.copy,V.lend,cond_false,eq_self,reduceIte,reduceCtorEq,Nat.reduceBEq,Nat.reduceLT,Nat.reduceEqDiff,decide_eq_false h1,decide_eq_true h2];exact fin_ret hb rfl rfl List.take_length ⟨by unfold shrS;rw[if_pos (by omega)];rfl,rfl⟩
  ·simp -dsimp -implicitDefEqProofs only[aw,slots0,V.copy,V.lend,cond_false,eq_self,reduceIte,reduceCtorEq,Nat.reduceBEq,Nat.reduceLT,Nat.reduceEqDiff,decide_eq_false h1,decide_eq_false h2];refine fun_ret (r2wrap_fun _ ⟨by omega,by omega⟩ _) ?_;obtain⟨k,rfl⟩:=Int.eq_ofNat_of_zero_le (show 0≤n by omega);have hp:=pow_le16 (show k≤16 by omega);have e0:(x:Int)%65536=x:=by omega
   have hd0:0≤(x:Int)/2^k:=Int.ediv_nonneg (by omega) (by omega);have hd1:(x:Int)/2^k≤x:=Int.ediv_le_self _ (by omega);have hz:((2:Int)^k=0)=False:=eq_false (by omega);simp -dsimp -implicitDefEqProofs only[aw,V.copy,V.lend,eq_self,reduceIte,reduceCtorEq,Nat.reduceLT,Nat.reduceEqDiff,e0];refine fun_ret (r2power_fun k (by omega) _) ?_;have e1:IntKind.i64.wrap ((x:Int).tdiv (2^k))=x/2^k:=by rw[Int.tdiv_eq_ediv_of_nonneg (by omega)];exact wi (by omega) (by omega)
   simp -dsimp -implicitDefEqProofs only[aw,V.copy,eq_self,reduceIte,reduceCtorEq,Nat.reduceBEq,Nat.reduceLT,Nat.reduceEqDiff,e1,hz];exact fin_ret hb rfl rfl List.take_length ⟨by unfold shrS;rw[if_neg (by omega)];rfl,rfl⟩
theorem r2bit_fun(x:Nat)(hx:x<65536)(i:Nat)(hi:i<16)(σ:List (List V)):Fun G 165 [.d (dint x),.d (dint i)] σ (RetV (.d (dint (x/2^i%2:Nat))) σ):=by
 refine fun_code Tryz.func165 k165 rfl fun hb hw=>?_;delta c165 oM oV kI kS kT kF;simp -dsimp -implicitDefEqProofs only[aw,slots0,V.copy,V.lend,eq_self,reduceIte,reduceCtorEq,Nat.reduceBEq,Nat.reduceLT,Nat.reduceEqDiff];refine fun_ret (r2shr_fun x hx i _) ?_;have e0:shrS x i=((x/2^i:Nat):Int):=by unfold shrS;rw[if_neg (by omega)];simp
 have e1:IntKind.i64.wrap (((x/2^i:Nat):Int).tmod 2)=((x/2^i%2:Nat):Int):=by
  have h1:x/2^i≤x:=Nat.div_le_self _ _;generalize x/2^i=y at h1;rw[Int.tmod_eq_emod_of_nonneg (by omega)];rw[wi (by omega) (by omega)];omega
 simp -dsimp -implicitDefEqProofs only[aw,V.copy,eq_self,reduceIte,reduceCtorEq,Nat.reduceBEq,Nat.reduceLT,Nat.reduceEqDiff,e0,nz2];exact fin_ret hb rfl rfl List.take_length ⟨rfl,rfl⟩
theorem popc_step:∀(j x:Nat),popc (j+1) x=popc j x+x/2^j%2
 | 0,x=>by simp[popc]
 | j+1,x=>by
  have:=popc_step j (x/2);have e:x/2/2^j=x/2^(j+1):=by rw[Nat.div_div_eq_div_mul,Nat.pow_succ,Nat.mul_comm]
  rw[popc,this,e,popc];omega
theorem r2ones_fun(x:Nat)(hx:x<65536)(σ:List (List V)):Fun G 151 [.d (dint x)] σ (RetV (.d (dint (popc 16 x:Nat))) σ):=by
 refine fun_code Tryz.func151 k151 rfl fun hb hw=>?_;delta c151 oM oV kI kS kT kF;simp -dsimp -implicitDefEqProofs only[aw,slots0,V.copy,eq_self,reduceIte,reduceCtorEq,Nat.reduceBEq,Nat.reduceLT,Nat.reduceEqDiff];refine awp_for (R:=fun(j:Nat) ρ σ'=>ρ=[(0,.d (dint x)),(3,vint .i64 (popc j x:Nat)),(4,vint .i64 j)]∧σ'=σ) 16 ⟨rfl,rfl⟩ ?_ _;rintro j ρ' σ' hj ⟨rfl,rfl⟩;by_cases hlt:j<16
 ·have hp:=popc_le j x;have e1:IntKind.i64.wrap ((popc j x:Nat)+(x/2^j%2:Nat))=((popc (j+1) x:Nat):Int):=by rw[popc_step,wi (by omega) (by omega)];omega
  simp -dsimp -implicitDefEqProofs only[aw,V.copy,V.lend,eq_self,reduceIte,reduceCtorEq,Nat.reduceBEq,Nat.reduceLT,Nat.reduceEqDiff,decide_eq_true (show(j:Int)<16 by omega)];refine fun_ret (r2bit_fun x hx j hlt _) ?_;simp -dsimp -implicitDefEqProofs only[aw,V.copy,eq_self,reduceIte,reduceCtorEq,Nat.reduceBEq,Nat.reduceLT,Nat.reduceEqDiff,e1,wrap_nat hlt (show 16≤9223372036854775807 by omega)];exact⟨hlt,Nxt.same (by simp) hb rfl ⟨rfl,rfl⟩⟩
 ·have hje:j=16:=by omega
  subst hje;simp -dsimp -implicitDefEqProofs only[aw,V.copy,V.lend,eq_self,reduceIte,reduceCtorEq,Nat.reduceBEq,Nat.reduceLT,Nat.reduceEqDiff,decide_eq_false (show ¬((16:Nat):Int)<16 by omega)];exact fin_ret hb rfl rfl List.take_length ⟨rfl,rfl⟩
def hib(p:Nat→Bool):Nat→Nat
 | 0=>0
 | k+1=>2*hib p k+(p (15-k)).toNat
theorem hib_lt(p:Nat→Bool):∀k,hib p k<2^k
 | 0=>by simp[hib]
 | k+1=>by have:=hib_lt p k;have h2:(p (15-k)).toNat≤1:=Bool.toNat_le _;rw[hib,Nat.pow_succ];omega
theorem hib_eq(p:Nat→Bool)(z:Nat)(hz:z<65536)(hp:∀i,i<16→p i=z.testBit i):hib p 16=z:=by
 have H:∀k,k≤16→hib p k=z/2^(16-k):=by
  intro k
  induction k with
  | zero=>intro _;rw[hib,Nat.sub_zero,Nat.div_eq_of_lt hz]
  | succ k ih=>
   intro hk;rw[hib,ih (by omega),hp _ (by omega)];have e:16-k=(16-(k+1))+1:=by omega
   have e2:15-k=16-(k+1):=by omega
   rw[e2,e,Nat.pow_succ,←Nat.div_div_eq_div_mul,Nat.testBit_eq_decide_div_mod_eq];generalize z/2^(16-(k+1))=y;by_cases h:y%2=1
   ·rw[decide_eq_true h];simp only[Bool.toNat_true];omega
   ·rw[decide_eq_false h];simp only[Bool.toNat_false];omega
 rw[H 16 (Nat.le_refl _)];simp
def bitP(x y:Nat)(low high:Int)(i:Nat):Bool:=decide (low≤((x/2^i%2:Nat):Int)+(y/2^i%2:Nat))&&decide (((x/2^i%2:Nat):Int)+(y/2^i%2:Nat)≤high)
set_option maxHeartbeats 1000000 in
theorem r2bits_fun(x y:Nat)(hx:x<65536)(hy:y<65536)(low high:Int)(σ:List (List V)):Fun G 166 [.d (dint x),.d (dint y),.d (dint low),.d (dint high)] σ (RetV (.d (dint (hib (bitP x y low high) 16:Nat))) σ):=by
 refine fun_code Tryz.func166 k166 rfl fun hb hw=>?_;delta c166 oM oV kI kS kT kF;simp -dsimp -implicitDefEqProofs only[aw,slots0,V.copy,eq_self,reduceIte,reduceCtorEq,Nat.reduceBEq,Nat.reduceLT,Nat.reduceEqDiff,Nat.reduceAdd];refine awp_for (R:=fun(k:Nat) ρ σ'=>ρ=[(0,.d (dint x)),(1,.d (dint y)),(2,.d (dint low)),(3,.d (dint high)),(9,vint .i64 (hib (bitP x y low high) k:Nat)),(10,vint .i64 (15-k))]∧σ'=σ) 16 ⟨rfl,rfl⟩ ?_ _;rintro k ρ' σ' hk ⟨rfl,rfl⟩;by_cases hlt:k<16
 ·have hlh:=hib_lt (bitP x y low high) k
  have hpk:2^k≤65536:=by have:∀k,k<16→2^k≤65536:=by decide
                         exact this k hlt
  have ei:(15-(k:Int))=((15-k:Nat):Int):=by omega
  have hs:hib (bitP x y low high) (k+1)=2*hib (bitP x y low high) k+(bitP x y low high (15-k)).toNat:=rfl;have hbp:bitP x y low high (15-k)=(decide (low≤((x/2^(15-k)%2:Nat):Int)+(y/2^(15-k)%2:Nat))&&decide (((x/2^(15-k)%2:Nat):Int)+(y/2^(15-k)%2:Nat)≤high)):=rfl;have hp:x/2^(15-k)%2≤1:=by omega
  have hq:y/2^(15-k)%2≤1:=by omega
  simp -dsimp -implicitDefEqProofs only[aw,V.copy,V.lend,eq_self,reduceIte,reduceCtorEq,Nat.reduceBEq,Nat.reduceLT,Nat.reduceEqDiff,ei,decide_eq_true (show(0:Int)≤((15-k:Nat):Int)by omega)];refine fun_ret (r2bit_fun x hx (15-k) (by omega) _) ?_;simp -dsimp -implicitDefEqProofs only[aw,V.copy,V.lend,eq_self,reduceIte,reduceCtorEq,Nat.reduceLT,Nat.reduceEqDiff];refine fun_ret (r2bit_fun y hy (15-k) (by omega) _) ?_;generalize x/2^(15-k)%2=p at hp hbp;generalize y/2^(15-k)%2=q at hq hbp;generalize hz:hib (bitP x y low high) k=z at hlh hs;generalize hz2:hib (bitP x y low high) (k+1)=z2 at hs;have e1:IntKind.i64.wrap ((p:Int)+q)=p+q:=wi (by omega) (by omega);have e2:IntKind.i64.wrap (2*(z:Int))=2*z:=wi (by omega) (by omega);have e3:IntKind.i64.wrap (2*(z:Int)+1)=2*z+1:=wi (by omega) (by omega)
  have e4:IntKind.i64.wrap (((15-k:Nat):Int)-1)=15-((k+1:Nat):Int):=by rw[wi (by omega) (by omega)];omega
  by_cases h1:low≤(p:Int)+q
  ·by_cases h2:(p:Int)+q≤high
   ·rw[decide_eq_true h1,decide_eq_true h2]at hbp;rw[hbp]at hs;have e5:(2*(z:Int)+1)=(z2:Int):=by rw[hs];simp
    have e6:IntKind.i64.wrap (z2:Int)=z2:=wi (by omega) (by omega);simp -dsimp -implicitDefEqProofs only[aw,V.copy,cond_true,eq_self,reduceIte,reduceCtorEq,Nat.reduceBEq,Nat.reduceLT,Nat.reduceEqDiff,e1,e2,e4,decide_eq_true h1,decide_eq_true h2,e5,e6];exact⟨hlt,Nxt.same (by simp) hb rfl ⟨rfl,rfl⟩⟩
   ·rw[decide_eq_true h1,decide_eq_false h2]at hbp;rw[hbp]at hs;have e5:(2*(z:Int))=(z2:Int):=by rw[hs];simp
    have e6:IntKind.i64.wrap (z2:Int)=z2:=wi (by omega) (by omega);simp -dsimp -implicitDefEqProofs only[aw,V.copy,cond_true,eq_self,reduceIte,reduceCtorEq,Nat.reduceBEq,Nat.reduceLT,Nat.reduceEqDiff,e1,e4,decide_eq_true h1,decide_eq_false h2,e5,e6];exact⟨hlt,Nxt.same (by simp) hb rfl ⟨rfl,rfl⟩⟩
  ·rw[decide_eq_false h1]at hbp;rw[hbp]at hs;have e5:(2*(z:Int))=(z2:Int):=by rw[hs];simp
   have e6:IntKind.i64.wrap (z2:Int)=z2:=wi (by omega) (by omega);simp -dsimp -implicitDefEqProofs only[aw,V.copy,eq_self,reduceIte,reduceCtorEq,Nat.reduceBEq,Nat.reduceLT,Nat.reduceEqDiff,e1,e4,decide_eq_false h1,e5,e6];exact⟨hlt,Nxt.same (by simp) hb rfl ⟨rfl,rfl⟩⟩
 ·have hje:k=16:=by omega
  subst hje;simp -dsimp -implicitDefEqProofs only[aw,V.copy,V.lend,eq_self,reduceIte,reduceCtorEq,Nat.reduceBEq,Nat.reduceLT,Nat.reduceEqDiff,decide_eq_false (show ¬(0:Int)≤15-((16:Nat):Int)by omega)];exact fin_ret hb rfl rfl List.take_length ⟨rfl,rfl⟩
theorem testBit_mod(x i:Nat):x.testBit i=decide (x/2^i%2=1):=Nat.testBit_eq_decide_div_mod_eq
theorem r2and_fun(x y:Nat)(hx:x<65536)(hy:y<65536)(σ:List (List V)):Fun G 154 [.d (dint x),.d (dint y)] σ (RetV (.d (dint (x &&& y:Nat))) σ):=by
 refine fun_code Tryz.func154 k154 rfl fun hb hw=>?_;delta c154 oM oV kI kS kT kF;simp -dsimp -implicitDefEqProofs only[aw,slots0,V.copy,V.lend,eq_self,reduceIte,reduceCtorEq,Nat.reduceBEq,Nat.reduceLT,Nat.reduceEqDiff];refine fun_ret (r2bits_fun x y hx hy 2 2 _) ?_
 rw[hib_eq (bitP x y 2 2) (x &&& y) (Nat.lt_of_le_of_lt Nat.and_le_left hx) (fun i hi=>by
  rw[Nat.testBit_and,testBit_mod,testBit_mod,bitP];generalize x/2^i=p;generalize y/2^i=q;rw[Bool.eq_iff_iff];simp only[Bool.and_eq_true,decide_eq_true_eq];omega)]
 simp -dsimp -implicitDefEqProofs only[aw,V.copy,eq_self,reduceIte,reduceCtorEq,Nat.reduceBEq,Nat.reduceLT,Nat.reduceEqDiff];exact fin_ret hb rfl rfl List.take_length ⟨rfl,rfl⟩
theorem r2or_fun(x y:Nat)(hx:x<65536)(hy:y<65536)(σ:List (List V)):Fun G 155 [.d (dint x),.d (dint y)] σ (RetV (.d (dint (x ||| y:Nat))) σ):=by
 refine fun_code Tryz.func155 k155 rfl fun hb hw=>?_;delta c155 oM oV kI kS kT kF;simp -dsimp -implicitDefEqProofs only[aw,slots0,V.copy,V.lend,eq_self,reduceIte,reduceCtorEq,Nat.reduceBEq,Nat.reduceLT,Nat.reduceEqDiff];refine fun_ret (r2bits_fun x y hx hy 1 2 _) ?_
 rw[hib_eq (bitP x y 1 2) (x ||| y) (Nat.or_lt_two_pow (n:=16) hx hy) (fun i hi=>by
  rw[Nat.testBit_or,testBit_mod,testBit_mod,bitP];generalize x/2^i=p;generalize y/2^i=q;rw[Bool.eq_iff_iff];simp only[Bool.and_eq_true,Bool.or_eq_true,decide_eq_true_eq];omega)]
 simp -dsimp -implicitDefEqProofs only[aw,V.copy,eq_self,reduceIte,reduceCtorEq,Nat.reduceBEq,Nat.reduceLT,Nat.reduceEqDiff];exact fin_ret hb rfl rfl List.take_length ⟨rfl,rfl⟩
theorem r2xor_fun(x y:Nat)(hx:x<65536)(hy:y<65536)(σ:List (List V)):Fun G 156 [.d (dint x),.d (dint y)] σ (RetV (.d (dint (x ^^^ y:Nat))) σ):=by
 refine fun_code Tryz.func156 k156 rfl fun hb hw=>?_;delta c156 oM oV kI kS kT kF;simp -dsimp -implicitDefEqProofs only[aw,slots0,V.copy,V.lend,eq_self,reduceIte,reduceCtorEq,Nat.reduceBEq,Nat.reduceLT,Nat.reduceEqDiff];refine fun_ret (r2bits_fun x y hx hy 1 1 _) ?_
 rw[hib_eq (bitP x y 1 1) (x ^^^ y) (Nat.xor_lt_two_pow (n:=16) hx hy) (fun i hi=>by
  rw[Nat.testBit_xor,testBit_mod,testBit_mod,bitP];generalize x/2^i=p;generalize y/2^i=q;by_cases h1:p%2=1<;>by_cases h2:q%2=1<;>simp only[h1,h2,decide_true,decide_false]<;>rw[Bool.eq_iff_iff]<;>simp<;>omega)]
 simp -dsimp -implicitDefEqProofs only[aw,V.copy,eq_self,reduceIte,reduceCtorEq,Nat.reduceBEq,Nat.reduceLT,Nat.reduceEqDiff];exact fin_ret hb rfl rfl List.take_length ⟨rfl,rfl⟩
end Go.Proofs.YthoebpnbhgmoiaaGreatDoor
