import Derived.Test.YthoebpnbhgmoiaaGreatDoorEval
set_option linter.unusedVariables false
set_option linter.unusedSimpArgs false
set_option linter.unusedSectionVars false
open Bool renaming eq_iff_iff→JH,and_eq_true→JI
open Int renaming tmod_eq_emod_of_nonneg→JJ,eq_ofNat_of_zero_le→JK,mul_nonneg→JL,mul_le_mul→JM,ofNat_lt→JO
open List renaming take_length→JP
open Nat renaming reduceEqDiff→JQ,reduceLT→JR,reduceBEq→JS,testBit_eq_decide_div_mod_eq→JT,pow_succ→JU,div_div_eq_div_mul→JV
namespace Go.Proofs.YthoebpnbhgmoiaaGreatDoor
open Go.RowKit
theorem wi{x:Int}(h1 : -9223372036854775808≤x)(h2:x≤9223372036854775807):IntKind.i64.wrap x=x:=by rw[IntKind.wrap_i64];omega
def I64(x:Int):Prop:=-9223372036854775808≤x∧x≤9223372036854775807
theorem sD(n m:Int)(hm:0<m):(0≤n∧n.tmod m=n%m)∨(n<0∧n.tmod m = -((-n)%m)):=by
 by_cases h:0≤n
 ·exact .inl ⟨h,JJ h⟩
 ·refine .inr ⟨by omega,?_⟩;have:=Int.neg_tmod (-n) m;rw[Int.neg_neg]at this;rw[this,JJ (by omega)]
theorem Cr:((65536:Int)=0)=False:=eq_false (by decide)
theorem nz2:((2:Int)=0)=False:=eq_false (by decide)
theorem bR(n:Int)(h:I64 n)(σ:List (List V)):Fun G 147 [.d (ah n)] σ (aO (.d (ah (n%65536))) σ):=by
 unfold I64 at h;refine ao Tryz.func147 IG rfl fun hb hw=>?_;delta FE oM oV kI kS kT kF;have hm:=sD n 65536 (by decide);have e1:IntKind.i64.wrap (n.tmod 65536)=n.tmod 65536:=wi (by omega) (by omega);simp -dsimp -implicitDefEqProofs only[aw,aj,V.copy,eq_self,reduceIte,reduceCtorEq,JS,JR,JQ,Cr];refine cd (fun h1=>?_) (fun h1=>?_)
 ·simp only[decide_eq_true_eq]at h1;have e2:IntKind.i64.wrap (n.tmod 65536+65535)=n.tmod 65536+65535:=wi (by omega) (by omega);have e3:IntKind.i64.wrap (n.tmod 65536+65535+1)=n%65536:=by rw[wi (by omega) (by omega)];omega
  simp -dsimp -implicitDefEqProofs only[aw,V.copy,eq_self,reduceIte,reduceCtorEq,JS,JR,JQ,e2,e3];exact ac hb rfl rfl JP ⟨rfl,rfl⟩
 ·simp only[decide_eq_false_iff_not]at h1;have e2:n.tmod 65536=n%65536:=by omega
  simp -dsimp -implicitDefEqProofs only[aw,V.copy,eq_self,reduceIte,reduceCtorEq,JS,JR,JQ,e2];exact ac hb rfl rfl JP ⟨rfl,rfl⟩
theorem oQ(a b:Int)(ha:I64 a)(hb':I64 b)(σ:List (List V)):Fun G 131 [.d (ah a),.d (ah b)] σ (aO (.d (ah ((a+b)%65536))) σ):=by
 refine ao Tryz.func131 Jb rfl fun hb hw=>?_;delta G0 oM oV kI kS kT kF;simp -dsimp -implicitDefEqProofs only[aw,aj,V.copy,V.lend,eq_self,reduceIte,reduceCtorEq,JS,JR,JQ];refine ae (bR a ha _) ?_;simp -dsimp -implicitDefEqProofs only[aw,V.copy,V.lend,eq_self,reduceIte,reduceCtorEq,JR,JQ];refine ae (bR b hb' _) ?_;have e1:IntKind.i64.wrap (a%65536+b%65536)=a%65536+b%65536:=wi (by omega) (by omega);simp -dsimp -implicitDefEqProofs only[aw,V.lend,eq_self,reduceIte,reduceCtorEq,JR,JQ,e1];refine ae (bR _ ⟨by omega,by omega⟩ _) ?_;have e2:(a%65536+b%65536)%65536=(a+b)%65536:=by omega
 simp -dsimp -implicitDefEqProofs only[aw,V.copy,eq_self,reduceIte,reduceCtorEq,JS,JR,JQ,e2];exact ac hb rfl rfl JP ⟨rfl,rfl⟩
theorem wN(a b:Int)(ha:I64 a)(hb':I64 b)(σ:List (List V)):Fun G 152 [.d (ah a),.d (ah b)] σ (aO (.d (ah ((a-b)%65536))) σ):=by
 refine ao Tryz.func152 JF rfl fun hb hw=>?_;delta GG oM oV kI kS kT kF;simp -dsimp -implicitDefEqProofs only[aw,aj,V.copy,V.lend,eq_self,reduceIte,reduceCtorEq,JS,JR,JQ];refine ae (bR a ha _) ?_;simp -dsimp -implicitDefEqProofs only[aw,V.copy,V.lend,eq_self,reduceIte,reduceCtorEq,JR,JQ];refine ae (bR b hb' _) ?_;have e1:IntKind.i64.wrap (a%65536-b%65536)=a%65536-b%65536:=wi (by omega) (by omega);simp -dsimp -implicitDefEqProofs only[aw,V.lend,eq_self,reduceIte,reduceCtorEq,JR,JQ,e1];refine ae (bR _ ⟨by omega,by omega⟩ _) ?_;have e2:(a%65536-b%65536)%65536=(a-b)%65536:=by omega
 simp -dsimp -implicitDefEqProofs only[aw,V.copy,eq_self,reduceIte,reduceCtorEq,JS,JR,JQ,e2];exact ac hb rfl rfl JP ⟨rfl,rfl⟩
theorem tW{a b:Int}:0≤(a%65536)*(b%65536)∧(a%65536)*(b%65536)≤65536*65536:=by
 have h1:0≤a%65536:=by omega
 have h2:a%65536≤65536:=by omega
 have h3:0≤b%65536:=by omega
 have h4:b%65536≤65536:=by omega
 exact⟨JL h1 h3,JM h2 h4 h3 (by omega)⟩
theorem vZ(a b:Int)(ha:I64 a)(hb':I64 b)(σ:List (List V)):Fun G 153 [.d (ah a),.d (ah b)] σ (aO (.d (ah ((a*b)%65536))) σ):=by
 have hm:=tW (a:=a) (b:=b);refine ao Tryz.func153 Je rfl fun hb hw=>?_;delta Fq oM oV kI kS kT kF;simp -dsimp -implicitDefEqProofs only[aw,aj,V.copy,V.lend,eq_self,reduceIte,reduceCtorEq,JS,JR,JQ];refine ae (bR a ha _) ?_;simp -dsimp -implicitDefEqProofs only[aw,V.copy,V.lend,eq_self,reduceIte,reduceCtorEq,JR,JQ];refine ae (bR b hb' _) ?_;have e1:IntKind.i64.wrap (a%65536*(b%65536))=a%65536*(b%65536):=wi (by omega) (by omega);simp -dsimp -implicitDefEqProofs only[aw,V.lend,eq_self,reduceIte,reduceCtorEq,JR,JQ,e1];refine ae (bR _ ⟨by omega,by omega⟩ _) ?_;have e2:(a%65536*(b%65536))%65536=(a*b)%65536:=(Int.mul_emod a b 65536).symm
 simp -dsimp -implicitDefEqProofs only[aw,V.copy,eq_self,reduceIte,reduceCtorEq,JS,JR,JQ,e2];exact ac hb rfl rfl JP ⟨rfl,rfl⟩
theorem xD(a:Int)(ha:I64 a)(σ:List (List V)):Fun G 150 [.d (ah a)] σ (aO (.d (ah ((-a)%65536))) σ):=by
 refine ao Tryz.func150 Is rfl fun hb hw=>?_;delta EO oM oV kI kS kT kF;simp -dsimp -implicitDefEqProofs only[aw,aj,V.copy,V.lend,eq_self,reduceIte,reduceCtorEq,JS,JR];refine ae (bR a ha _) ?_;have e1:IntKind.i64.wrap (0-a%65536)=0-a%65536:=wi (by omega) (by omega);simp -dsimp -implicitDefEqProofs only[aw,V.lend,eq_self,reduceIte,reduceCtorEq,JR,JQ,e1];refine ae (bR _ ⟨by omega,by omega⟩ _) ?_;have e2:(0-a%65536)%65536=(-a)%65536:=by omega
 simp -dsimp -implicitDefEqProofs only[aw,V.copy,eq_self,reduceIte,reduceCtorEq,JS,JR,JQ,e2];exact ac hb rfl rfl JP ⟨rfl,rfl⟩
theorem vL(a:Int)(ha:I64 a)(σ:List (List V)):Fun G 149 [.d (ah a)] σ (aO (.d (ah (65535-a%65536))) σ):=by
 refine ao Tryz.func149 Ir rfl fun hb hw=>?_;delta GN oM oV kI kS kT kF;simp -dsimp -implicitDefEqProofs only[aw,aj,V.copy,V.lend,eq_self,reduceIte,reduceCtorEq,JS,JR];refine ae (bR a ha _) ?_;have e1:IntKind.i64.wrap (65535-a%65536)=65535-a%65536:=wi (by omega) (by omega);simp -dsimp -implicitDefEqProofs only[aw,V.copy,eq_self,reduceIte,reduceCtorEq,JS,JR,JQ,e1];exact ac hb rfl rfl JP ⟨rfl,rfl⟩
theorem mP{n:Nat}(h:n≤16):1≤(2:Int)^n∧(2:Int)^n≤65536:=by
 have:∀n,n≤16→1≤(2:Int)^n∧(2:Int)^n≤65536:=by decide
 exact this n h
theorem lC(n:Nat)(h:n≤16)(σ:List (List V)):Fun G 167 [.d (ah n)] σ (aO (.d (ah (2^n))) σ):=by
 refine ao Tryz.func167 HP rfl fun hb hw=>?_;delta Ft oM oV kI kS kT kF;simp -dsimp -implicitDefEqProofs only[aw,aj,V.copy,eq_self,reduceIte,reduceCtorEq,JS,JR,JQ];refine bC (R:=fun(j:Nat) ρ σ'=>ρ=[(0,.d (ah n)),(3,aL .i64 (2^j)),(4,aL .i64 j)]∧σ'=σ) n ⟨rfl,rfl⟩ ?_ _;rintro j ρ' σ' hj ⟨rfl,rfl⟩;by_cases hlt:j<n
 ·have hp:=mP (show j+1≤16 by omega);have e1:IntKind.i64.wrap (2*2^j)=2^(j+1):=by rw[Int.pow_succ]at hp ⊢;rw[wi (by omega) (by omega)];omega
  simp -dsimp -implicitDefEqProofs only[aw,V.copy,eq_self,reduceIte,reduceCtorEq,JS,JR,JQ,JO,hlt,decide_true,e1,aH hlt (show n≤9223372036854775807 by omega)];exact Nxt.same (by simp) hb rfl ⟨rfl,rfl⟩
 ·have hje:j=n:=by omega
  subst hje;simp -dsimp -implicitDefEqProofs only[aw,V.copy,eq_self,reduceIte,reduceCtorEq,JS,JR,JQ,JO,hlt,decide_false];exact ac hb rfl rfl JP ⟨rfl,rfl⟩
theorem vN(x:Nat)(hx:x<65536)(n:Int)(σ:List (List V)):Fun G 157 [.d (ah x),.d (ah n)] σ (aO (.d (ah (rm x n))) σ):=by
 refine ao Tryz.func157 Jc rfl fun hb hw=>?_;delta Gu oM oV kI kS kT kF;by_cases h1:n<0
 ·simp -dsimp -implicitDefEqProofs only[aw,aj,V.copy,V.lend,eq_self,reduceIte,reduceCtorEq,JS,JR,JQ,decide_eq_true h1];exact ac hb rfl rfl JP ⟨by unfold rm;rw[if_pos (by omega)];rfl,rfl⟩
 ·by_cases h2:15<n
  ·simp -dsimp -implicitDefEqProofs only[aw,aj,V.copy,V.lend,cond_false,eq_self,reduceIte,reduceCtorEq,JS,JR,JQ,decide_eq_false h1,decide_eq_true h2];exact ac hb rfl rfl JP ⟨by unfold rm;rw[if_pos (by omega)];rfl,rfl⟩
  ·simp -dsimp -implicitDefEqProofs only[aw,aj,V.copy,V.lend,cond_false,eq_self,reduceIte,reduceCtorEq,JS,JR,JQ,decide_eq_false h1,decide_eq_false h2];refine ae (bR _ ⟨by omega,by omega⟩ _) ?_;obtain⟨k,rfl⟩:=JK (show 0≤n by omega);have hp:=mP (show k≤16 by omega);have hm:=JM (show(x:Int)≤65536 by omega) hp.2 (by omega) (by omega);have hm0:=JL (show(0:Int)≤x by omega) (show(0:Int)≤2^k by omega);have e0:(x:Int)%65536=x:=by omega
   simp -dsimp -implicitDefEqProofs only[aw,V.copy,V.lend,eq_self,reduceIte,reduceCtorEq,JR,JQ,e0];refine ae (lC k (by omega) _) ?_;have e1:IntKind.i64.wrap ((x:Int)*2^k)=x*2^k:=wi (by omega) (by omega);simp -dsimp -implicitDefEqProofs only[aw,V.lend,eq_self,reduceIte,reduceCtorEq,JR,JQ,e1];refine ae (bR _ ⟨by omega,by omega⟩ _) ?_;simp -dsimp -implicitDefEqProofs only[aw,V.copy,eq_self,reduceIte,reduceCtorEq,JS,JR,JQ];exact ac hb rfl rfl JP ⟨by unfold rm;rw[if_neg (by omega)];rfl,rfl⟩
theorem oB(x:Nat)(hx:x<65536)(n:Int)(σ:List (List V)):Fun G 158 [.d (ah x),.d (ah n)] σ (aO (.d (ah (nW x n))) σ):=by
 refine ao Tryz.func158 Jt rfl fun hb hw=>?_;delta Gh oM oV kI kS kT kF;by_cases h1:n<0
 ·simp -dsimp -implicitDefEqProofs only[aw,aj,V.copy,V.lend,eq_self,reduceIte,reduceCtorEq,JS,JR,JQ,decide_eq_true h1];exact ac hb rfl rfl JP ⟨by unfold nW;rw[if_pos (by omega)];rfl,rfl⟩
 ·by_cases h2:15<n
  ·simp -dsimp -implicitDefEqProofs only[aw,aj,V.copy,V.lend,cond_false,eq_self,reduceIte,reduceCtorEq,JS,JR,JQ,decide_eq_false h1,decide_eq_true h2];exact ac hb rfl rfl JP ⟨by unfold nW;rw[if_pos (by omega)];rfl,rfl⟩
  ·simp -dsimp -implicitDefEqProofs only[aw,aj,V.copy,V.lend,cond_false,eq_self,reduceIte,reduceCtorEq,JS,JR,JQ,decide_eq_false h1,decide_eq_false h2];refine ae (bR _ ⟨by omega,by omega⟩ _) ?_;obtain⟨k,rfl⟩:=JK (show 0≤n by omega);have hp:=mP (show k≤16 by omega);have e0:(x:Int)%65536=x:=by omega
   have hd0:0≤(x:Int)/2^k:=Int.ediv_nonneg (by omega) (by omega);have hd1:(x:Int)/2^k≤x:=Int.ediv_le_self _ (by omega);have hz:((2:Int)^k=0)=False:=eq_false (by omega);simp -dsimp -implicitDefEqProofs only[aw,V.copy,V.lend,eq_self,reduceIte,reduceCtorEq,JR,JQ,e0];refine ae (lC k (by omega) _) ?_;have e1:IntKind.i64.wrap ((x:Int).tdiv (2^k))=x/2^k:=by rw[Int.tdiv_eq_ediv_of_nonneg (by omega)];exact wi (by omega) (by omega)
   simp -dsimp -implicitDefEqProofs only[aw,V.copy,eq_self,reduceIte,reduceCtorEq,JS,JR,JQ,e1,hz];exact ac hb rfl rfl JP ⟨by unfold nW;rw[if_neg (by omega)];rfl,rfl⟩
theorem kR(x:Nat)(hx:x<65536)(i:Nat)(hi:i<16)(σ:List (List V)):Fun G 165 [.d (ah x),.d (ah i)] σ (aO (.d (ah (x/2^i%2:Nat))) σ):=by
 refine ao Tryz.func165 I9 rfl fun hb hw=>?_;delta GL oM oV kI kS kT kF;simp -dsimp -implicitDefEqProofs only[aw,aj,V.copy,V.lend,eq_self,reduceIte,reduceCtorEq,JS,JR,JQ];refine ae (oB x hx i _) ?_;have e0:nW x i=((x/2^i:Nat):Int):=by unfold nW;rw[if_neg (by omega)];simp
 have e1:IntKind.i64.wrap (((x/2^i:Nat):Int).tmod 2)=((x/2^i%2:Nat):Int):=by
  have h1:x/2^i≤x:=Nat.div_le_self _ _;generalize x/2^i=y at h1;rw[JJ (by omega)];rw[wi (by omega) (by omega)];omega
 simp -dsimp -implicitDefEqProofs only[aw,V.copy,eq_self,reduceIte,reduceCtorEq,JS,JR,JQ,e0,nz2];exact ac hb rfl rfl JP ⟨rfl,rfl⟩
theorem oC:∀(j x:Nat),kA (j+1) x=kA j x+x/2^j%2
 | 0,x=>by simp[kA]
 | j+1,x=>by
  have:=oC j (x/2);have e:x/2/2^j=x/2^(j+1):=by rw[JV,JU,Nat.mul_comm]
  rw[kA,this,e,kA];omega
theorem ts(x:Nat)(hx:x<65536)(σ:List (List V)):Fun G 151 [.d (ah x)] σ (aO (.d (ah (kA 16 x:Nat))) σ):=by
 refine ao Tryz.func151 I3 rfl fun hb hw=>?_;delta EL oM oV kI kS kT kF;simp -dsimp -implicitDefEqProofs only[aw,aj,V.copy,eq_self,reduceIte,reduceCtorEq,JS,JR,JQ];refine bC (R:=fun(j:Nat) ρ σ'=>ρ=[(0,.d (ah x)),(3,aL .i64 (kA j x:Nat)),(4,aL .i64 j)]∧σ'=σ) 16 ⟨rfl,rfl⟩ ?_ _;rintro j ρ' σ' hj ⟨rfl,rfl⟩;by_cases hlt:j<16
 ·have hp:=uj j x;have e1:IntKind.i64.wrap ((kA j x:Nat)+(x/2^j%2:Nat))=((kA (j+1) x:Nat):Int):=by rw[oC,wi (by omega) (by omega)];omega
  simp -dsimp -implicitDefEqProofs only[aw,V.copy,V.lend,eq_self,reduceIte,reduceCtorEq,JS,JR,JQ,decide_eq_true (show(j:Int)<16 by omega)];refine ae (kR x hx j hlt _) ?_;simp -dsimp -implicitDefEqProofs only[aw,V.copy,eq_self,reduceIte,reduceCtorEq,JS,JR,JQ,e1,aH hlt (show 16≤9223372036854775807 by omega)];exact⟨hlt,Nxt.same (by simp) hb rfl ⟨rfl,rfl⟩⟩
 ·have hje:j=16:=by omega
  subst hje;simp -dsimp -implicitDefEqProofs only[aw,V.copy,V.lend,eq_self,reduceIte,reduceCtorEq,JS,JR,JQ,decide_eq_false (show ¬((16:Nat):Int)<16 by omega)];exact ac hb rfl rfl JP ⟨rfl,rfl⟩
def hib(p:Nat→Bool):Nat→Nat
 | 0=>0
 | k+1=>2*hib p k+(p (15-k)).toNat
theorem ym(p:Nat→Bool):∀k,hib p k<2^k
 | 0=>by simp[hib]
 | k+1=>by have:=ym p k;have h2:(p (15-k)).toNat≤1:=Bool.toNat_le _;rw[hib,JU];omega
theorem tM(p:Nat→Bool)(z:Nat)(hz:z<65536)(hp:∀i,i<16→p i=z.testBit i):hib p 16=z:=by
 have H:∀k,k≤16→hib p k=z/2^(16-k):=by
  intro k
  induction k with
  | zero=>intro _;rw[hib,Nat.sub_zero,Nat.div_eq_of_lt hz]
  | succ k ih=>
   intro hk;rw[hib,ih (by omega),hp _ (by omega)];have e:16-k=(16-(k+1))+1:=by omega
   have e2:15-k=16-(k+1):=by omega
   rw[e2,e,JU,←JV,JT];generalize z/2^(16-(k+1))=y;by_cases h:y%2=1
   ·rw[decide_eq_true h];simp only[Bool.toNat_true];omega
   ·rw[decide_eq_false h];simp only[Bool.toNat_false];omega
 rw[H 16 (Nat.le_refl _)];simp
def jE(x y:Nat)(low high:Int)(i:Nat):Bool:=decide (low≤((x/2^i%2:Nat):Int)+(y/2^i%2:Nat))&&decide (((x/2^i%2:Nat):Int)+(y/2^i%2:Nat)≤high)
set_option maxHeartbeats 1000000 in
theorem jt(x y:Nat)(hx:x<65536)(hy:y<65536)(low high:Int)(σ:List (List V)):Fun G 166 [.d (ah x),.d (ah y),.d (ah low),.d (ah high)] σ (aO (.d (ah (hib (jE x y low high) 16:Nat))) σ):=by
 refine ao Tryz.func166 II rfl fun hb hw=>?_;delta EW oM oV kI kS kT kF;simp -dsimp -implicitDefEqProofs only[aw,aj,V.copy,eq_self,reduceIte,reduceCtorEq,JS,JR,JQ,Nat.reduceAdd];refine bC (R:=fun(k:Nat) ρ σ'=>ρ=[(0,.d (ah x)),(1,.d (ah y)),(2,.d (ah low)),(3,.d (ah high)),(9,aL .i64 (hib (jE x y low high) k:Nat)),(10,aL .i64 (15-k))]∧σ'=σ) 16 ⟨rfl,rfl⟩ ?_ _;rintro k ρ' σ' hk ⟨rfl,rfl⟩;by_cases hlt:k<16
 ·have hlh:=ym (jE x y low high) k
  have hpk:2^k≤65536:=by have:∀k,k<16→2^k≤65536:=by decide
                         exact this k hlt
  have ei:(15-(k:Int))=((15-k:Nat):Int):=by omega
  have hs:hib (jE x y low high) (k+1)=2*hib (jE x y low high) k+(jE x y low high (15-k)).toNat:=rfl;have hbp:jE x y low high (15-k)=(decide (low≤((x/2^(15-k)%2:Nat):Int)+(y/2^(15-k)%2:Nat))&&decide (((x/2^(15-k)%2:Nat):Int)+(y/2^(15-k)%2:Nat)≤high)):=rfl;have hp:x/2^(15-k)%2≤1:=by omega
  have hq:y/2^(15-k)%2≤1:=by omega
  simp -dsimp -implicitDefEqProofs only[aw,V.copy,V.lend,eq_self,reduceIte,reduceCtorEq,JS,JR,JQ,ei,decide_eq_true (show(0:Int)≤((15-k:Nat):Int)by omega)];refine ae (kR x hx (15-k) (by omega) _) ?_;simp -dsimp -implicitDefEqProofs only[aw,V.copy,V.lend,eq_self,reduceIte,reduceCtorEq,JR,JQ];refine ae (kR y hy (15-k) (by omega) _) ?_;generalize x/2^(15-k)%2=p at hp hbp;generalize y/2^(15-k)%2=q at hq hbp;generalize hz:hib (jE x y low high) k=z at hlh hs;generalize hz2:hib (jE x y low high) (k+1)=z2 at hs;have e1:IntKind.i64.wrap ((p:Int)+q)=p+q:=wi (by omega) (by omega);have e2:IntKind.i64.wrap (2*(z:Int))=2*z:=wi (by omega) (by omega);have e3:IntKind.i64.wrap (2*(z:Int)+1)=2*z+1:=wi (by omega) (by omega)
  have e4:IntKind.i64.wrap (((15-k:Nat):Int)-1)=15-((k+1:Nat):Int):=by rw[wi (by omega) (by omega)];omega
  by_cases h1:low≤(p:Int)+q
  ·by_cases h2:(p:Int)+q≤high
   ·rw[decide_eq_true h1,decide_eq_true h2]at hbp;rw[hbp]at hs;have e5:(2*(z:Int)+1)=(z2:Int):=by rw[hs];simp
    have e6:IntKind.i64.wrap (z2:Int)=z2:=wi (by omega) (by omega);simp -dsimp -implicitDefEqProofs only[aw,V.copy,cond_true,eq_self,reduceIte,reduceCtorEq,JS,JR,JQ,e1,e2,e4,decide_eq_true h1,decide_eq_true h2,e5,e6];exact⟨hlt,Nxt.same (by simp) hb rfl ⟨rfl,rfl⟩⟩
   ·rw[decide_eq_true h1,decide_eq_false h2]at hbp;rw[hbp]at hs;have e5:(2*(z:Int))=(z2:Int):=by rw[hs];simp
    have e6:IntKind.i64.wrap (z2:Int)=z2:=wi (by omega) (by omega);simp -dsimp -implicitDefEqProofs only[aw,V.copy,cond_true,eq_self,reduceIte,reduceCtorEq,JS,JR,JQ,e1,e4,decide_eq_true h1,decide_eq_false h2,e5,e6];exact⟨hlt,Nxt.same (by simp) hb rfl ⟨rfl,rfl⟩⟩
  ·rw[decide_eq_false h1]at hbp;rw[hbp]at hs;have e5:(2*(z:Int))=(z2:Int):=by rw[hs];simp
   have e6:IntKind.i64.wrap (z2:Int)=z2:=wi (by omega) (by omega);simp -dsimp -implicitDefEqProofs only[aw,V.copy,eq_self,reduceIte,reduceCtorEq,JS,JR,JQ,e1,e4,decide_eq_false h1,e5,e6];exact⟨hlt,Nxt.same (by simp) hb rfl ⟨rfl,rfl⟩⟩
 ·have hje:k=16:=by omega
  subst hje;simp -dsimp -implicitDefEqProofs only[aw,V.copy,V.lend,eq_self,reduceIte,reduceCtorEq,JS,JR,JQ,decide_eq_false (show ¬(0:Int)≤15-((16:Nat):Int)by omega)];exact ac hb rfl rfl JP ⟨rfl,rfl⟩
theorem d8(x i:Nat):x.testBit i=decide (x/2^i%2=1):=JT
theorem w7(x y:Nat)(hx:x<65536)(hy:y<65536)(σ:List (List V)):Fun G 154 [.d (ah x),.d (ah y)] σ (aO (.d (ah (x &&& y:Nat))) σ):=by
 refine ao Tryz.func154 IE rfl fun hb hw=>?_;delta FO oM oV kI kS kT kF;simp -dsimp -implicitDefEqProofs only[aw,aj,V.copy,V.lend,eq_self,reduceIte,reduceCtorEq,JS,JR,JQ];refine ae (jt x y hx hy 2 2 _) ?_
 rw[tM (jE x y 2 2) (x &&& y) (Nat.lt_of_le_of_lt Nat.and_le_left hx) (fun i hi=>by
  rw[Nat.testBit_and,d8,d8,jE];generalize x/2^i=p;generalize y/2^i=q;rw[JH];simp only[JI,decide_eq_true_eq];omega)]
 simp -dsimp -implicitDefEqProofs only[aw,V.copy,eq_self,reduceIte,reduceCtorEq,JS,JR,JQ];exact ac hb rfl rfl JP ⟨rfl,rfl⟩
theorem yB(x y:Nat)(hx:x<65536)(hy:y<65536)(σ:List (List V)):Fun G 155 [.d (ah x),.d (ah y)] σ (aO (.d (ah (x ||| y:Nat))) σ):=by
 refine ao Tryz.func155 IZ rfl fun hb hw=>?_;delta EA oM oV kI kS kT kF;simp -dsimp -implicitDefEqProofs only[aw,aj,V.copy,V.lend,eq_self,reduceIte,reduceCtorEq,JS,JR,JQ];refine ae (jt x y hx hy 1 2 _) ?_
 rw[tM (jE x y 1 2) (x ||| y) (Nat.or_lt_two_pow (n:=16) hx hy) (fun i hi=>by
  rw[Nat.testBit_or,d8,d8,jE];generalize x/2^i=p;generalize y/2^i=q;rw[JH];simp only[JI,Bool.or_eq_true,decide_eq_true_eq];omega)]
 simp -dsimp -implicitDefEqProofs only[aw,V.copy,eq_self,reduceIte,reduceCtorEq,JS,JR,JQ];exact ac hb rfl rfl JP ⟨rfl,rfl⟩
theorem uN(x y:Nat)(hx:x<65536)(hy:y<65536)(σ:List (List V)):Fun G 156 [.d (ah x),.d (ah y)] σ (aO (.d (ah (x ^^^ y:Nat))) σ):=by
 refine ao Tryz.func156 Ii rfl fun hb hw=>?_;delta ET oM oV kI kS kT kF;simp -dsimp -implicitDefEqProofs only[aw,aj,V.copy,V.lend,eq_self,reduceIte,reduceCtorEq,JS,JR,JQ];refine ae (jt x y hx hy 1 1 _) ?_
 rw[tM (jE x y 1 1) (x ^^^ y) (Nat.xor_lt_two_pow (n:=16) hx hy) (fun i hi=>by
  rw[Nat.testBit_xor,d8,d8,jE];generalize x/2^i=p;generalize y/2^i=q;by_cases h1:p%2=1<;>by_cases h2:q%2=1<;>simp only[h1,h2,decide_true,decide_false]<;>rw[JH]<;>simp<;>omega)]
 simp -dsimp -implicitDefEqProofs only[aw,V.copy,eq_self,reduceIte,reduceCtorEq,JS,JR,JQ];exact ac hb rfl rfl JP ⟨rfl,rfl⟩
end Go.Proofs.YthoebpnbhgmoiaaGreatDoor
